/- A part of the proof that the statement FnPatchImageSaid holds, under no condition of its own: Patches carry all changes: the law FnPatchImage over lists of numbers alone. -/
import Derived.Test.YtbgohbinonkhfaaCFnPatchImage1
import Derived.Deep.WholeRow
import Derived.Deep.RegionWith
import Derived.OrdersHeld
import Derived.Deep.RegionHeld
import Derived.RegionTactic
namespace Go.Proofs.Ytbgohbinonkhfaa.Q
open Go.RowKit Go.Proofs.YtbgohbinonkhfaaW.PrintWords Go.Proofs.YtbgohbinonkhfaaW.PrintLast Go.Proofs.YtbgohbinonkhfaaW.PrintMore
attribute [local go_sem] max2_int min2_int max_two min_two max_three min_three max_four min_four
set_option linter.unusedVariables false
set_option linter.unusedSimpArgs false
open Go.Proofs.YtbgohbinonkhfaaW.PrintWords.Aside0 (mk)
set_option maxHeartbeats 12000000
set_option maxRecDepth 100000
def IsS100 (w0 W : World) (g : Nat) (f0 : List Int) (f1 : Int) : Prop := ∃ A0 c0, W.heap[g]? = some (.cells #[.slice A0 f0.length c0, .int .i64 f1] 100 (0, 0)) ∧ w0.heap.size ≤ g ∧ Kd.C (Kd.int .u8) w0 A0 f0.length f0
theorem IsS100.grown {w0 W : World} {g : Nat} {f0 : List Int} {f1 : Int} {W1 : World} {row : Option Nat} (h : IsS100 w0 W g f0 f1) (hw : W.grownBy W1 row) (hne : some g ≠ row) : IsS100 w0 W1 g f0 f1 := by
 obtain ⟨A0, c0, hb, hg, hr0⟩ := h
 exact ⟨A0, c0, blk_grown hb hw hne, hg, hr0⟩
theorem IsS100.own_neN {w0 W : World} {g : Nat} {f0 : List Int} {f1 : Int} {α : Type} {d : Kd α} {e : Nat} {base : Nat} {ok : Nat → Prop} {v : Value} {xs : List α} (h : IsS100 w0 W g f0 f1) (ho : Kd.N d e W base ok v xs) (ht : e ≠ 100) : some g ≠ v.ownBlock := by
 obtain ⟨A0, c0, hb, hg, hr0⟩ := h
 exact Kd.N_ne ho hb ht
theorem IsS100.fresh {w0 W : World} {g : Nat} {f0 : List Int} {f1 : Int} (h : IsS100 w0 W g f0 f1) : ∀ k, W.heap.size ≤ k → k ≠ g := by
 obtain ⟨A0, c0, hb, hg, hr0⟩ := h
 exact Kd.freshB hb
theorem IsS100.kept {w0 W : World} {g : Nat} {f0 : List Int} {f1 : Int} {W1 : World} {S : Nat → Prop} (h : IsS100 w0 W g f0 f1) (hk : Kept W W1 S) (hne : ¬ S g) : IsS100 w0 W1 g f0 f1 := by
 obtain ⟨A0, c0, hb, hg, hr0⟩ := h
 exact ⟨A0, c0, blk_kept hb hk hne, hg, hr0⟩
theorem IsS100.below {w0 W : World} {g : Nat} {f0 : List Int} {f1 : Int} {W1 : World} (h : IsS100 w0 W g f0 f1) (hw : Below W.heap.size W W1) : IsS100 w0 W1 g f0 f1 := h.grown (grown_of_below hw none) (by simp)
theorem IsS100.alloc {w0 W : World} {g : Nat} {f0 : List Int} {f1 : Int} (h : IsS100 w0 W g f0 f1) (o : Obj) : IsS100 w0 (W.alloc o) g f0 f1 := h.below (below_alloc (Below.refl _ _) o)
theorem IsS100.drewN {w0 W : World} {g : Nat} {f0 : List Int} {f1 : Int} (h : IsS100 w0 W g f0 f1) (m : Nat) : IsS100 w0 (W.drewN m) g f0 f1 := h
theorem IsS100.drew {w0 W : World} {g : Nat} {f0 : List Int} {f1 : Int} (h : IsS100 w0 W g f0 f1) : IsS100 w0 W.drew g f0 f1 := h
theorem IsS100.at_ {w0 W : World} {g : Nat} {f0 : List Int} {f1 : Int} {w' : World} {m : Nat} (hq : W.drewN m = w') (h : IsS100 w0 W g f0 f1) : IsS100 w0 w' g f0 f1 := by subst hq; exact IsS100.drewN h m
theorem IsS100.apart {w0 W : World} {g : Nat} {f0 : List Int} {f1 : Int} {α : Type} {d : Kd α} {e : Nat} {base : Nat} {ok : Nat → Prop} {v : Value} {xs : List α} (h : IsS100 w0 W g f0 f1) (ho : d.R e W base ok v xs) (ht : ∀ q, q ∈ e :: d.E → q ≠ 100) : d.R e W base (fun k => ok k ∧ k ≠ g) v xs := by
 obtain ⟨A0, c0, hb, hg, hr0⟩ := h
 exact Kd.R_types ho hb ht
theorem IsS100.own_ne {w0 W : World} {g : Nat} {f0 : List Int} {f1 : Int} {α : Type} {d : Kd α} {e : Nat} {base : Nat} {ok : Nat → Prop} {v : Value} {xs : List α} (h : IsS100 w0 W g f0 f1) (ho : d.R e W base ok v xs) (ht : e ≠ 100) : some g ≠ v.ownBlock := by
 obtain ⟨A0, c0, hb, hg, hr0⟩ := h
 exact Kd.R_ne ho hb ht
theorem IsS100.apartQ {w0 W : World} {g : Nat} {f0 : List Int} {f1 : Int} {α : Type} {d : Kd α} {e : Nat} {base : Nat} {ok : Nat → Prop} {v : Value} {xs : List α} (h : IsS100 w0 W g f0 f1) (ho : d.Q e W base ok v xs) (ht : ∀ q, q ∈ e :: d.E → q ≠ 100) : d.Q e W base (fun k => ok k ∧ k ≠ g) v xs := by
 obtain ⟨A0, c0, hb, hg, hr0⟩ := h
 exact Kd.Q_types ho hb ht
theorem IsS100.own_neQ {w0 W : World} {g : Nat} {f0 : List Int} {f1 : Int} {α : Type} {d : Kd α} {e : Nat} {base : Nat} {ok : Nat → Prop} {v : Value} {xs : List α} (h : IsS100 w0 W g f0 f1) (ho : d.Q e W base ok v xs) (ht : e ≠ 100) : some g ≠ v.ownBlock := by
 obtain ⟨A0, c0, hb, hg, hr0⟩ := h
 exact Kd.Q_ne ho hb ht
theorem IsS100.apartS {w0 W : World} {g : Nat} {f0 : List Int} {f1 : Int} {α : Type} {d : Kd α} {e : Nat} {base : Nat} {ok : Nat → Prop} {v : Value} {xs : List α} (h : IsS100 w0 W g f0 f1) (ho : d.S e W base ok v xs) (ht : ∀ q, q ∈ e :: d.E → q ≠ 100) : d.S e W base (fun k => ok k ∧ k ≠ g) v xs := by
 obtain ⟨A0, c0, hb, hg, hr0⟩ := h
 exact Kd.S_types ho hb ht
theorem IsS100.own_neS {w0 W : World} {g : Nat} {f0 : List Int} {f1 : Int} {α : Type} {d : Kd α} {e : Nat} {base : Nat} {ok : Nat → Prop} {v : Value} {xs : List α} (h : IsS100 w0 W g f0 f1) (ho : d.S e W base ok v xs) (ht : e ≠ 100) : some g ≠ v.ownBlock := by
 obtain ⟨A0, c0, hb, hg, hr0⟩ := h
 exact Kd.S_ne ho hb ht
theorem IsS100.lt {w0 W : World} {g : Nat} {f0 : List Int} {f1 : Int} (h : IsS100 w0 W g f0 f1) : g < W.heap.size := by
 obtain ⟨A0, c0, hb, hg, hr0⟩ := h
 exact blk_lt hb
theorem IsS100.ge {w0 W : World} {g : Nat} {f0 : List Int} {f1 : Int} (h : IsS100 w0 W g f0 f1) : w0.heap.size ≤ g := by
 obtain ⟨A0, c0, hb, hg, hr0⟩ := h
 exact hg
theorem IsS100.ne_blk {w0 W : World} {g : Nat} {f0 : List Int} {f1 : Int} {a : Nat} {cs : Array Value} {t : TypeId} {fr : Nat × Nat} (h : IsS100 w0 W g f0 f1) (hb2 : W.heap[a]? = some (.cells cs t fr)) (ht : t ≠ 100) : g ≠ a := by
 obtain ⟨A0, c0, hb, hg, hr0⟩ := h
 rintro rfl
 rw [hb] at hb2
 injection hb2 with hb2
 injection hb2 with _ ht2
 exact ht ht2.symm
theorem IsS100.far {w0 W : World} {g : Nat} {f0 : List Int} {f1 : Int} {p : Addr} (h : IsS100 w0 W g f0 f1) (hne : g ≠ p.block) (u : Value) : IsS100 w0 (W.setCell p u) g f0 f1 := by
 obtain ⟨A0, c0, hb, hg, hr0⟩ := h
 exact ⟨A0, c0, blk_far hb hne u, hg, hr0⟩
theorem cellS100_0 {W : World} {g : Nat} {A0 : Option Addr} {c0 : Nat} {f0 : List Int} {f1 : Int} (h : W.heap[g]? = some (.cells #[.slice A0 f0.length c0, .int .i64 f1] 100 (0, 0))) : W.cell? ⟨g, 0, none⟩ = some (.slice A0 f0.length c0) := (blk_cell h 0).trans rfl
theorem cellS100_1 {W : World} {g : Nat} {A0 : Option Addr} {c0 : Nat} {f0 : List Int} {f1 : Int} (h : W.heap[g]? = some (.cells #[.slice A0 f0.length c0, .int .i64 f1] 100 (0, 0))) : W.cell? ⟨g, 1, none⟩ = some (.int .i64 f1) := (blk_cell h 1).trans rfl
theorem IsS100.set_1 {w0 W : World} {g : Nat} {f0 : List Int} {f1 : Int} (h : IsS100 w0 W g f0 f1) (x : Int) : IsS100 w0 (W.setCell ⟨g, 1, none⟩ (.int .i64 x)) g f0 x := by
 obtain ⟨A0, c0, hb, hg, hr0⟩ := h
 exact ⟨A0, c0, by simpa using blk_set hb 1 (.int .i64 x), hg, hr0⟩
theorem IsS100.new (w0 W : World) (A0 : Option Addr) (c0 : Nat) (f0 : List Int) (f1 : Int) (hB : Below w0.heap.size w0 W) (hr0 : Kd.C (Kd.int .u8) w0 A0 f0.length f0) : IsS100 w0 (W.alloc (.cells #[.slice A0 f0.length c0, .int .i64 f1] 100)) W.heap.size f0 f1 := ⟨A0, c0, by simpa using heap_alloc_new W _, hB.size, hr0⟩

def spec_reader_pick.j0 : Nat → Int → Bool → List Int → Int → Option (Int × Int)
 | 0, _, _, _, _ => none
 | k + 1, x1, x24, x1000, x1001 => if x24 = true then (some (0, x1001)) else (if (wrap64 (x1001 - 1)) < (x1000.length : Int) then (if 0 ≤ (wrap64 (x1001 - 1)) then (if x1 = 0 then none else (some (Int.tmod (wrap64 (rd x1000 (wrap64 (x1001 - 1)))) x1, x1001))) else none) else (if (x1000.length : Int) = 0 then none else (if 0 ≤ (Int.tmod (wrap64 (x1001 - 1)) (x1000.length : Int)) then (if (Int.tmod (wrap64 (x1001 - 1)) (x1000.length : Int)) < (x1000.length : Int) then (if 0 ≤ (Int.tmod (wrap64 ((wrap64 ((wrap64 (x1001 - 1)) * 7)) + 3)) (x1000.length : Int)) then (if (Int.tmod (wrap64 ((wrap64 ((wrap64 (x1001 - 1)) * 7)) + 3)) (x1000.length : Int)) < (x1000.length : Int) then (if x1 = 0 then none else (some (Int.tmod (Go.bits .xor .i64 (wrap64 ((wrap64 ((wrap64 ((wrap64 ((wrap64 (rd x1000 (Int.tmod (wrap64 (x1001 - 1)) (x1000.length : Int)))) * 131)) + (wrap64 ((wrap64 (rd x1000 (Int.tmod (wrap64 ((wrap64 ((wrap64 (x1001 - 1)) * 7)) + 3)) (x1000.length : Int)))) * 1117)))) + (wrap64 ((wrap64 (x1001 - 1)) * 29)))) + (wrap64 ((wrap64 (Int.tdiv (wrap64 (x1001 - 1)) (x1000.length : Int))) * 53)))) (wrap64 (Int.tdiv (wrap64 ((wrap64 ((wrap64 ((wrap64 ((wrap64 (rd x1000 (Int.tmod (wrap64 (x1001 - 1)) (x1000.length : Int)))) * 131)) + (wrap64 ((wrap64 (rd x1000 (Int.tmod (wrap64 ((wrap64 ((wrap64 (x1001 - 1)) * 7)) + 3)) (x1000.length : Int)))) * 1117)))) + (wrap64 ((wrap64 (x1001 - 1)) * 29)))) + (wrap64 ((wrap64 (Int.tdiv (wrap64 (x1001 - 1)) (x1000.length : Int))) * 53)))) 64))) x1, x1001))) else none) else none) else none) else none)))
def spec_reader_pick.f (k : Nat) (s0_0 : List Int) (s0_1 : Int) (a1 : Int) : Option (Int × Int) := if a1 < 1 then (spec_reader_pick.j0 k a1 true s0_0 (wrap64 (s0_1 + 1))) else (spec_reader_pick.j0 k a1 ((s0_0.length : Int) == 0) s0_0 (wrap64 (s0_1 + 1)))
theorem spec_reader_pick.calls (k : Nat) (g : Nat) (s0_0 : List Int) (s0_1 : Int) (a1 : Int) (r1 : Int) (r2 : Int) (w0 w : World) (hI : IsS100 w0 w g s0_0 s0_1) (hB : Below w0.heap.size w0 w) (h : spec_reader_pick.f k s0_0 s0_1 a1 = some (r1, r2)) :
  Calls Try.prog 82 #[.pointer (some ⟨g, 0, none⟩), .int .i64 a1] w fun e w' => e = .returned (.int .i64 r1) ∧ IsS100 w0 w' g s0_0 r2 ∧ Below w0.heap.size w0 w' ∧ KeepBut w w' g none := by
 have HI0 := Aside0.mk hI
 have HK := Aside0.mk (KeepBut.refl w g none)
 clear hI
 have HB := Aside0.mk hB
 clear hB
 have H : (if a1 < 1 then (spec_reader_pick.j0 k a1 true s0_0 (wrap64 (s0_1 + 1))) else (spec_reader_pick.j0 k a1 ((s0_0.length : Int) == 0) s0_0 (wrap64 (s0_1 + 1)))) = some (r1, r2) := h
 clear h
 have HC3 := Aside0.mk H
 clear H
 obtain ⟨ASz4_0, cSz4_0, HGz4, hgz4, HSz4_0⟩ := HI0.out
 have hcz4_0 := cellS100_0 HGz4
 have hcz4_1 := cellS100_1 HGz4
 have hfz4_1 := blk_frozen HGz4 1
 clear HGz4 hgz4
 go_enter Try.func82, Try.ntmps82
 go_upto_region 2 with (fail)
 repeat (go_quiet (fail); go_upto_region 2 with fail)
 go_cut [24] (fun v24 wc => ∃ (kq : Nat) (x24_2 : Bool), v24 = .bool x24_2 ∧ Aside0 (spec_reader_pick.j0 kq a1 x24_2 s0_0 (wrap64 (s0_1 + 1)) = some (r1, r2)) ∧ Aside0 (kq ≤ k) ∧ Aside0 (IsS100 w0 wc g s0_0 (wrap64 (s0_1 + 1))) ∧ Aside0 (KeepBut w wc g none) ∧ Aside0 (Below w0.heap.size w0 wc))
 case first =>
  have H := HC3.out
  clear HC3
  by_cases c5 : a1 < 1
  ·rw [if_pos c5] at H
   have c5b0 : decide (a1 < 1) = true := decide_eq_true c5
   clear c5
   (skip)
   have H' := Aside0.mk H
   clear H
   go_wp2
   repeat (go_quiet (fail); try go_wp2)
   go_meet
   case rel => exact ⟨_, (true), (by rfl), H', ⟨by omega⟩, ⟨by repeat (with_reducible first | exact HI0.out | apply IsS100.set_1)⟩, ⟨by repeat (with_reducible first | exact HK.out | apply KeepBut.set_)⟩, ⟨by repeat ((with_reducible first | exact HB.out | refine below_set ?_ (IsS100.ge HI0.out)))⟩⟩
  rw [if_neg c5] at H
  have c5b0 : decide (a1 < 1) = false := decide_eq_false c5
  clear c5
  (skip)
  have H' := Aside0.mk H
  clear H
  obtain ⟨ASz6_0, cSz6_0, HGz6, hgz6, HSz6_0⟩ := HI0.out
  clear HGz6 hgz6
  go_wp2
  repeat (go_quiet (fail); try go_wp2)
  go_meet
  case rel => exact ⟨_, (((s0_0.length : Int) == 0)), (by rfl), H', ⟨by omega⟩, ⟨by repeat (with_reducible first | exact HI0.out | apply IsS100.set_1)⟩, ⟨by repeat (with_reducible first | exact HK.out | apply KeepBut.set_)⟩, ⟨by repeat ((with_reducible first | exact HB.out | refine below_set ?_ (IsS100.ge HI0.out)))⟩⟩
 case rest =>
  clear HC3
  obtain ⟨kq, x24_2, rfl, HA, HJ2, HI0, HK, HB⟩ := hcut
  cases kq with
  | zero => exact absurd HA.out (by simp [spec_reader_pick.j0])
  | succ kj2 =>
   have H := HA.out
   clear HA
   simp only [spec_reader_pick.j0] at H
   by_cases c7 : x24_2 = true
   ·subst c7
    have H1 : (some (0, (wrap64 (s0_1 + 1)))) = some (r1, r2) := by rw [if_pos rfl] at H; exact H
    clear H
    have H := H1
    clear H1
    simp only [Option.some.injEq, Prod.mk.injEq] at H
    obtain ⟨rfl, rfl⟩ := H
    go_wp2
    repeat (go_quiet (fail); try go_wp2)
    go_ret
    exact ⟨by rfl, by exact HI0.out, by exact HB.out, by exact HK.out⟩
   replace c7 := Bool.eq_false_iff.mpr c7
   subst c7
   have H1 : (if (wrap64 ((wrap64 (s0_1 + 1)) - 1)) < (s0_0.length : Int) then (if 0 ≤ (wrap64 ((wrap64 (s0_1 + 1)) - 1)) then (if a1 = 0 then none else (some (Int.tmod (wrap64 (rd s0_0 (wrap64 ((wrap64 (s0_1 + 1)) - 1)))) a1, (wrap64 (s0_1 + 1))))) else none) else (if (s0_0.length : Int) = 0 then none else (if 0 ≤ (Int.tmod (wrap64 ((wrap64 (s0_1 + 1)) - 1)) (s0_0.length : Int)) then (if (Int.tmod (wrap64 ((wrap64 (s0_1 + 1)) - 1)) (s0_0.length : Int)) < (s0_0.length : Int) then (if 0 ≤ (Int.tmod (wrap64 ((wrap64 ((wrap64 ((wrap64 (s0_1 + 1)) - 1)) * 7)) + 3)) (s0_0.length : Int)) then (if (Int.tmod (wrap64 ((wrap64 ((wrap64 ((wrap64 (s0_1 + 1)) - 1)) * 7)) + 3)) (s0_0.length : Int)) < (s0_0.length : Int) then (if a1 = 0 then none else (some (Int.tmod (Go.bits .xor .i64 (wrap64 ((wrap64 ((wrap64 ((wrap64 ((wrap64 (rd s0_0 (Int.tmod (wrap64 ((wrap64 (s0_1 + 1)) - 1)) (s0_0.length : Int)))) * 131)) + (wrap64 ((wrap64 (rd s0_0 (Int.tmod (wrap64 ((wrap64 ((wrap64 ((wrap64 (s0_1 + 1)) - 1)) * 7)) + 3)) (s0_0.length : Int)))) * 1117)))) + (wrap64 ((wrap64 ((wrap64 (s0_1 + 1)) - 1)) * 29)))) + (wrap64 ((wrap64 (Int.tdiv (wrap64 ((wrap64 (s0_1 + 1)) - 1)) (s0_0.length : Int))) * 53)))) (wrap64 (Int.tdiv (wrap64 ((wrap64 ((wrap64 ((wrap64 ((wrap64 (rd s0_0 (Int.tmod (wrap64 ((wrap64 (s0_1 + 1)) - 1)) (s0_0.length : Int)))) * 131)) + (wrap64 ((wrap64 (rd s0_0 (Int.tmod (wrap64 ((wrap64 ((wrap64 ((wrap64 (s0_1 + 1)) - 1)) * 7)) + 3)) (s0_0.length : Int)))) * 1117)))) + (wrap64 ((wrap64 ((wrap64 (s0_1 + 1)) - 1)) * 29)))) + (wrap64 ((wrap64 (Int.tdiv (wrap64 ((wrap64 (s0_1 + 1)) - 1)) (s0_0.length : Int))) * 53)))) 64))) a1, (wrap64 (s0_1 + 1))))) else none) else none) else none) else none))) = some (r1, r2) := by rw [if_neg (show ¬ (false = true) by decide)] at H; exact H
   clear H
   have H := H1
   clear H1
   by_cases c8 : (wrap64 ((wrap64 (s0_1 + 1)) - 1)) < (s0_0.length : Int)
   ·rw [if_pos c8] at H
    have c8b0 : decide ((wrap64 ((wrap64 (s0_1 + 1)) - 1)) < (s0_0.length : Int)) = true := decide_eq_true c8
    clear c8
    obtain ⟨ji9, hji9⟩ : ∃ j_ : Int, (wrap64 ((wrap64 (s0_1 + 1)) - 1)) = j_ := ⟨_, rfl⟩
    replace H : (if 0 ≤ ji9 then (if a1 = 0 then none else (some (Int.tmod (wrap64 (rd s0_0 ji9)) a1, (wrap64 (s0_1 + 1))))) else none) = some (r1, r2) := by (rw [hji9] at H; exact H)
    (try rw [hji9] at c8b0)
    have hji9w : (IntKind.i64.wrap ((wrap64 (s0_1 + 1)) - 1)) = ji9 := (i64_w _).trans hji9
    by_cases c10 : 0 ≤ (ji9)
    ·rw [if_pos c10] at H
     have c10b0 : decide (0 ≤ ji9) = true := decide_eq_true c10
     clear c10
     by_cases c11 : a1 = 0
     ·rw [if_pos c11] at H
      exact absurd H (by simp)
     rw [if_neg c11] at H
     simp only [Option.some.injEq, Prod.mk.injEq] at H
     obtain ⟨rfl, rfl⟩ := H
     obtain ⟨ASz12_0, cSz12_0, HGz12, hgz12, HSz12_0⟩ := HI0.out
     have hcz12_0 := cellS100_0 HGz12
     have hcz12_1 := cellS100_1 HGz12
     clear HGz12 hgz12
     have p83001 : 0 ≤ (ji9 : Int) := of_decide_eq_true (by (with_reducible assumption))
     have q83001 : ji9 < (s0_0.length : Int) := of_decide_eq_true (by (with_reducible assumption))
     obtain ⟨ad83001, e83001, hx83001_0⟩ := Kd.at_int HSz12_0 ji9 p83001 q83001
     cases e83001
     replace hx83001_0 := pw_cell_below HB.out hx83001_0
     replace p83001 := eq_true p83001
     replace q83001 := eq_true q83001
     go_wp2
     repeat (go_quiet (fail); try go_wp2)
     go_ret
     exact ⟨by rfl, by exact HI0.out, by exact HB.out, by exact HK.out⟩
    rw [if_neg c10] at H
    exact absurd H (by simp)
   rw [if_neg c8] at H
   have c8b0 : decide ((wrap64 ((wrap64 (s0_1 + 1)) - 1)) < (s0_0.length : Int)) = false := decide_eq_false c8
   clear c8
   by_cases c13 : (s0_0.length : Int) = 0
   ·rw [if_pos c13] at H
    exact absurd H (by simp)
   rw [if_neg c13] at H
   have c13b2 : ¬ (s0_0 = []) := fun h_ => c13 (by rw [h_]; rfl)
   obtain ⟨ji14, hji14⟩ : ∃ j_ : Int, (Int.tmod (wrap64 ((wrap64 (s0_1 + 1)) - 1)) (s0_0.length : Int)) = j_ := ⟨_, rfl⟩
   replace H : (if 0 ≤ ji14 then (if ji14 < (s0_0.length : Int) then (if 0 ≤ (Int.tmod (wrap64 ((wrap64 ((wrap64 ((wrap64 (s0_1 + 1)) - 1)) * 7)) + 3)) (s0_0.length : Int)) then (if (Int.tmod (wrap64 ((wrap64 ((wrap64 ((wrap64 (s0_1 + 1)) - 1)) * 7)) + 3)) (s0_0.length : Int)) < (s0_0.length : Int) then (if a1 = 0 then none else (some (Int.tmod (Go.bits .xor .i64 (wrap64 ((wrap64 ((wrap64 ((wrap64 ((wrap64 (rd s0_0 ji14)) * 131)) + (wrap64 ((wrap64 (rd s0_0 (Int.tmod (wrap64 ((wrap64 ((wrap64 ((wrap64 (s0_1 + 1)) - 1)) * 7)) + 3)) (s0_0.length : Int)))) * 1117)))) + (wrap64 ((wrap64 ((wrap64 (s0_1 + 1)) - 1)) * 29)))) + (wrap64 ((wrap64 (Int.tdiv (wrap64 ((wrap64 (s0_1 + 1)) - 1)) (s0_0.length : Int))) * 53)))) (wrap64 (Int.tdiv (wrap64 ((wrap64 ((wrap64 ((wrap64 ((wrap64 (rd s0_0 ji14)) * 131)) + (wrap64 ((wrap64 (rd s0_0 (Int.tmod (wrap64 ((wrap64 ((wrap64 ((wrap64 (s0_1 + 1)) - 1)) * 7)) + 3)) (s0_0.length : Int)))) * 1117)))) + (wrap64 ((wrap64 ((wrap64 (s0_1 + 1)) - 1)) * 29)))) + (wrap64 ((wrap64 (Int.tdiv (wrap64 ((wrap64 (s0_1 + 1)) - 1)) (s0_0.length : Int))) * 53)))) 64))) a1, (wrap64 (s0_1 + 1))))) else none) else none) else none) else none) = some (r1, r2) := by (rw [hji14] at H; exact H)
   by_cases c15 : 0 ≤ (ji14)
   ·rw [if_pos c15] at H
    have c15b0 : decide (0 ≤ ji14) = true := decide_eq_true c15
    clear c15
    by_cases c16 : ji14 < (s0_0.length : Int)
    ·rw [if_pos c16] at H
     have c16b0 : decide (ji14 < (s0_0.length : Int)) = true := decide_eq_true c16
     clear c16
     obtain ⟨ji17, hji17⟩ : ∃ j_ : Int, (Int.tmod (wrap64 ((wrap64 ((wrap64 ((wrap64 (s0_1 + 1)) - 1)) * 7)) + 3)) (s0_0.length : Int)) = j_ := ⟨_, rfl⟩
     replace H : (if 0 ≤ ji17 then (if ji17 < (s0_0.length : Int) then (if a1 = 0 then none else (some (Int.tmod (Go.bits .xor .i64 (wrap64 ((wrap64 ((wrap64 ((wrap64 ((wrap64 (rd s0_0 ji14)) * 131)) + (wrap64 ((wrap64 (rd s0_0 ji17)) * 1117)))) + (wrap64 ((wrap64 ((wrap64 (s0_1 + 1)) - 1)) * 29)))) + (wrap64 ((wrap64 (Int.tdiv (wrap64 ((wrap64 (s0_1 + 1)) - 1)) (s0_0.length : Int))) * 53)))) (wrap64 (Int.tdiv (wrap64 ((wrap64 ((wrap64 ((wrap64 ((wrap64 (rd s0_0 ji14)) * 131)) + (wrap64 ((wrap64 (rd s0_0 ji17)) * 1117)))) + (wrap64 ((wrap64 ((wrap64 (s0_1 + 1)) - 1)) * 29)))) + (wrap64 ((wrap64 (Int.tdiv (wrap64 ((wrap64 (s0_1 + 1)) - 1)) (s0_0.length : Int))) * 53)))) 64))) a1, (wrap64 (s0_1 + 1))))) else none) else none) = some (r1, r2) := by (rw [hji17] at H; exact H)
     by_cases c18 : 0 ≤ (ji17)
     ·rw [if_pos c18] at H
      have c18b0 : decide (0 ≤ ji17) = true := decide_eq_true c18
      clear c18
      by_cases c19 : ji17 < (s0_0.length : Int)
      ·rw [if_pos c19] at H
       have c19b0 : decide (ji17 < (s0_0.length : Int)) = true := decide_eq_true c19
       clear c19
       by_cases c20 : a1 = 0
       ·rw [if_pos c20] at H
        exact absurd H (by simp)
       rw [if_neg c20] at H
       simp only [Option.some.injEq, Prod.mk.injEq] at H
       obtain ⟨rfl, rfl⟩ := H
       obtain ⟨ASz21_0, cSz21_0, HGz21, hgz21, HSz21_0⟩ := HI0.out
       have hcz21_0 := cellS100_0 HGz21
       have hcz21_1 := cellS100_1 HGz21
       clear HGz21 hgz21
       have p83002 : 0 ≤ (ji14 : Int) := of_decide_eq_true (by (with_reducible assumption))
       have q83002 : ji14 < (s0_0.length : Int) := of_decide_eq_true (by (with_reducible assumption))
       obtain ⟨ad83002, e83002, hx83002_0⟩ := Kd.at_int HSz21_0 ji14 p83002 q83002
       cases e83002
       replace hx83002_0 := pw_cell_below HB.out hx83002_0
       replace p83002 := eq_true p83002
       replace q83002 := eq_true q83002
       have p83003 : 0 ≤ (ji17 : Int) := of_decide_eq_true (by (with_reducible assumption))
       have q83003 : ji17 < (s0_0.length : Int) := of_decide_eq_true (by (with_reducible assumption))
       obtain ⟨ad83003, e83003, hx83003_0⟩ := Kd.at_int HSz21_0 ji17 p83003 q83003
       obtain rfl : ad83002 = ad83003 := (by injection e83003)
       replace hx83003_0 := pw_cell_below HB.out hx83003_0
       replace p83003 := eq_true p83003
       replace q83003 := eq_true q83003
       go_wp2
       repeat (go_quiet (fail); try go_wp2)
       go_ret
       exact ⟨by rfl, by repeat (with_reducible first | exact HI0.out | apply IsS100.drewN), by repeat (with_reducible first | exact HB.out | apply pw_below_drewN), by repeat (with_reducible first | exact HK.out | apply keep_drewN)⟩
      rw [if_neg c19] at H
      exact absurd H (by simp)
     rw [if_neg c18] at H
     exact absurd H (by simp)
    rw [if_neg c16] at H
    exact absurd H (by simp)
   rw [if_neg c15] at H
   exact absurd H (by simp)


def spec_reader_one.f (k : Nat) (s0_0 : List Int) (s0_1 : Int) (l1 : List Int) : Option (Int × Int) := (spec_reader_pick.f k s0_0 s0_1 (l1.length : Int)).bind fun bt74001 => (if 0 ≤ bt74001.1 then (if bt74001.1 < (l1.length : Int) then (some (rd l1 bt74001.1, bt74001.2)) else (none)) else (none))
theorem spec_reader_one.calls (k : Nat) (g : Nat) (s0_0 : List Int) (s0_1 : Int) (A1 : Option Addr) (c1 : Nat) (l1 : List Int) (r1 : Int) (r2 : Int) (w0 w : World) (hI : IsS100 w0 w g s0_0 s0_1) (hB : Below w0.heap.size w0 w) (hr1 : Kd.C (Kd.int .i64) w A1 l1.length l1) (hc1 : l1.length ≤ c1) (hf1 : ∀ ad, A1 = some ad → 0 < l1.length → ad.block ≠ g) (h : spec_reader_one.f k s0_0 s0_1 l1 = some (r1, r2)) :
  Calls Try.prog 73 #[.pointer (some ⟨g, 0, none⟩), .slice A1 l1.length c1] w fun e w' => e = .returned (.int .i64 r1) ∧ IsS100 w0 w' g s0_0 r2 ∧ Below w0.heap.size w0 w' ∧ KeepBut w w' g none := by
 have HR1 := Aside0.mk hr1
 have HC1 := Aside0.mk hc1
 clear hr1 hc1
 have HI0 := Aside0.mk hI
 have HK := Aside0.mk (KeepBut.refl w g none)
 have HL := Aside0.mk hB.size
 clear hI
 have HW0 := Aside0.mk hB.size
 have HB := Aside0.mk hB
 clear hB
 have H : ((spec_reader_pick.f k s0_0 s0_1 (l1.length : Int)).bind fun bt74001 => (if 0 ≤ bt74001.1 then (if bt74001.1 < (l1.length : Int) then (some (rd l1 bt74001.1, bt74001.2)) else (none)) else (none))) = some (r1, r2) := h
 clear h
 replace H := Option.bind_eq_some_iff.mp H
 obtain ⟨⟨t74001, t74002⟩, A30, H⟩ := H
 replace H : (if 0 ≤ t74001 then (if t74001 < (l1.length : Int) then (some (rd l1 t74001, t74002)) else (none)) else (none)) = some (r1, r2) := H
 have A3 := Aside0.mk A30
 clear A30
 by_cases c4 : 0 ≤ t74001
 ·rw [if_pos c4] at H
  have c4b0 : decide (0 ≤ t74001) = true := decide_eq_true c4
  clear c4
  by_cases c5 : t74001 < (l1.length : Int)
  ·rw [if_pos c5] at H
   have c5b0 : decide (t74001 < (l1.length : Int)) = true := decide_eq_true c5
   clear c5
   simp only [Option.some.injEq, Prod.mk.injEq] at H
   obtain ⟨rfl, rfl⟩ := H
   go_enter Try.func73, Try.ntmps73
   go_wp2_with (first | ((with_reducible refine gate_callee (f := 82) rfl ?_); refine goesL_ (some 9) rfl rfl Try.func82 (by kernel_rfl) rfl #[.pointer (some ⟨g, 0, none⟩), .int .i64 (l1.length : Int)] rfl (by (try simp only [List.map_toArray, List.map_cons, List.map_nil]); first | done | rfl | (simp only [List.length_drop, List.length_take]; rfl)) ?_; (with_reducible refine (spec_reader_pick.calls k g s0_0 s0_1 (l1.length : Int) t74001 t74002 w0 _ ?side1 ?side2 A3.out).mono ?_); (case side1 => repeat (first | (with_reducible first | exact HI0.out | apply IsS100.alloc | apply IsS100.drewN | apply IsS100.drew | apply IsS100.set_1) | exact HI0.out)); (case side2 => repeat (first | (with_reducible first | exact HB.out | apply below_alloc | apply pw_below_drewN | apply below_drew1 | refine below_set ?_ (IsS100.ge HI0.out)) | exact HB.out)); rintro e w6 ⟨rfl, hi, hb, hk⟩; refine ⟨_, rfl, ?_⟩; have n0_ := Aside0.mk (KeepBut.trans (by repeat (first | (with_reducible first | exact HK.out | apply KeepBut.set_ | apply keep_drewN | apply keep_drew | apply keep_alloc) | exact HK.out)) hk (.inl rfl)); have n1_ := Aside0.mk (hb); have n2_ := Aside0.mk (hi); clear HK; clear HB; clear HI0; have HK := n0_; have HB := n1_; have HI0 := n2_; clear n0_ n1_ n2_; (try clear hb); (try clear hb2); (try clear hk); (try clear hi); have p74003 : 0 ≤ (t74001 : Int) := of_decide_eq_true (by first | (with_reducible assumption) | assumption); have q74003 : t74001 < (l1.length : Int) := of_decide_eq_true (by first | (with_reducible assumption) | assumption); obtain ⟨ad74003, e74003, hx74003_0⟩ := Kd.at_int HR1.out t74001 p74003 q74003; cases e74003; replace hx74003_0 := keep_cell HK.out hx74003_0 (by first | (rw [add_block]; exact hf1 _ rfl (by omega)) | exact hf1 _ rfl (by omega) | exact hf1 ad74003 rfl (by omega)); replace p74003 := eq_true p74003; replace q74003 := eq_true q74003))
   go_ret
   exact ⟨by first | rfl | (simp [errW_none, errW_some] <;> rfl) | (simp [*, errW_none, errW_some] <;> rfl), by repeat (first | (with_reducible first | exact HI0.out | apply IsS100.alloc | apply IsS100.drewN | apply IsS100.drew | apply IsS100.set_1) | exact HI0.out), by repeat (first | (with_reducible first | exact HB.out | apply below_alloc | apply pw_below_drewN | apply below_drew1 | refine below_set ?_ (IsS100.ge HI0.out)) | exact HB.out), by repeat (first | (with_reducible first | exact HK.out | apply KeepBut.set_ | apply keep_drewN | apply keep_drew | apply keep_alloc) | exact HK.out)⟩
  ·rw [if_neg c5] at H
   exact absurd H (by simp)
 ·rw [if_neg c4] at H
  exact absurd H (by simp)


def spec_spoilImage.f (k : Nat) (s0_0 : List Int) (s0_1 : Int) (a1_0 : Int) (a1_1 : Int) (a1_2 : Int) (l1_3 : List Int) : Option (Int × Int × Int × List Int × Int) := (spec_reader_pick.f k s0_0 s0_1 40).bind fun btz0 => (if btz0.1 = 0 then ((spec_reader_one.f k s0_0 btz0.2 (([0, 17, wrap64 (a1_0 + 1)] : List Int))).bind fun btz1 => (some (btz1.1, a1_1, a1_2, l1_3, btz1.2))) else (if btz0.1 = 1 then (if 1 ≤ (l1_3.length : Int) then (some (a1_0, a1_1, a1_2, (l1_3.drop (1 : Int).toNat), btz0.2)) else none) else (if btz0.1 = 2 then ((spec_reader_one.f k s0_0 btz0.2 (([(-1), 256] : List Int))).bind fun btz2 => (if 0 < (l1_3.length : Int) then (some (a1_0, a1_1, a1_2, (l1_3.set (0 : Int).toNat btz2.1), btz2.2)) else none)) else (if btz0.1 = 3 then ((spec_reader_one.f k s0_0 btz0.2 ([0, 5] : List Int)).bind fun btz3 => (some (a1_0, a1_1, btz3.1, l1_3, btz3.2))) else (some (a1_0, a1_1, a1_2, l1_3, btz0.2))))))
theorem spec_spoilImage.calls (k : Nat) (g : Nat) (s0_0 : List Int) (s0_1 : Int) (a1_0 : Int) (a1_1 : Int) (a1_2 : Int) (P1_3_ : Nat → Prop) (u9000_ : Value) (l1_3 : List Int) (r1 : Int) (r2 : Int) (r3 : Int) (r4 : List Int) (r5 : Int) (w0 w : World) (hI : IsS100 w0 w g s0_0 s0_1) (hB : Below w0.heap.size w0 w) (ho1_3 : Kd.R (Kd.int .i64) 3 w w0.heap.size P1_3_ u9000_ l1_3) (h : spec_spoilImage.f k s0_0 s0_1 a1_0 a1_1 a1_2 l1_3 = some (r1, r2, r3, r4, r5)) :
  Calls Try.prog 99 #[.pointer (some ⟨g, 0, none⟩), .agg #[.int .i64 a1_0, .int .i64 a1_1, .int .i64 a1_2, u9000_]] w fun e w' => ∃ v3_ : Value, e = .returned (.agg #[.int .i64 r1, .int .i64 r2, .int .i64 r3, v3_]) ∧ Kd.Q (Kd.int .i64) 3 w' w0.heap.size (fun k_ => (P1_3_ k_ ∨ w.heap.size ≤ k_)) v3_ r4 ∧ IsS100 w0 w' g s0_0 r5 ∧ Below w0.heap.size w0 w' ∧ Kept w w' (fun k_ => (P1_3_ k_) ∨ k_ = g) := by
 have HO1_3 := mk (show Kd.R (Kd.int .i64) 3 w w0.heap.size (fun k_ => (P1_3_ k_ ∨ w.heap.size ≤ k_)) u9000_ l1_3 from Kd.R_mono ho1_3 (fun k_ hk => (.inl hk)))
 have HI0 := mk hI
 clear hI
 have HK := mk (Kept.refl w (fun k_ => (P1_3_ k_) ∨ k_ = g))
 have HB := mk hB
 clear hB
 have H : ((spec_reader_pick.f k s0_0 s0_1 40).bind fun btz0 => (if btz0.1 = 0 then ((spec_reader_one.f k s0_0 btz0.2 (([0, 17, wrap64 (a1_0 + 1)] : List Int))).bind fun btz1 => (some (btz1.1, a1_1, a1_2, l1_3, btz1.2))) else (if btz0.1 = 1 then (if 1 ≤ (l1_3.length : Int) then (some (a1_0, a1_1, a1_2, (l1_3.drop (1 : Int).toNat), btz0.2)) else none) else (if btz0.1 = 2 then ((spec_reader_one.f k s0_0 btz0.2 (([(-1), 256] : List Int))).bind fun btz2 => (if 0 < (l1_3.length : Int) then (some (a1_0, a1_1, a1_2, (l1_3.set (0 : Int).toNat btz2.1), btz2.2)) else none)) else (if btz0.1 = 3 then ((spec_reader_one.f k s0_0 btz0.2 ([0, 5] : List Int)).bind fun btz3 => (some (a1_0, a1_1, btz3.1, l1_3, btz3.2))) else (some (a1_0, a1_1, a1_2, l1_3, btz0.2))))))) = some (r1, r2, r3, r4, r5) := h
 clear h
 replace H := Option.bind_eq_some_iff.mp H
 obtain ⟨⟨tz0, tz1⟩, A30, H⟩ := H
 replace H : (if tz0 = 0 then ((spec_reader_one.f k s0_0 tz1 (([0, 17, wrap64 (a1_0 + 1)] : List Int))).bind fun btz1 => (some (btz1.1, a1_1, a1_2, l1_3, btz1.2))) else (if tz0 = 1 then (if 1 ≤ (l1_3.length : Int) then (some (a1_0, a1_1, a1_2, (l1_3.drop (1 : Int).toNat), tz1)) else none) else (if tz0 = 2 then ((spec_reader_one.f k s0_0 tz1 (([(-1), 256] : List Int))).bind fun btz2 => (if 0 < (l1_3.length : Int) then (some (a1_0, a1_1, a1_2, (l1_3.set (0 : Int).toNat btz2.1), btz2.2)) else none)) else (if tz0 = 3 then ((spec_reader_one.f k s0_0 tz1 ([0, 5] : List Int)).bind fun btz3 => (some (a1_0, a1_1, btz3.1, l1_3, btz3.2))) else (some (a1_0, a1_1, a1_2, l1_3, tz1)))))) = some (r1, r2, r3, r4, r5) := H
 have A3 := mk A30
 clear A30
 by_cases c4 : tz0 = 0
 ·rw [if_pos c4] at H
  have c4b0 : (tz0 == 0) = true := beq_iff_eq.mpr c4
  clear c4
  obtain ⟨yz2, hyz0⟩ : ∃ y_ : List Int, y_ = (([0, 17, wrap64 (a1_0 + 1)] : List Int)) := ⟨_, rfl⟩
  replace H : ((spec_reader_one.f k s0_0 tz1 yz2).bind fun btz1 => (some (btz1.1, a1_1, a1_2, l1_3, btz1.2))) = some (r1, r2, r3, r4, r5) := by (rw [hyz0]; with_reducible exact H)
  have Nyz1 := mk hyz0
  clear hyz0
  replace H := Option.bind_eq_some_iff.mp H
  obtain ⟨⟨tz3, tz6⟩, A50, H⟩ := H
  replace H : (some (tz3, a1_1, a1_2, l1_3, tz6)) = some (r1, r2, r3, r4, r5) := H
  have A5 := mk A50
  clear A50
  simp only [Option.some.injEq, Prod.mk.injEq] at H
  obtain ⟨rfl, rfl, rfl, rfl, rfl⟩ := H
  obtain ⟨Ao6, co6, eo6⟩ := Kd.R_slice HO1_3.out
  subst eo6
  go_enter Try.func99, Try.ntmps99
  go_wp2_with (first | ((with_reducible refine gate_dst (N := 3) rfl ?_); refine box_event (by rfl) (N := 3) (by rfl) (cs := #[.int .i64 a1_0, .int .i64 a1_1, .int .i64 a1_2, .slice Ao6 l1_3.length co6]) (t := 28) (by go_simp; done) ?_; intro gbz1 hg w7 hbox hb; replace HO1_3 := mk (Kd.R_below HO1_3.out hb); have BKz0 := mk (hbox); have GWz1 := mk (by rw [hg]; exact HK.out.1 : w.heap.size ≤ gbz1); replace HK := mk (Kept.below (S := (fun k_ => (P1_3_ k_) ∨ k_ = g)) HK.out hb); have GEz1 := mk ((by rw [hg]; exact (below_size HB.out) : w0.heap.size ≤ gbz1)); replace HB := mk (below_step HB.out hb); have NBz4 := mk ((by rw [hg]; exact Nat.ne_of_lt (IsS100.lt (show IsS100 w0 _ g s0_0 s0_1 from by exact HI0.out)) : g ≠ gbz1)); have NBz0 := mk ((by rw [hg]; exact Nat.ne_of_gt (IsS100.lt (show IsS100 w0 _ g s0_0 s0_1 from by exact HI0.out)) : gbz1 ≠ g)); replace HI0 := mk (IsS100.below HI0.out hb); clear hb hbox hg) | ((with_reducible refine gate_dst (N := 4) rfl ?_); refine box_event (by rfl) (N := 4) (by rfl) (cs := #[.int .i64 0, .int .i64 0, .int .i64 0, .slice none 0 0]) (t := 28) (by go_simp; done) ?_; intro gbz0 hg w8 hbox hb; replace HO1_3 := mk (Kd.R_below HO1_3.out hb); have BKz1 := mk (hbox); have GWz0 := mk (by rw [hg]; exact HK.out.1 : w.heap.size ≤ gbz0); replace HK := mk (Kept.below (S := (fun k_ => (P1_3_ k_) ∨ k_ = g)) HK.out hb); have GEz0 := mk ((by rw [hg]; exact (below_size HB.out) : w0.heap.size ≤ gbz0)); replace HB := mk (below_step HB.out hb); have NBz2 := mk ((by rw [hg]; exact Nat.ne_of_gt (blk_lt BKz0.out) : gbz0 ≠ gbz1)); replace BKz0 := mk (blk_below BKz0.out hb); have NBz3 := mk ((by rw [hg]; exact Nat.ne_of_lt (IsS100.lt (show IsS100 w0 _ g s0_0 s0_1 from by exact HI0.out)) : g ≠ gbz0)); have NBz1 := mk ((by rw [hg]; exact Nat.ne_of_gt (IsS100.lt (show IsS100 w0 _ g s0_0 s0_1 from by exact HI0.out)) : gbz0 ≠ g)); replace HI0 := mk (IsS100.below HI0.out hb); clear hb hbox hg) | ((with_reducible refine gate_callee (f := 82) rfl ?_); refine goesL_ (some 6) rfl rfl Try.func82 (by kernel_rfl) rfl #[.pointer (some ⟨g, 0, none⟩), .int .i64 40] rfl (by (try simp only [bitvec_to_nat]); rfl) ?_; (with_reducible refine (spec_reader_pick.calls k g s0_0 s0_1 40 tz0 tz1 w0 _ ?side1 ?side2 A3.out).mono ?_); (case side1 => repeat (with_reducible exact HI0.out)); (case side2 => repeat (with_reducible exact HB.out)); rintro e w9 ⟨rfl, hi, hb, hk⟩; refine ⟨_, rfl, ?_⟩; replace HO1_3 := mk (Kd.R_mono (Kd.R_keep (IsS100.apart (show IsS100 w0 _ g s0_0 s0_1 from by exact HI0.out) HO1_3.out (by decide)) hk (fun _ h => h.2)) (fun _ h => h.1)); replace BKz0 := mk (KeepBut.blk hk (g' := gbz1) (o := .cells #[.int .i64 a1_0, .int .i64 a1_1, .int .i64 a1_2, .slice Ao6 l1_3.length co6] 28 (0, 0)) BKz0.out NBz0.out (by simp)); replace BKz1 := mk (KeepBut.blk hk (g' := gbz0) (o := .cells #[.int .i64 0, .int .i64 0, .int .i64 0, .slice none 0 0] 28 (0, 0)) BKz1.out NBz1.out (by simp)); replace HK := mk (Kept.of_keep (S := (fun k_ => (P1_3_ k_) ∨ k_ = g)) HK.out hk (.inl (.inr rfl))); replace HB := mk (hb); replace HI0 := mk (hi); (try clear hb); (try clear hk); (try clear hi); have hnc10 := NBz2.out; have hnb11 := NBz0.out; have hnc11 := NBz4.out; have hcz12_0 : w9.cell? ⟨gbz1, 0, none⟩ = some (.int .i64 a1_0) := (blk_cell BKz0.out 0).trans rfl) | ((with_reducible refine gate_dst (N := 13) rfl ?_); refine Kd.R_lit (Kd.int .i64) _ 3 ?hg (N := 13) ?hd (xs := ([0, 17, wrap64 (a1_0 + 1)] : List Int)) (inner := [.int .i64 0, .int .i64 17, .int .i64 (wrap64 (a1_0 + 1))]) (ok := fun _ => True) (okp := fun _ => True) ?hr ?hp (fun _ hk => hk) trivial (Below.refl _ _) (Nat.le_refl _) (by simp) ?_; (case hd => rfl); (case hg => rfl); (case hr => (go_simp; done)); (case hp => exact (Reps.one (show Kd.M (Kd.int .i64) _ _ _ 0 [.int .i64 0] from rfl) (Reps.one (show Kd.M (Kd.int .i64) _ _ _ 17 [.int .i64 17] from rfl) (Reps.one (show Kd.M (Kd.int .i64) _ _ _ (wrap64 (a1_0 + 1)) [.int .i64 (wrap64 (a1_0 + 1))] from rfl) (Reps.none _ _))))); intro vz0 w13 ho14 hb hg_ hnew_; clear hg_ hnew_; (rw [← Nyz1.out] at ho14); have HOz1 := mk (Kd.R_lower (Kd.R_new' (Kd.R_newM (M := fun k_ => (P1_3_ k_ ∨ w.heap.size ≤ k_)) ho14 HK.out.1 (fun k_ h_ => .inr h_)) (Kd.R_lt HO1_3.out)) (below_size HB.out)); replace HO1_3 := mk (Kd.R_elder' HO1_3.out (Kd.R_base ho14) hb); replace HI0 := mk (IsS100.below HI0.out hb); replace BKz0 := mk (blk_below BKz0.out hb); replace BKz1 := mk (blk_below BKz1.out hb); replace HK := mk (Kept.below (S := (fun k_ => (P1_3_ k_) ∨ k_ = g)) HK.out hb); replace HB := mk (below_step HB.out hb); clear hb ho14; obtain ⟨Ao15, co15, eo15⟩ := Kd.R_slice HOz1.out; subst eo15) | ((with_reducible refine gate_callee (f := 73) rfl ?_); refine goesL_ (some 14) rfl rfl Try.func73 (by kernel_rfl) rfl #[.pointer (some ⟨g, 0, none⟩), .slice Ao15 yz2.length co15] rfl (by (try simp only [bitvec_to_nat]); rfl) ?_; (with_reducible refine (spec_reader_one.calls k g s0_0 tz1 _ _ yz2 tz3 tz6 w0 _ ?side1 ?side2 ?side3 ?side4 ?side5 A5.out).mono ?_); (case side1 => repeat (with_reducible exact HI0.out)); (case side2 => repeat (with_reducible exact HB.out)); (case side3 => repeat (exact (Kd.R_reads' HOz1.out).2.2)); (case side4 => exact (Kd.R_reads' HOz1.out).2.1); (case side5 => exact far_slice (IsS100.own_ne HI0.out HOz1.out (by decide))); rintro e w16 ⟨rfl, hi, hb, hk⟩; refine ⟨_, rfl, ?_⟩; have n0_ := mk (Kd.R_mono (Kd.R_keep (IsS100.apart (show IsS100 w0 _ g s0_0 tz1 from by exact HI0.out) HO1_3.out (by decide)) hk (fun _ h => h.2)) (fun _ h => h.1)); have n1_ := mk (KeepBut.blk hk (g' := gbz1) (o := .cells #[.int .i64 a1_0, .int .i64 a1_1, .int .i64 a1_2, .slice Ao6 l1_3.length co6] 28 (0, 0)) BKz0.out NBz0.out (by simp)); have n2_ := mk (KeepBut.blk hk (g' := gbz0) (o := .cells #[.int .i64 0, .int .i64 0, .int .i64 0, .slice none 0 0] 28 (0, 0)) BKz1.out NBz1.out (by simp)); have n4_ := mk (Kept.of_keep (S := (fun k_ => (P1_3_ k_) ∨ k_ = g)) HK.out hk (.inl (.inr rfl))); have n5_ := mk (hb); have n6_ := mk (hi); clear HO1_3; clear BKz0; clear BKz1; clear HOz1; clear HK; clear HB; clear HI0; have HO1_3 := n0_; have BKz0 := n1_; have BKz1 := n2_; have HK := n4_; have HB := n5_; have HI0 := n6_; (try clear hb); (try clear hk); (try clear hi); have hcz17_0 : w16.cell? ⟨gbz1, 0, none⟩ = some (.int .i64 a1_0) := (blk_cell BKz0.out 0).trans rfl; have hcz17_1 : w16.cell? ⟨gbz1, 1, none⟩ = some (.int .i64 a1_1) := (blk_cell BKz0.out 1).trans rfl; have hcz17_2 : w16.cell? ⟨gbz1, 2, none⟩ = some (.int .i64 a1_2) := (blk_cell BKz0.out 2).trans rfl; have hcz17_3 : w16.cell? ⟨gbz1, 3, none⟩ = some (.slice Ao6 l1_3.length co6) := (blk_cell BKz0.out 3).trans rfl; have hfz17_0 := blk_frozen BKz0.out 0; have hnb18 := NBz1.out; have hnc18 := NBz3.out; have hcz19_0 : w16.cell? ⟨gbz0, 0, none⟩ = some (.int .i64 0) := (blk_cell BKz1.out 0).trans rfl; have hcz19_1 : w16.cell? ⟨gbz0, 1, none⟩ = some (.int .i64 0) := (blk_cell BKz1.out 1).trans rfl; have hcz19_2 : w16.cell? ⟨gbz0, 2, none⟩ = some (.int .i64 0) := (blk_cell BKz1.out 2).trans rfl; have hcz19_3 : w16.cell? ⟨gbz0, 3, none⟩ = some (.slice none 0 0) := (blk_cell BKz1.out 3).trans rfl; have hfz19_0 := blk_frozen BKz1.out 0; have hfz19_1 := blk_frozen BKz1.out 1; have hfz19_2 := blk_frozen BKz1.out 2; have hfz19_3 := blk_frozen BKz1.out 3))
  refine bodyPost_ret (results_cell_row rfl _ _ gbz0 28 #[.int .i64 tz3, .int .i64 a1_1, .int .i64 a1_2, .slice Ao6 l1_3.length co6] (0, 0) _ rfl (by refine p4 (.int .i64 0) (.int .i64 0) (.int .i64 0) (.slice none 0 0) ?_; refine blk_far ?_ NBz2.out _; exact BKz1.out) Try.underlying28 rfl (by kernel_rfl)) rfl ?_
  exact ⟨_, by rfl, Kd.Q_of_R (by exact Kd.R_mono (R4 (Kd.R_far (p := ⟨gbz1, 0, none⟩) (Kd.R_types (Kd.R_types HO1_3.out BKz0.out (by decide)) BKz1.out (by decide)) (fun _ hk => hk.1.2) (.int .i64 tz3)) (.int .i64 tz3) (.int .i64 a1_1) (.int .i64 a1_2) (.slice Ao6 l1_3.length co6)) (fun _ hk => hk.1.1.1)), by repeat (with_reducible first | exact HI0.out | refine IsS100.far ?_ NBz4.out _ | refine IsS100.far ?_ NBz3.out _), by repeat (with_reducible first | exact HB.out | refine below_set ?_ GEz1.out | refine below_set ?_ GEz0.out), by repeat ((with_reducible first | exact HK.out | refine Kept.setCell ?_ (.inr GWz1.out) _ | refine Kept.setCell ?_ (.inr GWz0.out) _))⟩
 rw [if_neg c4] at H
 have c4b0 : (tz0 == 0) = false := beq_eq_false_iff_ne.mpr c4
 have c4b1 : (tz0 != 0) = true := bne_iff_ne.mpr c4
 by_cases c20 : tz0 = 1
 ·rw [if_pos c20] at H
  have c20b0 : (tz0 == 1) = true := beq_iff_eq.mpr c20
  have c20b1 : (tz0 != 1) = false := bne_eq_false_iff_eq.mpr c20
  clear c20
  by_cases c21 : 1 ≤ (l1_3.length : Int)
  ·rw [if_pos c21] at H
   have c21b1 : decide (1 ≤ (l1_3.length : Int)) = true := decide_eq_true c21
   clear c21
   obtain ⟨yz0, hyz1⟩ : ∃ y_ : List Int, y_ = (l1_3.drop (1 : Int).toNat) := ⟨_, rfl⟩
   replace H : (some (a1_0, a1_1, a1_2, yz0, tz1)) = some (r1, r2, r3, r4, r5) := by (rw [hyz1]; with_reducible exact H)
   have Nyz0 := mk hyz1
   clear hyz1
   simp only [Option.some.injEq, Prod.mk.injEq] at H
   obtain ⟨rfl, rfl, rfl, rfl, rfl⟩ := H
   obtain ⟨Ao22, co22, eo22⟩ := Kd.R_slice HO1_3.out
   subst eo22
   go_enter Try.func99, Try.ntmps99
   go_wp2_with (first | ((with_reducible refine gate_dst (N := 3) rfl ?_); refine box_event (by rfl) (N := 3) (by rfl) (cs := #[.int .i64 a1_0, .int .i64 a1_1, .int .i64 a1_2, .slice Ao22 l1_3.length co22]) (t := 28) (by go_simp; done) ?_; intro gbz1 hg w23 hbox hb; replace HO1_3 := mk (Kd.R_below HO1_3.out hb); have BKz0 := mk (hbox); have GWz1 := mk (by rw [hg]; exact HK.out.1 : w.heap.size ≤ gbz1); replace HK := mk (Kept.below (S := (fun k_ => (P1_3_ k_) ∨ k_ = g)) HK.out hb); have GEz1 := mk ((by rw [hg]; exact (below_size HB.out) : w0.heap.size ≤ gbz1)); replace HB := mk (below_step HB.out hb); have NBz4 := mk ((by rw [hg]; exact Nat.ne_of_lt (IsS100.lt (show IsS100 w0 _ g s0_0 s0_1 from by exact HI0.out)) : g ≠ gbz1)); have NBz0 := mk ((by rw [hg]; exact Nat.ne_of_gt (IsS100.lt (show IsS100 w0 _ g s0_0 s0_1 from by exact HI0.out)) : gbz1 ≠ g)); replace HI0 := mk (IsS100.below HI0.out hb); clear hb hbox hg) | ((with_reducible refine gate_dst (N := 4) rfl ?_); refine box_event (by rfl) (N := 4) (by rfl) (cs := #[.int .i64 0, .int .i64 0, .int .i64 0, .slice none 0 0]) (t := 28) (by go_simp; done) ?_; intro gbz0 hg w24 hbox hb; replace HO1_3 := mk (Kd.R_below HO1_3.out hb); have BKz1 := mk (hbox); have GWz0 := mk (by rw [hg]; exact HK.out.1 : w.heap.size ≤ gbz0); replace HK := mk (Kept.below (S := (fun k_ => (P1_3_ k_) ∨ k_ = g)) HK.out hb); have GEz0 := mk ((by rw [hg]; exact (below_size HB.out) : w0.heap.size ≤ gbz0)); replace HB := mk (below_step HB.out hb); have NBz2 := mk ((by rw [hg]; exact Nat.ne_of_gt (blk_lt BKz0.out) : gbz0 ≠ gbz1)); replace BKz0 := mk (blk_below BKz0.out hb); have NBz3 := mk ((by rw [hg]; exact Nat.ne_of_lt (IsS100.lt (show IsS100 w0 _ g s0_0 s0_1 from by exact HI0.out)) : g ≠ gbz0)); have NBz1 := mk ((by rw [hg]; exact Nat.ne_of_gt (IsS100.lt (show IsS100 w0 _ g s0_0 s0_1 from by exact HI0.out)) : gbz0 ≠ g)); replace HI0 := mk (IsS100.below HI0.out hb); clear hb hbox hg) | ((with_reducible refine gate_callee (f := 82) rfl ?_); refine goesL_ (some 6) rfl rfl Try.func82 (by kernel_rfl) rfl #[.pointer (some ⟨g, 0, none⟩), .int .i64 40] rfl (by (try simp only [bitvec_to_nat]); rfl) ?_; (with_reducible refine (spec_reader_pick.calls k g s0_0 s0_1 40 tz0 tz1 w0 _ ?side1 ?side2 A3.out).mono ?_); (case side1 => repeat (with_reducible exact HI0.out)); (case side2 => repeat (with_reducible exact HB.out)); rintro e w25 ⟨rfl, hi, hb, hk⟩; refine ⟨_, rfl, ?_⟩; replace HO1_3 := mk (Kd.R_mono (Kd.R_keep (IsS100.apart (show IsS100 w0 _ g s0_0 s0_1 from by exact HI0.out) HO1_3.out (by decide)) hk (fun _ h => h.2)) (fun _ h => h.1)); replace BKz0 := mk (KeepBut.blk hk (g' := gbz1) (o := .cells #[.int .i64 a1_0, .int .i64 a1_1, .int .i64 a1_2, .slice Ao22 l1_3.length co22] 28 (0, 0)) BKz0.out NBz0.out (by simp)); replace BKz1 := mk (KeepBut.blk hk (g' := gbz0) (o := .cells #[.int .i64 0, .int .i64 0, .int .i64 0, .slice none 0 0] 28 (0, 0)) BKz1.out NBz1.out (by simp)); replace HK := mk (Kept.of_keep (S := (fun k_ => (P1_3_ k_) ∨ k_ = g)) HK.out hk (.inl (.inr rfl))); replace HB := mk (hb); replace HI0 := mk (hi); (try clear hb); (try clear hk); (try clear hi); have hnc26 := NBz2.out; have hnb27 := NBz0.out; have hnc27 := NBz4.out; have hcz28_0 : w25.cell? ⟨gbz1, 0, none⟩ = some (.int .i64 a1_0) := (blk_cell BKz0.out 0).trans rfl; have hcz28_1 : w25.cell? ⟨gbz1, 1, none⟩ = some (.int .i64 a1_1) := (blk_cell BKz0.out 1).trans rfl; have hcz28_2 : w25.cell? ⟨gbz1, 2, none⟩ = some (.int .i64 a1_2) := (blk_cell BKz0.out 2).trans rfl; have hcz28_3 : w25.cell? ⟨gbz1, 3, none⟩ = some (.slice Ao22 l1_3.length co22) := (blk_cell BKz0.out 3).trans rfl; have hfz28_3 := blk_frozen BKz0.out 3; have q29 : (1 : Int) ≤ ((l1_3.length : Int) : Int) := of_decide_eq_true (by (with_reducible assumption)); obtain ⟨i029, hi029, _, hsz29, _⟩ := info_parts info3; have hcut29 := cut_from (P := Try.prog) 22 3 .i64 Try.underlying22 hi029 1 hsz29 Ao22 l1_3.length co22 1 (by omega) q29; have hr29 := Kd.Q_drop (k := (1 : Int).toNat) (Kd.Q_of_R HO1_3.out) (by omega); obtain ⟨A29, hA29⟩ : ∃ A1, A1 = (if co22 = (1 : Int).toNat then Ao22 else (Ao22 : Option Addr).map (·.add ((1 : Int).toNat * 1))) := ⟨_, rfl⟩; obtain ⟨c29, hc29⟩ : ∃ c1, c1 = co22 - (1 : Int).toNat := ⟨_, rfl⟩; have hy29 : yz0.length = l1_3.length - (1 : Int).toNat := (by rw [Nyz0.out, List.length_drop]); rw [← Nyz0.out] at hr29; rw [← hy29, ← hA29, ← hc29] at hcut29; replace hr29 : Kd.Q (Kd.int .i64) 3 w25 w0.heap.size (fun k_ => (P1_3_ k_ ∨ w.heap.size ≤ k_)) (.slice A29 yz0.length c29) yz0 := (by rw [hA29, hc29, hy29]; exact hr29); clear hy29 hi029 hsz29 HO1_3 hA29 hc29; have HOz3 := mk hr29; clear hr29; replace q29 := eq_true q29; have hnb30 := NBz1.out; have hnc30 := NBz3.out; have hcz31_0 : w25.cell? ⟨gbz0, 0, none⟩ = some (.int .i64 0) := (blk_cell BKz1.out 0).trans rfl; have hcz31_1 : w25.cell? ⟨gbz0, 1, none⟩ = some (.int .i64 0) := (blk_cell BKz1.out 1).trans rfl; have hcz31_2 : w25.cell? ⟨gbz0, 2, none⟩ = some (.int .i64 0) := (blk_cell BKz1.out 2).trans rfl; have hcz31_3 : w25.cell? ⟨gbz0, 3, none⟩ = some (.slice none 0 0) := (blk_cell BKz1.out 3).trans rfl; have hfz31_0 := blk_frozen BKz1.out 0; have hfz31_1 := blk_frozen BKz1.out 1; have hfz31_2 := blk_frozen BKz1.out 2; have hfz31_3 := blk_frozen BKz1.out 3))
   refine bodyPost_ret (results_cell_row rfl _ _ gbz0 28 #[.int .i64 a1_0, .int .i64 a1_1, .int .i64 a1_2, .slice A29 yz0.length c29] (0, 0) _ rfl (by refine p4 (.int .i64 0) (.int .i64 0) (.int .i64 0) (.slice none 0 0) ?_; refine blk_far ?_ NBz2.out _; exact BKz1.out) Try.underlying28 rfl (by kernel_rfl)) rfl ?_
   exact ⟨_, by rfl, by exact Kd.Q_mono (Q4 (Kd.Q_far (p := ⟨gbz1, 3, none⟩) (Kd.Q_types (Kd.Q_types HOz3.out BKz0.out (by decide)) BKz1.out (by decide)) (fun _ hk => hk.1.2) (.slice A29 yz0.length c29)) (.int .i64 a1_0) (.int .i64 a1_1) (.int .i64 a1_2) (.slice A29 yz0.length c29)) (fun _ hk => hk.1.1), by repeat (with_reducible first | exact HI0.out | refine IsS100.far ?_ NBz4.out _ | refine IsS100.far ?_ NBz3.out _), by repeat (with_reducible first | exact HB.out | refine below_set ?_ GEz1.out | refine below_set ?_ GEz0.out), by repeat ((with_reducible first | exact HK.out | refine Kept.setCell ?_ (.inr GWz1.out) _ | refine Kept.setCell ?_ (.inr GWz0.out) _))⟩
  rw [if_neg c21] at H
  exact absurd H (by simp)
 rw [if_neg c20] at H
 have c20b0 : (tz0 == 1) = false := beq_eq_false_iff_ne.mpr c20
 have c20b1 : (tz0 != 1) = true := bne_iff_ne.mpr c20
 by_cases c32 : tz0 = 2
 ·rw [if_pos c32] at H
  have c32b0 : (tz0 == 2) = true := beq_iff_eq.mpr c32
  clear c32
  obtain ⟨yz1, hyz2⟩ : ∃ y_ : List Int, y_ = (([(-1), 256] : List Int)) := ⟨_, rfl⟩
  replace H : ((spec_reader_one.f k s0_0 tz1 yz1).bind fun btz2 => (if 0 < (l1_3.length : Int) then (some (a1_0, a1_1, a1_2, (l1_3.set (0 : Int).toNat btz2.1), btz2.2)) else none)) = some (r1, r2, r3, r4, r5) := by (rw [hyz2]; with_reducible exact H)
  have Nyz2 := mk hyz2
  clear hyz2
  replace H := Option.bind_eq_some_iff.mp H
  obtain ⟨⟨tz2, tz5⟩, A330, H⟩ := H
  replace H : (if 0 < (l1_3.length : Int) then (some (a1_0, a1_1, a1_2, (l1_3.set (0 : Int).toNat tz2), tz5)) else none) = some (r1, r2, r3, r4, r5) := H
  have A33 := mk A330
  clear A330
  by_cases c34 : 0 < (l1_3.length : Int)
  ·rw [if_pos c34] at H
   have c34b0 : decide (0 < (l1_3.length : Int)) = true := decide_eq_true c34
   clear c34
   obtain ⟨yz4, hyz3⟩ : ∃ y_ : List Int, y_ = (l1_3.set (0 : Int).toNat tz2) := ⟨_, rfl⟩
   replace H : (some (a1_0, a1_1, a1_2, yz4, tz5)) = some (r1, r2, r3, r4, r5) := by (rw [hyz3]; with_reducible exact H)
   have Nyz3 := mk hyz3
   clear hyz3
   simp only [Option.some.injEq, Prod.mk.injEq] at H
   obtain ⟨rfl, rfl, rfl, rfl, rfl⟩ := H
   obtain ⟨Ao36, co36, eo36⟩ := Kd.R_slice HO1_3.out
   subst eo36
   go_enter Try.func99, Try.ntmps99
   try go_wp2_with (first | ((with_reducible refine gate_dst (N := 3) rfl ?_); refine box_event (by rfl) (N := 3) (by rfl) (cs := #[.int .i64 a1_0, .int .i64 a1_1, .int .i64 a1_2, .slice Ao36 l1_3.length co36]) (t := 28) (by go_simp; done) ?_; intro gbz1 hg w37 hbox hb; replace HO1_3 := mk (Kd.R_below HO1_3.out hb); replace HK := mk (Kept.below (S := (fun k_ => (P1_3_ k_) ∨ k_ = g)) HK.out hb); replace HB := mk (below_step HB.out hb); have BKz0 := mk (hbox); have NBz0 := mk ((by rw [hg]; exact Nat.ne_of_gt (IsS100.lt (show IsS100 w0 _ g s0_0 s0_1 from by exact HI0.out)) : gbz1 ≠ g)); replace HI0 := mk (IsS100.below HI0.out hb); clear hb hbox hg) | ((with_reducible refine gate_dst (N := 4) rfl ?_); refine box_event (by rfl) (N := 4) (by rfl) (cs := #[.int .i64 0, .int .i64 0, .int .i64 0, .slice none 0 0]) (t := 28) (by go_simp; done) ?_; intro gbz0 hg w38 hbox hb; replace HO1_3 := mk (Kd.R_below HO1_3.out hb); replace BKz0 := mk (blk_below BKz0.out hb); have BKz1 := mk (hbox); have GWz0 := mk (by rw [hg]; exact HK.out.1 : w.heap.size ≤ gbz0); replace HK := mk (Kept.below (S := (fun k_ => (P1_3_ k_) ∨ k_ = g)) HK.out hb); have GEz0 := mk ((by rw [hg]; exact (below_size HB.out) : w0.heap.size ≤ gbz0)); replace HB := mk (below_step HB.out hb); have NBz3 := mk ((by rw [hg]; exact Nat.ne_of_lt (IsS100.lt (show IsS100 w0 _ g s0_0 s0_1 from by exact HI0.out)) : g ≠ gbz0)); have NBz1 := mk ((by rw [hg]; exact Nat.ne_of_gt (IsS100.lt (show IsS100 w0 _ g s0_0 s0_1 from by exact HI0.out)) : gbz0 ≠ g)); replace HI0 := mk (IsS100.below HI0.out hb); clear hb hbox hg) | ((with_reducible refine gate_callee (f := 82) rfl ?_); refine goesL_ (some 6) rfl rfl Try.func82 (by kernel_rfl) rfl #[.pointer (some ⟨g, 0, none⟩), .int .i64 40] rfl (by (try simp only [bitvec_to_nat]); rfl) ?_; (with_reducible refine (spec_reader_pick.calls k g s0_0 s0_1 40 tz0 tz1 w0 _ ?side1 ?side2 A3.out).mono ?_); (case side1 => repeat (with_reducible exact HI0.out)); (case side2 => repeat (with_reducible exact HB.out)); rintro e w39 ⟨rfl, hi, hb, hk⟩; refine ⟨_, rfl, ?_⟩; replace HO1_3 := mk (Kd.R_mono (Kd.R_keep (IsS100.apart (show IsS100 w0 _ g s0_0 s0_1 from by exact HI0.out) HO1_3.out (by decide)) hk (fun _ h => h.2)) (fun _ h => h.1)); replace BKz0 := mk (KeepBut.blk hk (g' := gbz1) (o := .cells #[.int .i64 a1_0, .int .i64 a1_1, .int .i64 a1_2, .slice Ao36 l1_3.length co36] 28 (0, 0)) BKz0.out NBz0.out (by simp)); replace BKz1 := mk (KeepBut.blk hk (g' := gbz0) (o := .cells #[.int .i64 0, .int .i64 0, .int .i64 0, .slice none 0 0] 28 (0, 0)) BKz1.out NBz1.out (by simp)); replace HK := mk (Kept.of_keep (S := (fun k_ => (P1_3_ k_) ∨ k_ = g)) HK.out hk (.inl (.inr rfl))); replace HB := mk (hb); replace HI0 := mk (hi); (try clear hb); (try clear hk); (try clear hi)))
   replace HO1_3 := mk (Kd.R_drew HO1_3.out)
   replace BKz0 := mk (blk_drew BKz0.out)
   replace BKz1 := mk (blk_drew BKz1.out)
   replace HI0 := mk (IsS100.drew HI0.out)
   replace HK := mk (Kept.drew HK.out)
   replace HB := mk (below_drew1 HB.out)
   refine start_ (n := 7) (S := fun w' => w'.cell? ⟨gbz1, 0, none⟩ = some (.int .i64 a1_0) ∧ w'.cell? ⟨gbz1, 1, none⟩ = some (.int .i64 a1_1) ∧ w'.cell? ⟨gbz1, 2, none⟩ = some (.int .i64 a1_2) ∧ w'.cell? ⟨gbz1, 3, none⟩ = some (.slice Ao36 l1_3.length co36)) (ds := [6]) #[false, false, false, false, false, false, false] (by kernel_rfl) rfl rfl ⟨blk_cell BKz0.out 0, blk_cell BKz0.out 1, blk_cell BKz0.out 2, blk_cell BKz0.out 3⟩ (fun hHeld => ?_)
   generalize w39.drew = w40 at HO1_3 BKz0 BKz1 HI0 HK HB hHeld ⊢
   refine pu 0 24 ?_ ?_ rfl rfl (by kernel_rfl) (Or.inl ⟨by rfl, ?_⟩) ?_ ?_
   rotate_left 2
   ·intro w'
    go_simp
    with_reducible rfl
   ·simp only [seval]
    rfl
   refine pu 2 26 ?_ ?_ rfl rfl (by kernel_rfl) (Or.inl ⟨by rfl, ?_⟩) ?_ ?_
   rotate_left 2
   ·intro w'
    go_simp
    with_reducible rfl
   ·simp only [seval]
    rfl
   refine tk 1 25 ?_ ?_ rfl rfl (by kernel_rfl) (Or.inl ⟨by rfl, ?_⟩) hHeld ?_ ?_
   rotate_left 2
   ·rintro w' ⟨s0, s1, s2, s3⟩
    go_simp
    with_reducible rfl
   ·simp only [seval]
    rfl
   refine one_ (i := 3) (N := some 27) #[true, true, true, true, false, false, false] rfl rfl (by kernel_rfl) (by decide) (fun K hK => ?_)
   refine Kd.R_lit_step (Kd.int .i64) _ 3 ?hg (N := 27) ?hd (xs := ([(-1), 256] : List Int)) (inner := [.int .i64 (-1), .int .i64 256]) (ok := fun _ => True) (okp := fun _ => True) ?hr ?hp (fun _ hk => hk) trivial (Below.refl _ _) (Nat.le_refl _) (by simp) ?_; (case hd => rfl); (case hg => rfl); (case hr => (go_simp; done)); (case hp => exact (Reps.one (show Kd.M (Kd.int .i64) _ _ _ (-1) [.int .i64 (-1)] from rfl) (Reps.one (show Kd.M (Kd.int .i64) _ _ _ 256 [.int .i64 256] from rfl) (Reps.none _ _))))
   intro vz1 w41 ho42 hb hg_ hnew_
   clear hg_ hnew_
   (rw [← Nyz2.out] at ho42)
   have HOz0 := mk (Kd.R_lower (Kd.R_new' (Kd.R_newM (M := fun k_ => (P1_3_ k_ ∨ w.heap.size ≤ k_)) ho42 HK.out.1 (fun k_ h_ => .inr h_)) (Kd.R_lt HO1_3.out)) (below_size HB.out))
   replace HO1_3 := mk (Kd.R_elder' HO1_3.out (Kd.R_base ho42) hb)
   replace HI0 := mk (IsS100.below HI0.out hb)
   replace BKz0 := mk (blk_below BKz0.out hb)
   replace BKz1 := mk (blk_below BKz1.out hb)
   replace HK := mk (Kept.below (S := (fun k_ => (P1_3_ k_) ∨ k_ = g)) HK.out hb)
   replace HB := mk (below_step HB.out hb)
   clear hb ho42
   obtain ⟨Ao43, co43, eo43⟩ := Kd.R_slice HOz0.out
   (subst eo43)
   refine hK.out _ _ ⟨blk_cell BKz0.out 0, blk_cell BKz0.out 1, blk_cell BKz0.out 2, blk_cell BKz0.out 3⟩ (fun hHeld => ?_)
   clear hK K
   refine norm_ (a' := ?_) ?_ ?_
   rotate_left
   ·show Act.put _ (some 27) _ = _
    simp only [seval]
    rfl
   refine one_ (i := 4) (N := some 28) #[true, true, true, true, true, false, false] rfl rfl (by kernel_rfl) (by decide) (fun K hK => ?_)
   refine goes_ Try.func73 (by kernel_rfl) rfl #[.pointer (some ⟨g, 0, none⟩), .slice Ao43 yz1.length co43] (by rfl) rfl rfl (by (try simp only [bitvec_to_nat]); rfl) ?_
   with_reducible refine (spec_reader_one.calls k g s0_0 tz1 _ _ yz1 tz2 tz5 w0 _ ?side1 ?side2 ?side3 ?side4 ?side5 A33.out).mono ?_
   (case side1 => repeat (with_reducible exact HI0.out))
   (case side2 => repeat (with_reducible exact HB.out))
   (case side3 => repeat (exact (Kd.R_reads' HOz0.out).2.2))
   (case side4 => exact (Kd.R_reads' HOz0.out).2.1)
   (case side5 => exact far_slice (IsS100.own_ne HI0.out HOz0.out (by decide)))
   rintro e w44 ⟨rfl, hi, hb, hk⟩
   refine ⟨_, rfl, ?_⟩
   replace HO1_3 := mk (Kd.R_mono (Kd.R_keep (IsS100.apart (show IsS100 w0 _ g s0_0 tz1 from by exact HI0.out) HO1_3.out (by decide)) hk (fun _ h => h.2)) (fun _ h => h.1))
   replace BKz0 := mk (KeepBut.blk hk (g' := gbz1) (o := .cells #[.int .i64 a1_0, .int .i64 a1_1, .int .i64 a1_2, .slice Ao36 l1_3.length co36] 28 (0, 0)) BKz0.out NBz0.out (by simp))
   replace BKz1 := mk (KeepBut.blk hk (g' := gbz0) (o := .cells #[.int .i64 0, .int .i64 0, .int .i64 0, .slice none 0 0] 28 (0, 0)) BKz1.out NBz1.out (by simp))
   replace HOz0 := mk (Kd.R_mono (Kd.R_keep (IsS100.apart (show IsS100 w0 _ g s0_0 tz1 from by exact HI0.out) HOz0.out (by decide)) hk (fun _ h => h.2)) (fun _ h => h.1))
   replace HK := mk (Kept.of_keep (S := (fun k_ => (P1_3_ k_) ∨ k_ = g)) HK.out hk (.inl (.inr rfl)))
   replace HB := mk (hb)
   replace HI0 := mk (hi)
   (try clear hb)
   (try clear hk)
   (try clear hi)
   have p35 : 0 ≤ (0 : Int) := (by omega)
   have q35 : (0 : Int) < ((l1_3.length : Int) : Int) := of_decide_eq_true (by (with_reducible assumption))
   have qi35 : (0 < l1_3.length) = True := eq_true (by omega)
   obtain ⟨go35, co35, eo35, gb35, gl35, cl35, HG35⟩ := Kd.R_form HO1_3.out (by omega)
   (cases eo35)
   have GB35 := mk gb35
   clear gb35 gl35 HG35
   have HMgo35 := mk (show (P1_3_ go35 ∨ w.heap.size ≤ go35) from (HO1_3.out.1 _ rfl).1)
   obtain ⟨hx35_0, hf35_0⟩ := Kd.R_celln 0 HO1_3.out (0 : Int) p35 q35
   (try rw [show (0 : Int).toNat = 0 from rfl] at hx35_0)
   (try rw [show (0 : Int).toNat = 0 from rfl] at hf35_0)
   replace p35 := eq_true p35
   replace q35 := eq_true q35
   have HN0_go35 := mk (show g ≠ go35 from by have h_ := IsS100.own_ne HI0.out HO1_3.out (by decide); intro e_; exact h_ (by rw [e_]; rfl))
   have HP45 := Kd.R_putn HO1_3.out (0 : Int) tz2
   rw [← Nyz3.out] at HP45
   have HQ45 := mk HP45
   clear HP45
   refine hK.out _ _ ⟨blk_cell BKz0.out 0, blk_cell BKz0.out 1, blk_cell BKz0.out 2, blk_cell BKz0.out 3⟩ (fun hHeld => ?_)
   clear hK K
   refine norm_ (a' := ?_) ?_ ?_
   rotate_left
   ·show Act.put _ (some 28) _ = _
    simp only [seval]
    rfl
   refine pu 5 29 ?_ ?_ rfl rfl (by kernel_rfl) (Or.inl ⟨by rfl, ?_⟩) ?_ ?_
   rotate_left 2
   ·intro w'
    go_simp
    with_reducible rfl
   ·simp only [seval]
    rfl
   refine last_ (i := 6) (N := none) #[true, true, true, true, true, true, true] rfl rfl (by kernel_rfl) (by decide) (fun K hK => ?_)
   refine skip_ (w1 := ?_) (by rfl) rfl ?_ ?_
   rotate_left
   ·go_simp
    rfl
   refine hK.out _ _ ?_
   clear hK K
   refine done_ (by kernel_rfl) ?_
   have n0_ : Aside0 (Kd.R (Kd.int .i64) 3 (w44.setCell ⟨go35, 0, none⟩ (.int .i64 tz2)) w0.heap.size (fun k_ => (P1_3_ k_ ∨ w.heap.size ≤ k_) ∧ some k_ ≠ (.slice Ao43 yz1.length co43 : Value).ownBlock) (.slice (some ⟨go35, 0, none⟩) l1_3.length co36) yz4) := HQ45
   have n1_ : Aside0 (Kd.R (Kd.int .i64) 3 (w44.setCell ⟨go35, 0, none⟩ (.int .i64 tz2)) w0.heap.size (fun k_ => (P1_3_ k_ ∨ w.heap.size ≤ k_) ∧ some k_ ≠ (.slice (some ⟨go35, 0, none⟩) l1_3.length co36 : Value).ownBlock) (.slice Ao43 yz1.length co43) yz1) := ⟨by exact Kd.R_mono (Kd.R_far (p := ⟨go35, 0, none⟩) (Kd.R_mono HOz0.out (fun k_ hk => (⟨hk, fun e_ => hk.2 (by rw [e_]; rfl)⟩ : _ ∧ k_ ≠ go35))) (fun _ hk => hk.2) (.int .i64 tz2)) (fun _ hk => ⟨hk.1.1.1, hk.1.2⟩)⟩
   have n2_ : Aside0 ((w44.setCell ⟨go35, 0, none⟩ (.int .i64 tz2)).heap[gbz1]? = some (.cells #[.int .i64 a1_0, .int .i64 a1_1, .int .i64 a1_2, .slice (some ⟨go35, 0, none⟩) l1_3.length co36] 28 (0, 0))) := ⟨by refine blk_far ?_ (by have h_ := Kd.R_ne HO1_3.out BKz0.out (by decide); intro e_; exact h_ (by rw [e_]; rfl)) _; exact BKz0.out⟩
   have n3_ : Aside0 ((w44.setCell ⟨go35, 0, none⟩ (.int .i64 tz2)).heap[gbz0]? = some (.cells #[.int .i64 0, .int .i64 0, .int .i64 0, .slice none 0 0] 28 (0, 0))) := ⟨by refine blk_far ?_ (by have h_ := Kd.R_ne HO1_3.out BKz1.out (by decide); intro e_; exact h_ (by rw [e_]; rfl)) _; exact BKz1.out⟩
   have n4_ : Aside0 (IsS100 w0 (w44.setCell ⟨go35, 0, none⟩ (.int .i64 tz2)) g s0_0 tz5) := ⟨by repeat (with_reducible first | exact HI0.out | refine IsS100.far ?_ HN0_go35.out _)⟩
   have n5_ : Aside0 (Kept w (w44.setCell ⟨go35, 0, none⟩ (.int .i64 tz2)) (fun k_ => (P1_3_ k_) ∨ k_ = g)) := ⟨by repeat ((with_reducible first | exact HK.out | refine Kept.setCell ?_ (Or.imp_left Or.inl HMgo35.out) _))⟩
   have n6_ : Aside0 (Below w0.heap.size w0 (w44.setCell ⟨go35, 0, none⟩ (.int .i64 tz2))) := ⟨by repeat (with_reducible first | exact HB.out | refine below_set ?_ GB35.out)⟩
   (try clear HO1_3)
   (try clear HOz0)
   (try clear BKz0)
   (try clear BKz1)
   (try clear HI0)
   (try clear HK)
   (try clear HB)
   generalize (w44.setCell ⟨go35, 0, none⟩ (.int .i64 tz2)) = w46 at n0_ n1_ n2_ n3_ n4_ n5_ n6_ ⊢
   revert n0_ n1_ n2_ n3_ n4_ n5_ n6_; intro HO1_3 HOz0 BKz0 BKz1 HI0 HK HB
   have hcz49_0 : w46.cell? ⟨gbz1, 0, none⟩ = some (.int .i64 a1_0) := (blk_cell BKz0.out 0).trans rfl
   have hcz49_1 : w46.cell? ⟨gbz1, 1, none⟩ = some (.int .i64 a1_1) := (blk_cell BKz0.out 1).trans rfl
   have hcz49_2 : w46.cell? ⟨gbz1, 2, none⟩ = some (.int .i64 a1_2) := (blk_cell BKz0.out 2).trans rfl
   have hcz49_3 : w46.cell? ⟨gbz1, 3, none⟩ = some (.slice (some ⟨go35, 0, none⟩) l1_3.length co36) := (blk_cell BKz0.out 3).trans rfl
   have hcz51_0 : w46.cell? ⟨gbz0, 0, none⟩ = some (.int .i64 0) := (blk_cell BKz1.out 0).trans rfl
   have hcz51_1 : w46.cell? ⟨gbz0, 1, none⟩ = some (.int .i64 0) := (blk_cell BKz1.out 1).trans rfl
   have hcz51_2 : w46.cell? ⟨gbz0, 2, none⟩ = some (.int .i64 0) := (blk_cell BKz1.out 2).trans rfl
   have hcz51_3 : w46.cell? ⟨gbz0, 3, none⟩ = some (.slice none 0 0) := (blk_cell BKz1.out 3).trans rfl
   have hfz51_0 := blk_frozen BKz1.out 0
   have hfz51_1 := blk_frozen BKz1.out 1
   have hfz51_2 := blk_frozen BKz1.out 2
   have hfz51_3 := blk_frozen BKz1.out 3
   try go_wp2
   refine bodyPost_ret (results_cell_row rfl _ _ gbz0 28 #[.int .i64 a1_0, .int .i64 a1_1, .int .i64 a1_2, .slice (some ⟨go35, 0, none⟩) l1_3.length co36] (0, 0) _ rfl (by refine p4 (.int .i64 0) (.int .i64 0) (.int .i64 0) (.slice none 0 0) ?_; exact BKz1.out) Try.underlying28 rfl (by kernel_rfl)) rfl ?_
   exact ⟨_, by rfl, Kd.Q_of_R (by exact Kd.R_mono (R4 (Kd.R_types HO1_3.out BKz1.out (by decide)) (.int .i64 a1_0) (.int .i64 a1_1) (.int .i64 a1_2) (.slice (some ⟨go35, 0, none⟩) l1_3.length co36)) (fun _ hk => hk.1.1)), by repeat (with_reducible first | exact HI0.out | refine IsS100.far ?_ NBz3.out _), by repeat (with_reducible first | exact HB.out | refine below_set ?_ GEz0.out), by repeat ((with_reducible first | exact HK.out | refine Kept.setCell ?_ (.inr GWz0.out) _))⟩
  rw [if_neg c34] at H
  exact absurd H (by simp)
 rw [if_neg c32] at H
 have c32b0 : (tz0 == 2) = false := beq_eq_false_iff_ne.mpr c32
 have c32b1 : (tz0 != 2) = true := bne_iff_ne.mpr c32
 by_cases c52 : tz0 = 3
 ·rw [if_pos c52] at H
  have c52b0 : (tz0 == 3) = true := beq_iff_eq.mpr c52
  clear c52
  obtain ⟨yz3, hyz4⟩ : ∃ y_ : List Int, y_ = ([0, 5] : List Int) := ⟨_, rfl⟩
  replace H : ((spec_reader_one.f k s0_0 tz1 yz3).bind fun btz3 => (some (a1_0, a1_1, btz3.1, l1_3, btz3.2))) = some (r1, r2, r3, r4, r5) := by (rw [hyz4]; with_reducible exact H)
  have Nyz4 := mk hyz4
  clear hyz4
  replace H := Option.bind_eq_some_iff.mp H
  obtain ⟨⟨tz4, tz7⟩, A530, H⟩ := H
  replace H : (some (a1_0, a1_1, tz4, l1_3, tz7)) = some (r1, r2, r3, r4, r5) := H
  have A53 := mk A530
  clear A530
  simp only [Option.some.injEq, Prod.mk.injEq] at H
  obtain ⟨rfl, rfl, rfl, rfl, rfl⟩ := H
  obtain ⟨Ao54, co54, eo54⟩ := Kd.R_slice HO1_3.out
  subst eo54
  go_enter Try.func99, Try.ntmps99
  go_wp2_with (first | ((with_reducible refine gate_dst (N := 3) rfl ?_); refine box_event (by rfl) (N := 3) (by rfl) (cs := #[.int .i64 a1_0, .int .i64 a1_1, .int .i64 a1_2, .slice Ao54 l1_3.length co54]) (t := 28) (by go_simp; done) ?_; intro gbz1 hg w55 hbox hb; replace HO1_3 := mk (Kd.R_below HO1_3.out hb); have BKz0 := mk (hbox); have GWz1 := mk (by rw [hg]; exact HK.out.1 : w.heap.size ≤ gbz1); replace HK := mk (Kept.below (S := (fun k_ => (P1_3_ k_) ∨ k_ = g)) HK.out hb); have GEz1 := mk ((by rw [hg]; exact (below_size HB.out) : w0.heap.size ≤ gbz1)); replace HB := mk (below_step HB.out hb); have NBz4 := mk ((by rw [hg]; exact Nat.ne_of_lt (IsS100.lt (show IsS100 w0 _ g s0_0 s0_1 from by exact HI0.out)) : g ≠ gbz1)); have NBz0 := mk ((by rw [hg]; exact Nat.ne_of_gt (IsS100.lt (show IsS100 w0 _ g s0_0 s0_1 from by exact HI0.out)) : gbz1 ≠ g)); replace HI0 := mk (IsS100.below HI0.out hb); clear hb hbox hg) | ((with_reducible refine gate_dst (N := 4) rfl ?_); refine box_event (by rfl) (N := 4) (by rfl) (cs := #[.int .i64 0, .int .i64 0, .int .i64 0, .slice none 0 0]) (t := 28) (by go_simp; done) ?_; intro gbz0 hg w56 hbox hb; replace HO1_3 := mk (Kd.R_below HO1_3.out hb); have BKz1 := mk (hbox); have GWz0 := mk (by rw [hg]; exact HK.out.1 : w.heap.size ≤ gbz0); replace HK := mk (Kept.below (S := (fun k_ => (P1_3_ k_) ∨ k_ = g)) HK.out hb); have GEz0 := mk ((by rw [hg]; exact (below_size HB.out) : w0.heap.size ≤ gbz0)); replace HB := mk (below_step HB.out hb); have NBz2 := mk ((by rw [hg]; exact Nat.ne_of_gt (blk_lt BKz0.out) : gbz0 ≠ gbz1)); replace BKz0 := mk (blk_below BKz0.out hb); have NBz3 := mk ((by rw [hg]; exact Nat.ne_of_lt (IsS100.lt (show IsS100 w0 _ g s0_0 s0_1 from by exact HI0.out)) : g ≠ gbz0)); have NBz1 := mk ((by rw [hg]; exact Nat.ne_of_gt (IsS100.lt (show IsS100 w0 _ g s0_0 s0_1 from by exact HI0.out)) : gbz0 ≠ g)); replace HI0 := mk (IsS100.below HI0.out hb); clear hb hbox hg) | ((with_reducible refine gate_callee (f := 82) rfl ?_); refine goesL_ (some 6) rfl rfl Try.func82 (by kernel_rfl) rfl #[.pointer (some ⟨g, 0, none⟩), .int .i64 40] rfl (by (try simp only [bitvec_to_nat]); rfl) ?_; (with_reducible refine (spec_reader_pick.calls k g s0_0 s0_1 40 tz0 tz1 w0 _ ?side1 ?side2 A3.out).mono ?_); (case side1 => repeat (with_reducible exact HI0.out)); (case side2 => repeat (with_reducible exact HB.out)); rintro e w57 ⟨rfl, hi, hb, hk⟩; refine ⟨_, rfl, ?_⟩; replace HO1_3 := mk (Kd.R_mono (Kd.R_keep (IsS100.apart (show IsS100 w0 _ g s0_0 s0_1 from by exact HI0.out) HO1_3.out (by decide)) hk (fun _ h => h.2)) (fun _ h => h.1)); replace BKz0 := mk (KeepBut.blk hk (g' := gbz1) (o := .cells #[.int .i64 a1_0, .int .i64 a1_1, .int .i64 a1_2, .slice Ao54 l1_3.length co54] 28 (0, 0)) BKz0.out NBz0.out (by simp)); replace BKz1 := mk (KeepBut.blk hk (g' := gbz0) (o := .cells #[.int .i64 0, .int .i64 0, .int .i64 0, .slice none 0 0] 28 (0, 0)) BKz1.out NBz1.out (by simp)); replace HK := mk (Kept.of_keep (S := (fun k_ => (P1_3_ k_) ∨ k_ = g)) HK.out hk (.inl (.inr rfl))); replace HB := mk (hb); replace HI0 := mk (hi); (try clear hb); (try clear hk); (try clear hi)) | ((with_reducible refine gate_dst (N := 33) rfl ?_); refine Kd.R_lit (Kd.int .i64) _ 3 ?hg (N := 33) ?hd (xs := ([0, 5] : List Int)) (inner := [.int .i64 0, .int .i64 5]) (ok := fun _ => True) (okp := fun _ => True) ?hr ?hp (fun _ hk => hk) trivial (Below.refl _ _) (Nat.le_refl _) (by simp) ?_; (case hd => rfl); (case hg => rfl); (case hr => (go_simp; done)); (case hp => exact (Reps.one (show Kd.M (Kd.int .i64) _ _ _ 0 [.int .i64 0] from rfl) (Reps.one (show Kd.M (Kd.int .i64) _ _ _ 5 [.int .i64 5] from rfl) (Reps.none _ _)))); intro vz2 w58 ho59 hb hg_ hnew_; clear hg_ hnew_; (rw [← Nyz4.out] at ho59); have HOz2 := mk (Kd.R_lower (Kd.R_new' (Kd.R_newM (M := fun k_ => (P1_3_ k_ ∨ w.heap.size ≤ k_)) ho59 HK.out.1 (fun k_ h_ => .inr h_)) (Kd.R_lt HO1_3.out)) (below_size HB.out)); replace HO1_3 := mk (Kd.R_elder' HO1_3.out (Kd.R_base ho59) hb); replace HI0 := mk (IsS100.below HI0.out hb); replace BKz0 := mk (blk_below BKz0.out hb); replace BKz1 := mk (blk_below BKz1.out hb); replace HK := mk (Kept.below (S := (fun k_ => (P1_3_ k_) ∨ k_ = g)) HK.out hb); replace HB := mk (below_step HB.out hb); clear hb ho59; obtain ⟨Ao60, co60, eo60⟩ := Kd.R_slice HOz2.out; subst eo60) | ((with_reducible refine gate_callee (f := 73) rfl ?_); refine goesL_ (some 34) rfl rfl Try.func73 (by kernel_rfl) rfl #[.pointer (some ⟨g, 0, none⟩), .slice Ao60 yz3.length co60] rfl (by (try simp only [bitvec_to_nat]); rfl) ?_; (with_reducible refine (spec_reader_one.calls k g s0_0 tz1 _ _ yz3 tz4 tz7 w0 _ ?side1 ?side2 ?side3 ?side4 ?side5 A53.out).mono ?_); (case side1 => repeat (with_reducible exact HI0.out)); (case side2 => repeat (with_reducible exact HB.out)); (case side3 => repeat (exact (Kd.R_reads' HOz2.out).2.2)); (case side4 => exact (Kd.R_reads' HOz2.out).2.1); (case side5 => exact far_slice (IsS100.own_ne HI0.out HOz2.out (by decide))); rintro e w61 ⟨rfl, hi, hb, hk⟩; refine ⟨_, rfl, ?_⟩; have n0_ := mk (Kd.R_mono (Kd.R_keep (IsS100.apart (show IsS100 w0 _ g s0_0 tz1 from by exact HI0.out) HO1_3.out (by decide)) hk (fun _ h => h.2)) (fun _ h => h.1)); have n1_ := mk (KeepBut.blk hk (g' := gbz1) (o := .cells #[.int .i64 a1_0, .int .i64 a1_1, .int .i64 a1_2, .slice Ao54 l1_3.length co54] 28 (0, 0)) BKz0.out NBz0.out (by simp)); have n2_ := mk (KeepBut.blk hk (g' := gbz0) (o := .cells #[.int .i64 0, .int .i64 0, .int .i64 0, .slice none 0 0] 28 (0, 0)) BKz1.out NBz1.out (by simp)); have n4_ := mk (Kept.of_keep (S := (fun k_ => (P1_3_ k_) ∨ k_ = g)) HK.out hk (.inl (.inr rfl))); have n5_ := mk (hb); have n6_ := mk (hi); clear HO1_3; clear BKz0; clear BKz1; clear HOz2; clear HK; clear HB; clear HI0; have HO1_3 := n0_; have BKz0 := n1_; have BKz1 := n2_; have HK := n4_; have HB := n5_; have HI0 := n6_; (try clear hb); (try clear hk); (try clear hi); have hnc62 := NBz2.out; have hnb63 := NBz0.out; have hnc63 := NBz4.out; have hcz64_0 : w61.cell? ⟨gbz1, 0, none⟩ = some (.int .i64 a1_0) := (blk_cell BKz0.out 0).trans rfl; have hcz64_1 : w61.cell? ⟨gbz1, 1, none⟩ = some (.int .i64 a1_1) := (blk_cell BKz0.out 1).trans rfl; have hcz64_2 : w61.cell? ⟨gbz1, 2, none⟩ = some (.int .i64 a1_2) := (blk_cell BKz0.out 2).trans rfl; have hcz64_3 : w61.cell? ⟨gbz1, 3, none⟩ = some (.slice Ao54 l1_3.length co54) := (blk_cell BKz0.out 3).trans rfl; have hfz64_2 := blk_frozen BKz0.out 2; have hnb65 := NBz1.out; have hnc65 := NBz3.out; have hcz66_0 : w61.cell? ⟨gbz0, 0, none⟩ = some (.int .i64 0) := (blk_cell BKz1.out 0).trans rfl; have hcz66_1 : w61.cell? ⟨gbz0, 1, none⟩ = some (.int .i64 0) := (blk_cell BKz1.out 1).trans rfl; have hcz66_2 : w61.cell? ⟨gbz0, 2, none⟩ = some (.int .i64 0) := (blk_cell BKz1.out 2).trans rfl; have hcz66_3 : w61.cell? ⟨gbz0, 3, none⟩ = some (.slice none 0 0) := (blk_cell BKz1.out 3).trans rfl; have hfz66_0 := blk_frozen BKz1.out 0; have hfz66_1 := blk_frozen BKz1.out 1; have hfz66_2 := blk_frozen BKz1.out 2; have hfz66_3 := blk_frozen BKz1.out 3))
  refine bodyPost_ret (results_cell_row rfl _ _ gbz0 28 #[.int .i64 a1_0, .int .i64 a1_1, .int .i64 tz4, .slice Ao54 l1_3.length co54] (0, 0) _ rfl (by refine p4 (.int .i64 0) (.int .i64 0) (.int .i64 0) (.slice none 0 0) ?_; refine blk_far ?_ NBz2.out _; exact BKz1.out) Try.underlying28 rfl (by kernel_rfl)) rfl ?_
  exact ⟨_, by rfl, Kd.Q_of_R (by exact Kd.R_mono (R4 (Kd.R_far (p := ⟨gbz1, 2, none⟩) (Kd.R_types (Kd.R_types HO1_3.out BKz0.out (by decide)) BKz1.out (by decide)) (fun _ hk => hk.1.2) (.int .i64 tz4)) (.int .i64 a1_0) (.int .i64 a1_1) (.int .i64 tz4) (.slice Ao54 l1_3.length co54)) (fun _ hk => hk.1.1.1)), by repeat (with_reducible first | exact HI0.out | refine IsS100.far ?_ NBz4.out _ | refine IsS100.far ?_ NBz3.out _), by repeat (with_reducible first | exact HB.out | refine below_set ?_ GEz1.out | refine below_set ?_ GEz0.out), by repeat ((with_reducible first | exact HK.out | refine Kept.setCell ?_ (.inr GWz1.out) _ | refine Kept.setCell ?_ (.inr GWz0.out) _))⟩
 rw [if_neg c52] at H
 have c52b0 : (tz0 == 3) = false := beq_eq_false_iff_ne.mpr c52
 simp only [Option.some.injEq, Prod.mk.injEq] at H
 obtain ⟨rfl, rfl, rfl, rfl, rfl⟩ := H
 obtain ⟨Ao67, co67, eo67⟩ := Kd.R_slice HO1_3.out
 subst eo67
 go_enter Try.func99, Try.ntmps99
 go_wp2_with (first | ((with_reducible refine gate_dst (N := 3) rfl ?_); refine box_event (by rfl) (N := 3) (by rfl) (cs := #[.int .i64 a1_0, .int .i64 a1_1, .int .i64 a1_2, .slice Ao67 l1_3.length co67]) (t := 28) (by go_simp; done) ?_; intro gbz1 hg w68 hbox hb; replace HO1_3 := mk (Kd.R_below HO1_3.out hb); replace HK := mk (Kept.below (S := (fun k_ => (P1_3_ k_) ∨ k_ = g)) HK.out hb); replace HB := mk (below_step HB.out hb); have BKz0 := mk (hbox); have NBz0 := mk ((by rw [hg]; exact Nat.ne_of_gt (IsS100.lt (show IsS100 w0 _ g s0_0 s0_1 from by exact HI0.out)) : gbz1 ≠ g)); replace HI0 := mk (IsS100.below HI0.out hb); clear hb hbox hg) | ((with_reducible refine gate_dst (N := 4) rfl ?_); refine box_event (by rfl) (N := 4) (by rfl) (cs := #[.int .i64 0, .int .i64 0, .int .i64 0, .slice none 0 0]) (t := 28) (by go_simp; done) ?_; intro gbz0 hg w69 hbox hb; replace HO1_3 := mk (Kd.R_below HO1_3.out hb); replace BKz0 := mk (blk_below BKz0.out hb); have BKz1 := mk (hbox); have GWz0 := mk (by rw [hg]; exact HK.out.1 : w.heap.size ≤ gbz0); replace HK := mk (Kept.below (S := (fun k_ => (P1_3_ k_) ∨ k_ = g)) HK.out hb); have GEz0 := mk ((by rw [hg]; exact (below_size HB.out) : w0.heap.size ≤ gbz0)); replace HB := mk (below_step HB.out hb); have NBz3 := mk ((by rw [hg]; exact Nat.ne_of_lt (IsS100.lt (show IsS100 w0 _ g s0_0 s0_1 from by exact HI0.out)) : g ≠ gbz0)); have NBz1 := mk ((by rw [hg]; exact Nat.ne_of_gt (IsS100.lt (show IsS100 w0 _ g s0_0 s0_1 from by exact HI0.out)) : gbz0 ≠ g)); replace HI0 := mk (IsS100.below HI0.out hb); clear hb hbox hg) | ((with_reducible refine gate_callee (f := 82) rfl ?_); refine goesL_ (some 6) rfl rfl Try.func82 (by kernel_rfl) rfl #[.pointer (some ⟨g, 0, none⟩), .int .i64 40] rfl (by (try simp only [bitvec_to_nat]); rfl) ?_; (with_reducible refine (spec_reader_pick.calls k g s0_0 s0_1 40 tz0 tz1 w0 _ ?side1 ?side2 A3.out).mono ?_); (case side1 => repeat (with_reducible exact HI0.out)); (case side2 => repeat (with_reducible exact HB.out)); rintro e w70 ⟨rfl, hi, hb, hk⟩; refine ⟨_, rfl, ?_⟩; replace HO1_3 := mk (Kd.R_mono (Kd.R_keep (IsS100.apart (show IsS100 w0 _ g s0_0 s0_1 from by exact HI0.out) HO1_3.out (by decide)) hk (fun _ h => h.2)) (fun _ h => h.1)); replace BKz0 := mk (KeepBut.blk hk (g' := gbz1) (o := .cells #[.int .i64 a1_0, .int .i64 a1_1, .int .i64 a1_2, .slice Ao67 l1_3.length co67] 28 (0, 0)) BKz0.out NBz0.out (by simp)); replace BKz1 := mk (KeepBut.blk hk (g' := gbz0) (o := .cells #[.int .i64 0, .int .i64 0, .int .i64 0, .slice none 0 0] 28 (0, 0)) BKz1.out NBz1.out (by simp)); replace HK := mk (Kept.of_keep (S := (fun k_ => (P1_3_ k_) ∨ k_ = g)) HK.out hk (.inl (.inr rfl))); replace HB := mk (hb); replace HI0 := mk (hi); (try clear hb); (try clear hk); (try clear hi); have hcz73_0 : w70.cell? ⟨gbz1, 0, none⟩ = some (.int .i64 a1_0) := (blk_cell BKz0.out 0).trans rfl; have hcz73_1 : w70.cell? ⟨gbz1, 1, none⟩ = some (.int .i64 a1_1) := (blk_cell BKz0.out 1).trans rfl; have hcz73_2 : w70.cell? ⟨gbz1, 2, none⟩ = some (.int .i64 a1_2) := (blk_cell BKz0.out 2).trans rfl; have hcz73_3 : w70.cell? ⟨gbz1, 3, none⟩ = some (.slice Ao67 l1_3.length co67) := (blk_cell BKz0.out 3).trans rfl; have hcz75_0 : w70.cell? ⟨gbz0, 0, none⟩ = some (.int .i64 0) := (blk_cell BKz1.out 0).trans rfl; have hcz75_1 : w70.cell? ⟨gbz0, 1, none⟩ = some (.int .i64 0) := (blk_cell BKz1.out 1).trans rfl; have hcz75_2 : w70.cell? ⟨gbz0, 2, none⟩ = some (.int .i64 0) := (blk_cell BKz1.out 2).trans rfl; have hcz75_3 : w70.cell? ⟨gbz0, 3, none⟩ = some (.slice none 0 0) := (blk_cell BKz1.out 3).trans rfl; have hfz75_0 := blk_frozen BKz1.out 0; have hfz75_1 := blk_frozen BKz1.out 1; have hfz75_2 := blk_frozen BKz1.out 2; have hfz75_3 := blk_frozen BKz1.out 3))
 refine bodyPost_ret (results_cell_row rfl _ _ gbz0 28 #[.int .i64 a1_0, .int .i64 a1_1, .int .i64 a1_2, .slice Ao67 l1_3.length co67] (0, 0) _ rfl (by refine p4 (.int .i64 0) (.int .i64 0) (.int .i64 0) (.slice none 0 0) ?_; exact BKz1.out) Try.underlying28 rfl (by kernel_rfl)) rfl ?_
 exact ⟨_, by rfl, Kd.Q_of_R (by exact Kd.R_mono (R4 (Kd.R_types HO1_3.out BKz1.out (by decide)) (.int .i64 a1_0) (.int .i64 a1_1) (.int .i64 a1_2) (.slice Ao67 l1_3.length co67)) (fun _ hk => hk.1)), by repeat (with_reducible first | exact HI0.out | refine IsS100.far ?_ NBz3.out _), by repeat (with_reducible first | exact HB.out | refine below_set ?_ GEz0.out), by repeat ((with_reducible first | exact HK.out | refine Kept.setCell ?_ (.inr GWz0.out) _))⟩


def spec_newImage.f (a0 : Int) (a1 : Int) (a2 : Int) : Option (Int × Int × Int × List Int) := if 0 ≤ (wrap64 ((wrap64 (a0 * a1)) * a2)) then (if (wrap64 ((wrap64 (a0 * a1)) * a2) : Int).toNat ≤ 35184372088832 then (some (a0, a1, a2, (List.replicate (wrap64 ((wrap64 (a0 * a1)) * a2) : Int).toNat 0))) else (none)) else (none)
theorem spec_newImage.calls (a0 : Int) (a1 : Int) (a2 : Int) (r1 : Int) (r2 : Int) (r3 : Int) (r4 : List Int) (w : World) (h : spec_newImage.f a0 a1 a2 = some (r1, r2, r3, r4)) :
  Calls Try.prog 107 #[.int .i64 a0, .int .i64 a1, .int .i64 a2] w fun e w' => ∃ v3_ : Value, e = .returned (.agg #[.int .i64 r1, .int .i64 r2, .int .i64 r3, v3_]) ∧ Kd.R (Kd.int .i64) 3 w' w.heap.size (fun _ => True) v3_ r4 ∧ Below w.heap.size w w' := by
 have hu28 := Try.underlying28
 have HB := Aside0.mk (Below.refl w.heap.size w)
 have H : (if 0 ≤ (wrap64 ((wrap64 (a0 * a1)) * a2)) then (if (wrap64 ((wrap64 (a0 * a1)) * a2) : Int).toNat ≤ 35184372088832 then (some (a0, a1, a2, (List.replicate (wrap64 ((wrap64 (a0 * a1)) * a2) : Int).toNat 0))) else (none)) else (none)) = some (r1, r2, r3, r4) := h
 clear h
 obtain ⟨ji4, hji4⟩ : ∃ j_ : Int, (wrap64 ((wrap64 (a0 * a1)) * a2)) = j_ := ⟨_, rfl⟩
 replace H : (if 0 ≤ (ji4) then (if (ji4 : Int).toNat ≤ 35184372088832 then (some (a0, a1, a2, (List.replicate (ji4 : Int).toNat 0))) else (none)) else (none)) = some (r1, r2, r3, r4) := by first | (rw [hji4] at H; exact H) | (simp only [hji4] at H ⊢; exact H)
 have hji4w : (IntKind.i64.wrap ((wrap64 (a0 * a1)) * a2)) = ji4 := (i64_w _).trans hji4
 by_cases c5 : 0 ≤ (ji4)
 ·rw [if_pos c5] at H
  have c5b0 := eq_true c5
  have c5b1 : decide (0 ≤ (ji4)) = true := decide_eq_true c5
  clear c5
  by_cases c6 : (ji4 : Int).toNat ≤ 35184372088832
  ·rw [if_pos c6] at H
   have c6b0 := eq_true c6
   have c6b1 : decide ((ji4 : Int).toNat ≤ 35184372088832) = true := decide_eq_true c6
   clear c6
   obtain ⟨y108002, hy108002⟩ : ∃ y_ : List Int, y_ = (List.replicate (ji4 : Int).toNat 0) := ⟨_, rfl⟩
   replace H : (some (a0, a1, a2, y108002)) = some (r1, r2, r3, r4) := by first | (rw [hy108002]; with_reducible exact H) | (have H2_ := (Option.bind_some _ _).symm.trans H; rw [hy108002]; with_reducible exact H2_) | (have H2_ := (Option.bind_some _ _).symm.trans H; with_reducible exact H2_) | with_reducible exact H | (rw [hy108002]; exact H) | exact H
   have Ny108002 := Aside0.mk hy108002
   clear hy108002
   simp only [Option.some.injEq, Prod.mk.injEq] at H
   obtain ⟨rfl, rfl, rfl, rfl⟩ := H
   go_enter Try.func107, Try.ntmps107
   go_wp2_with (first | ((with_reducible refine gate_dst (N := 6) rfl ?_); refine box_event ?hg (N := 6) ?hd (cs := #[.int .i64 0, .int .i64 0, .int .i64 0, .slice none 0 0]) (t := 28) ?hr ?_; (case hd => rfl); (case hg => rfl); (case hr => first | (go_simp; done) | (go_simp; rfl)); intro gb108001 hg w7 hbox hb; have n0_ := Aside0.mk (below_step (by repeat (first | (with_reducible first | exact HB.out | apply below_alloc | apply pw_below_drewN | apply below_drew1) | exact HB.out)) hb); have n1_ := Aside0.mk (hbox); have n2_ := Aside0.mk ((by rw [hg]; exact (below_size (by repeat (first | (with_reducible first | exact HB.out | apply below_alloc | apply pw_below_drewN | apply below_drew1) | exact HB.out))) : w.heap.size ≤ gb108001)); have n3_ := Aside0.mk ((by rw [hg]; exact (below_size (by repeat (first | (with_reducible first | exact HB.out | apply below_alloc | apply pw_below_drewN | apply below_drew1) | exact HB.out))) : w.heap.size ≤ gb108001)); clear HB; have HB := n0_; have BK108001 := n1_; have GW108001 := n2_; have GE108001 := n3_; clear n0_ n1_ n2_ n3_; clear hb hbox hg) | ((with_reducible refine gate_dst (N := 15) rfl ?_); refine Kd.R_make (Kd.int .i64) _ 3 rfl (N := 15) rfl 22 _ _ rfl ji4 rfl rfl Try.underlying22 (.int .i64 0) 8 info3 rfl (by decide) (by omega) 0 (ok := fun _ => True) (okp := fun _ => True) rfl (fun _ hk => hk) trivial (of_decide_eq_true (by first | (with_reducible assumption) | assumption)) (Nat.le_trans (Nat.mul_le_mul_right _ (of_decide_eq_true (by first | (with_reducible assumption) | assumption) : ji4.toNat ≤ 35184372088832)) (by omega)) (Below.refl _ _) (Nat.le_refl _) ?_; intro v108003 w8 ho9 hb hg_ hnew_; clear hg_ hnew_; (first | rw [← Ny108002.out] at ho9 | (simp only [Int.reduceToNat] at ho9; rw [← Ny108002.out] at ho9)); have n0_ := Aside0.mk (Kd.R_lower ho9 (below_size (by repeat (first | (with_reducible first | exact HB.out | apply below_alloc | apply pw_below_drewN | apply below_drew1 | refine below_set ?_ GE108001.out) | exact HB.out)))); have n1_ := Aside0.mk (blk_below (g := gb108001) (o := .cells #[.int .i64 0, .int .i64 0, .int .i64 0, .slice none 0 0] 28 (0, 0)) (by (with_reducible repeat (first | refine blk_drewN ?_ _ | refine blk_drew ?_ | refine blk_alloc ?_ _)); exact BK108001.out) hb); have n2_ := Aside0.mk (below_step (by repeat (first | (with_reducible first | exact HB.out | apply below_alloc | apply pw_below_drewN | apply below_drew1 | refine below_set ?_ GE108001.out) | exact HB.out)) hb); clear BK108001; clear HB; have HO108004 := n0_; have BK108001 := n1_; have HB := n2_; clear n0_ n1_ n2_; clear hb ho9; obtain ⟨Ao10, co10, eo10⟩ := Kd.R_slice HO108004.out; subst eo10; have hcz11_0 : w8.cell? ⟨gb108001, 0, none⟩ = some (.int .i64 0) := (blk_cell BK108001.out 0).trans rfl; have hcz11_1 : w8.cell? ⟨gb108001, 1, none⟩ = some (.int .i64 0) := (blk_cell BK108001.out 1).trans rfl; have hcz11_2 : w8.cell? ⟨gb108001, 2, none⟩ = some (.int .i64 0) := (blk_cell BK108001.out 2).trans rfl; have hcz11_3 : w8.cell? ⟨gb108001, 3, none⟩ = some (.slice none 0 0) := (blk_cell BK108001.out 3).trans rfl; have hfz11_0 := blk_frozen BK108001.out 0; have hfz11_1 := blk_frozen BK108001.out 1; have hfz11_2 := blk_frozen BK108001.out 2; have hfz11_3 := blk_frozen BK108001.out 3))
   refine bodyPost_ret (results_cell_row rfl _ _ gb108001 28 #[.int .i64 a0, .int .i64 a1, .int .i64 a2, .slice Ao10 y108002.length co10] (0, 0) _ rfl (by (with_reducible repeat (first | refine blk_drewN ?_ _ | refine blk_drew ?_ | refine blk_alloc ?_ _)); refine blk_put (cs := #[.int .i64 a0, .int .i64 a1, .int .i64 a2, .slice none 0 0]) ?_ 3 _ rfl; (with_reducible repeat (first | refine blk_drewN ?_ _ | refine blk_drew ?_ | refine blk_alloc ?_ _)); refine blk_put (cs := #[.int .i64 a0, .int .i64 a1, .int .i64 0, .slice none 0 0]) ?_ 2 _ rfl; (with_reducible repeat (first | refine blk_drewN ?_ _ | refine blk_drew ?_ | refine blk_alloc ?_ _)); refine blk_put (cs := #[.int .i64 a0, .int .i64 0, .int .i64 0, .slice none 0 0]) ?_ 1 _ rfl; (with_reducible repeat (first | refine blk_drewN ?_ _ | refine blk_drew ?_ | refine blk_alloc ?_ _)); refine blk_put (cs := #[.int .i64 0, .int .i64 0, .int .i64 0, .slice none 0 0]) ?_ 0 _ rfl; (with_reducible repeat (first | refine blk_drewN ?_ _ | refine blk_drew ?_ | refine blk_alloc ?_ _)); exact BK108001.out) Try.underlying28 rfl (by kernel_rfl)) rfl ?_
   exact ⟨_, by first | rfl | (simp [errW_none, errW_some] <;> rfl) | (simp only [← hji4]; first | rfl | (simp [errW_none, errW_some] <;> rfl)) | (simp [*, errW_none, errW_some] <;> rfl), by (with_reducible repeat (first | apply Kd.R_alloc | apply Kd.R_drewN | apply Kd.R_drew)); exact Kd.R_mono (Kd.R_far (p := ⟨gb108001, 3, none⟩) (Kd.R_far (p := ⟨gb108001, 2, none⟩) (Kd.R_far (p := ⟨gb108001, 1, none⟩) (Kd.R_far (p := ⟨gb108001, 0, none⟩) (Kd.R_types HO108004.out BK108001.out (by decide)) (fun _ hk => hk.2) (.int .i64 a0)) (fun _ hk => hk.2) (.int .i64 a1)) (fun _ hk => hk.2) (.int .i64 a2)) (fun _ hk => hk.2) (.slice Ao10 y108002.length co10)) (fun _ hk => trivial), by repeat (first | (with_reducible first | exact HB.out | apply below_alloc | apply pw_below_drewN | apply below_drew1 | refine below_set ?_ GE108001.out) | exact HB.out)⟩
  ·rw [if_neg c6] at H
   exact absurd H (by simp)
 ·rw [if_neg c5] at H
  exact absurd H (by simp)


def spec_randomImage.l0 : Nat → Int → Int → Int → List Int → Int → Int → Int → Int → List Int → Option (Int × Int × Int × List Int × Int)
 | 0, _, _, _, _, _, _, _, _, _ => none
 | k + 1, x6, x7, x8, x1000, x1001, xz2, xz3, xz4, xz1 => if x8 < (xz1.length : Int) then (if x6 = 0 then ((spec_reader_pick.f k x1000 x1001 256).bind fun btz5 => (if 0 ≤ x8 then (spec_randomImage.l0 k x6 btz5.1 (wrap64 (x8 + 1)) x1000 btz5.2 xz2 xz3 xz4 (xz1.set (x8 : Int).toNat btz5.1)) else none)) else (if x6 = 1 then ((spec_reader_pick.f k x1000 x1001 5).bind fun btz6 => (if 0 ≤ x8 then (spec_randomImage.l0 k x6 (Int.tmod (wrap64 ((wrap64 (x7 + btz6.1)) + 254)) 256) (wrap64 (x8 + 1)) x1000 btz6.2 xz2 xz3 xz4 (xz1.set (x8 : Int).toNat (Int.tmod (wrap64 ((wrap64 (x7 + btz6.1)) + 254)) 256))) else none)) else (if x6 = 2 then ((spec_reader_pick.f k x1000 x1001 4).bind fun btz7 => (if 0 ≤ x8 then (spec_randomImage.l0 k x6 (wrap64 (60 * btz7.1)) (wrap64 (x8 + 1)) x1000 btz7.2 xz2 xz3 xz4 (xz1.set (x8 : Int).toNat (wrap64 (60 * btz7.1)))) else none)) else (if 0 ≤ x8 then (spec_randomImage.l0 k x6 x7 (wrap64 (x8 + 1)) x1000 x1001 xz2 xz3 xz4 (xz1.set (x8 : Int).toNat x7)) else none)))) else (some (xz2, xz3, xz4, xz1, x1001))
def spec_randomImage.f (k : Nat) (s0_0 : List Int) (s0_1 : Int) (a1 : Int) : Option (Int × Int × Int × List Int × Int) := (spec_reader_one.f k s0_0 s0_1 ([3, 4, 2, 5, 1, 8, 6] : List Int)).bind fun btz4 => ((spec_reader_one.f k s0_0 btz4.2 ([3, 2, 4, 1, 5, 8] : List Int)).bind fun btz3 => ((spec_newImage.f btz4.1 btz3.1 a1).bind fun btz0 => ((spec_reader_pick.f k s0_0 btz3.2 4).bind fun btz2 => ((spec_reader_pick.f k s0_0 btz2.2 256).bind fun btz1 => (spec_randomImage.l0 k btz2.1 btz1.1 0 s0_0 btz1.2 btz0.1 btz0.2.1 btz0.2.2.1 btz0.2.2.2)))))
theorem spec_randomImage.calls (k : Nat) (g : Nat) (s0_0 : List Int) (s0_1 : Int) (a1 : Int) (r1 : Int) (r2 : Int) (r3 : Int) (r4 : List Int) (r5 : Int) (w0 w : World) (hI : IsS100 w0 w g s0_0 s0_1) (hB : Below w0.heap.size w0 w) (h : spec_randomImage.f k s0_0 s0_1 a1 = some (r1, r2, r3, r4, r5)) :
  Calls Try.prog 100 #[.pointer (some ⟨g, 0, none⟩), .int .i64 a1] w fun e w' => ∃ v3_ : Value, e = .returned (.agg #[.int .i64 r1, .int .i64 r2, .int .i64 r3, v3_]) ∧ Kd.R (Kd.int .i64) 3 w' w.heap.size (fun _ => True) v3_ r4 ∧ IsS100 w0 w' g s0_0 r5 ∧ Below w0.heap.size w0 w' ∧ KeepBut w w' g none := by
 have HI0 := mk hI
 have HK := mk (KeepBut.refl w g none)
 have HL := mk hB.size
 clear hI
 have HW0 := mk hB.size
 have HB := mk hB
 clear hB
 have H : ((spec_reader_one.f k s0_0 s0_1 ([3, 4, 2, 5, 1, 8, 6] : List Int)).bind fun btz4 => ((spec_reader_one.f k s0_0 btz4.2 ([3, 2, 4, 1, 5, 8] : List Int)).bind fun btz3 => ((spec_newImage.f btz4.1 btz3.1 a1).bind fun btz0 => ((spec_reader_pick.f k s0_0 btz3.2 4).bind fun btz2 => ((spec_reader_pick.f k s0_0 btz2.2 256).bind fun btz1 => (spec_randomImage.l0 k btz2.1 btz1.1 0 s0_0 btz1.2 btz0.1 btz0.2.1 btz0.2.2.1 btz0.2.2.2)))))) = some (r1, r2, r3, r4, r5) := h
 clear h
 obtain ⟨yz0, hyz0⟩ : ∃ y_ : List Int, y_ = ([3, 4, 2, 5, 1, 8, 6] : List Int) := ⟨_, rfl⟩
 replace H : ((spec_reader_one.f k s0_0 s0_1 yz0).bind fun btz4 => ((spec_reader_one.f k s0_0 btz4.2 ([3, 2, 4, 1, 5, 8] : List Int)).bind fun btz3 => ((spec_newImage.f btz4.1 btz3.1 a1).bind fun btz0 => ((spec_reader_pick.f k s0_0 btz3.2 4).bind fun btz2 => ((spec_reader_pick.f k s0_0 btz2.2 256).bind fun btz1 => (spec_randomImage.l0 k btz2.1 btz1.1 0 s0_0 btz1.2 btz0.1 btz0.2.1 btz0.2.2.1 btz0.2.2.2)))))) = some (r1, r2, r3, r4, r5) := by (rw [hyz0]; with_reducible exact H)
 have Nyz0 := mk hyz0
 clear hyz0
 replace H := Option.bind_eq_some_iff.mp H
 obtain ⟨⟨tz9, tz10⟩, A30, H⟩ := H
 replace H : ((spec_reader_one.f k s0_0 tz10 ([3, 2, 4, 1, 5, 8] : List Int)).bind fun btz3 => ((spec_newImage.f tz9 btz3.1 a1).bind fun btz0 => ((spec_reader_pick.f k s0_0 btz3.2 4).bind fun btz2 => ((spec_reader_pick.f k s0_0 btz2.2 256).bind fun btz1 => (spec_randomImage.l0 k btz2.1 btz1.1 0 s0_0 btz1.2 btz0.1 btz0.2.1 btz0.2.2.1 btz0.2.2.2))))) = some (r1, r2, r3, r4, r5) := H
 have A3 := mk A30
 clear A30
 obtain ⟨yz1, hyz1⟩ : ∃ y_ : List Int, y_ = ([3, 2, 4, 1, 5, 8] : List Int) := ⟨_, rfl⟩
 replace H : ((spec_reader_one.f k s0_0 tz10 yz1).bind fun btz3 => ((spec_newImage.f tz9 btz3.1 a1).bind fun btz0 => ((spec_reader_pick.f k s0_0 btz3.2 4).bind fun btz2 => ((spec_reader_pick.f k s0_0 btz2.2 256).bind fun btz1 => (spec_randomImage.l0 k btz2.1 btz1.1 0 s0_0 btz1.2 btz0.1 btz0.2.1 btz0.2.2.1 btz0.2.2.2))))) = some (r1, r2, r3, r4, r5) := by (rw [hyz1]; with_reducible exact H)
 have Nyz1 := mk hyz1
 clear hyz1
 replace H := Option.bind_eq_some_iff.mp H
 obtain ⟨⟨tz11, tz5⟩, A40, H⟩ := H
 replace H : ((spec_newImage.f tz9 tz11 a1).bind fun btz0 => ((spec_reader_pick.f k s0_0 tz5 4).bind fun btz2 => ((spec_reader_pick.f k s0_0 btz2.2 256).bind fun btz1 => (spec_randomImage.l0 k btz2.1 btz1.1 0 s0_0 btz1.2 btz0.1 btz0.2.1 btz0.2.2.1 btz0.2.2.2)))) = some (r1, r2, r3, r4, r5) := H
 have A4 := mk A40
 clear A40
 replace H := Option.bind_eq_some_iff.mp H
 obtain ⟨⟨tz0, tz1, tz2, tz4⟩, A50, H⟩ := H
 replace H : ((spec_reader_pick.f k s0_0 tz5 4).bind fun btz2 => ((spec_reader_pick.f k s0_0 btz2.2 256).bind fun btz1 => (spec_randomImage.l0 k btz2.1 btz1.1 0 s0_0 btz1.2 tz0 tz1 tz2 tz4))) = some (r1, r2, r3, r4, r5) := H
 have A5 := mk A50
 clear A50
 replace H := Option.bind_eq_some_iff.mp H
 obtain ⟨⟨tz3, tz12⟩, A60, H⟩ := H
 replace H : ((spec_reader_pick.f k s0_0 tz12 256).bind fun btz1 => (spec_randomImage.l0 k tz3 btz1.1 0 s0_0 btz1.2 tz0 tz1 tz2 tz4)) = some (r1, r2, r3, r4, r5) := H
 have A6 := mk A60
 clear A60
 replace H := Option.bind_eq_some_iff.mp H
 obtain ⟨⟨tz16, tz17⟩, A70, H⟩ := H
 replace H : (spec_randomImage.l0 k tz3 tz16 0 s0_0 tz17 tz0 tz1 tz2 tz4) = some (r1, r2, r3, r4, r5) := H
 have A7 := mk A70
 clear A70
 have H' := mk H
 clear H
 go_enter Try.func100, Try.ntmps100
 go_wp2_with (first | ((with_reducible refine gate_dst (N := 4) rfl ?_); refine box_event (by rfl) (N := 4) (by rfl) (cs := #[.int .i64 0, .int .i64 0, .int .i64 0, .slice none 0 0]) (t := 28) (by go_simp; done) ?_; intro gbz1 hg w8 hbox hb; replace HB := mk (below_step HB.out hb); have BKz0 := mk (hbox); have GWz0 := mk ((by rw [hg]; exact (keep_size (w := w) (g := g) (row := none) HK.out) : w.heap.size ≤ gbz1)); have GEz0 := mk ((Nat.le_trans HW0.out (by rw [hg]; exact (keep_size (w := w) (g := g) (row := none) HK.out) : w.heap.size ≤ gbz1) : w0.heap.size ≤ gbz1)); replace HK := mk (KeepBut.trans HK.out (KeepBut.of_below hb g none) (.inl rfl)); have NBz4 := mk ((by rw [hg]; exact Nat.ne_of_lt (IsS100.lt (show IsS100 w0 _ g s0_0 s0_1 from by exact HI0.out)) : g ≠ gbz1)); have NBz0 := mk ((by rw [hg]; exact Nat.ne_of_gt (IsS100.lt (show IsS100 w0 _ g s0_0 s0_1 from by exact HI0.out)) : gbz1 ≠ g)); replace HI0 := mk (IsS100.below HI0.out hb); clear hb hbox hg) | ((with_reducible refine gate_dst (N := 10) rfl ?_); refine Kd.R_lit (Kd.int .i64) _ 3 ?hg (N := 10) ?hd (xs := ([3, 4, 2, 5, 1, 8, 6] : List Int)) (inner := [.int .i64 3, .int .i64 4, .int .i64 2, .int .i64 5, .int .i64 1, .int .i64 8, .int .i64 6]) (ok := fun _ => True) (okp := fun _ => True) ?hr ?hp (fun _ hk => hk) trivial (Below.refl _ _) (Nat.le_refl _) (by simp) ?_; (case hd => rfl); (case hg => rfl); (case hr => (go_simp; done)); (case hp => exact (Reps.one (show Kd.M (Kd.int .i64) _ _ _ 3 [.int .i64 3] from rfl) (Reps.one (show Kd.M (Kd.int .i64) _ _ _ 4 [.int .i64 4] from rfl) (Reps.one (show Kd.M (Kd.int .i64) _ _ _ 2 [.int .i64 2] from rfl) (Reps.one (show Kd.M (Kd.int .i64) _ _ _ 5 [.int .i64 5] from rfl) (Reps.one (show Kd.M (Kd.int .i64) _ _ _ 1 [.int .i64 1] from rfl) (Reps.one (show Kd.M (Kd.int .i64) _ _ _ 8 [.int .i64 8] from rfl) (Reps.one (show Kd.M (Kd.int .i64) _ _ _ 6 [.int .i64 6] from rfl) (Reps.none _ _))))))))); intro vz0 w9 ho10 hb hg_ hnew_; clear hg_ hnew_; (rw [← Nyz0.out] at ho10); have HOz1 := mk (Kd.R_lower ho10 (keep_size (w := w) (g := g) (row := none) HK.out)); replace HI0 := mk (IsS100.below HI0.out hb); replace BKz0 := mk (blk_below BKz0.out hb); replace HK := mk (KeepBut.trans HK.out (KeepBut.of_below hb g none) (.inl rfl)); replace HB := mk (below_step HB.out hb); clear hb ho10; obtain ⟨Ao11, co11, eo11⟩ := Kd.R_slice HOz1.out; subst eo11) | ((with_reducible refine gate_callee (f := 73) rfl ?_); refine goesL_ (some 11) rfl rfl Try.func73 (by kernel_rfl) rfl #[.pointer (some ⟨g, 0, none⟩), .slice Ao11 yz0.length co11] rfl (by (try simp only [bitvec_to_nat]); rfl) ?_; (with_reducible refine (spec_reader_one.calls k g s0_0 s0_1 _ _ yz0 tz9 tz10 w0 _ ?side1 ?side2 ?side3 ?side4 ?side5 A3.out).mono ?_); (case side1 => repeat (with_reducible exact HI0.out)); (case side2 => repeat (with_reducible exact HB.out)); (case side3 => repeat (exact (Kd.R_reads' HOz1.out).2.2)); (case side4 => exact (Kd.R_reads' HOz1.out).2.1); (case side5 => exact far_slice (IsS100.own_ne HI0.out HOz1.out (by decide))); rintro e w12 ⟨rfl, hi, hb, hk⟩; refine ⟨_, rfl, ?_⟩; replace BKz0 := mk (KeepBut.blk hk (g' := gbz1) (o := .cells #[.int .i64 0, .int .i64 0, .int .i64 0, .slice none 0 0] 28 (0, 0)) BKz0.out NBz0.out (by simp)); replace HOz1 := mk (Kd.R_mono (Kd.R_keep (IsS100.apart (show IsS100 w0 _ g s0_0 s0_1 from by exact HI0.out) HOz1.out (by decide)) hk (fun _ h => h.2)) (fun _ h => h.1)); replace HK := mk (KeepBut.trans HK.out hk (.inl rfl)); replace HB := mk (hb); replace HI0 := mk (hi); (try clear hb); (try clear hk); (try clear hi)) | ((with_reducible refine gate_dst (N := 13) rfl ?_); refine Kd.R_lit (Kd.int .i64) _ 3 ?hg (N := 13) ?hd (xs := ([3, 2, 4, 1, 5, 8] : List Int)) (inner := [.int .i64 3, .int .i64 2, .int .i64 4, .int .i64 1, .int .i64 5, .int .i64 8]) (ok := fun _ => True) (okp := fun _ => True) ?hr ?hp (fun _ hk => hk) trivial (Below.refl _ _) (Nat.le_refl _) (by simp) ?_; (case hd => rfl); (case hg => rfl); (case hr => (go_simp; done)); (case hp => exact (Reps.one (show Kd.M (Kd.int .i64) _ _ _ 3 [.int .i64 3] from rfl) (Reps.one (show Kd.M (Kd.int .i64) _ _ _ 2 [.int .i64 2] from rfl) (Reps.one (show Kd.M (Kd.int .i64) _ _ _ 4 [.int .i64 4] from rfl) (Reps.one (show Kd.M (Kd.int .i64) _ _ _ 1 [.int .i64 1] from rfl) (Reps.one (show Kd.M (Kd.int .i64) _ _ _ 5 [.int .i64 5] from rfl) (Reps.one (show Kd.M (Kd.int .i64) _ _ _ 8 [.int .i64 8] from rfl) (Reps.none _ _)))))))); intro vz1 w13 ho14 hb hg_ hnew_; clear hg_ hnew_; (rw [← Nyz1.out] at ho14); have HOz2 := mk (Kd.R_lower (Kd.R_new' ho14 (Kd.R_lt HOz1.out)) (keep_size (w := w) (g := g) (row := none) HK.out)); replace HOz1 := mk (Kd.R_elder' HOz1.out (Kd.R_base ho14) hb); replace HI0 := mk (IsS100.below HI0.out hb); replace BKz0 := mk (blk_below BKz0.out hb); replace HK := mk (KeepBut.trans HK.out (KeepBut.of_below hb g none) (.inl rfl)); replace HB := mk (below_step HB.out hb); clear hb ho14; obtain ⟨Ao15, co15, eo15⟩ := Kd.R_slice HOz2.out; subst eo15) | ((with_reducible refine gate_callee (f := 73) rfl ?_); refine goesL_ (some 14) rfl rfl Try.func73 (by kernel_rfl) rfl #[.pointer (some ⟨g, 0, none⟩), .slice Ao15 yz1.length co15] rfl (by (try simp only [bitvec_to_nat]); rfl) ?_; (with_reducible refine (spec_reader_one.calls k g s0_0 tz10 _ _ yz1 tz11 tz5 w0 _ ?side1 ?side2 ?side3 ?side4 ?side5 A4.out).mono ?_); (case side1 => repeat (with_reducible exact HI0.out)); (case side2 => repeat (with_reducible exact HB.out)); (case side3 => repeat (exact (Kd.R_reads' HOz2.out).2.2)); (case side4 => exact (Kd.R_reads' HOz2.out).2.1); (case side5 => exact far_slice (IsS100.own_ne HI0.out HOz2.out (by decide))); rintro e w16 ⟨rfl, hi, hb, hk⟩; refine ⟨_, rfl, ?_⟩; replace BKz0 := mk (KeepBut.blk hk (g' := gbz1) (o := .cells #[.int .i64 0, .int .i64 0, .int .i64 0, .slice none 0 0] 28 (0, 0)) BKz0.out NBz0.out (by simp)); replace HOz1 := mk (Kd.R_mono (Kd.R_keep (IsS100.apart (show IsS100 w0 _ g s0_0 tz10 from by exact HI0.out) HOz1.out (by decide)) hk (fun _ h => h.2)) (fun _ h => h.1)); replace HOz2 := mk (Kd.R_mono (Kd.R_keep (IsS100.apart (show IsS100 w0 _ g s0_0 tz10 from by exact HI0.out) HOz2.out (by decide)) hk (fun _ h => h.2)) (fun _ h => h.1)); replace HK := mk (KeepBut.trans HK.out hk (.inl rfl)); replace HB := mk (hb); replace HI0 := mk (hi); (try clear hb); (try clear hk); (try clear hi)) | ((with_reducible refine gate_callee (f := 107) rfl ?_); refine goesL_ (some 16) rfl rfl Try.func107 (by kernel_rfl) rfl #[.int .i64 tz9, .int .i64 tz11, .int .i64 a1] rfl (by (try simp only [bitvec_to_nat]); rfl) ?_; (with_reducible refine (spec_newImage.calls tz9 tz11 a1 tz0 tz1 tz2 tz4 _ A5.out).mono ?_); rintro e w17 ⟨vz2, rfl, ho0, hb⟩; refine ⟨_, rfl, ?_⟩; have HOz3 := mk (Kd.R_lower (Kd.R_new' (Kd.R_new' ho0 (Kd.R_lt HOz1.out)) (Kd.R_lt HOz2.out)) (keep_size (w := w) (g := g) (row := none) HK.out)); replace HOz1 := mk (Kd.R_elder' HOz1.out (Kd.R_base ho0) hb); replace HOz2 := mk (Kd.R_elder' HOz2.out (Kd.R_base ho0) hb); replace HI0 := mk (IsS100.below HI0.out hb); replace BKz0 := mk (blk_below BKz0.out hb); replace HK := mk (KeepBut.trans HK.out (KeepBut.of_below hb g none) (.inl rfl)); replace HB := mk (below_step HB.out hb); (try clear hb); (try clear ho0)) | ((with_reducible refine gate_dst (N := 5) rfl ?_); refine box_event (by rfl) (N := 5) (by rfl) (cs := #[.int .i64 0, .int .i64 0, .int .i64 0, .slice none 0 0]) (t := 28) (by go_simp; done) ?_; intro gbz0 hg w18 hbox hb; replace HOz1 := mk (Kd.R_below HOz1.out hb); replace HOz2 := mk (Kd.R_below HOz2.out hb); replace HOz3 := mk (Kd.R_below HOz3.out hb); replace HB := mk (below_step HB.out hb); have BKz1 := mk (hbox); have GWz1 := mk ((by rw [hg]; exact (keep_size (w := w) (g := g) (row := none) HK.out) : w.heap.size ≤ gbz0)); have GEz1 := mk ((Nat.le_trans HW0.out (by rw [hg]; exact (keep_size (w := w) (g := g) (row := none) HK.out) : w.heap.size ≤ gbz0) : w0.heap.size ≤ gbz0)); replace HK := mk (KeepBut.trans HK.out (KeepBut.of_below hb g none) (.inl rfl)); have NBz1 := mk ((by rw [hg]; exact Nat.ne_of_lt (blk_lt BKz0.out) : gbz1 ≠ gbz0)); replace BKz0 := mk (blk_below BKz0.out hb); have NBz3 := mk ((by rw [hg]; exact Nat.ne_of_lt (IsS100.lt (show IsS100 w0 _ g s0_0 tz5 from by exact HI0.out)) : g ≠ gbz0)); have NBz2 := mk ((by rw [hg]; exact Nat.ne_of_gt (IsS100.lt (show IsS100 w0 _ g s0_0 tz5 from by exact HI0.out)) : gbz0 ≠ g)); replace HI0 := mk (IsS100.below HI0.out hb); clear hb hbox hg; obtain ⟨hcz21_0, hcz21_1, hcz21_2, hcz21_3, hfz21_0, hfz21_1, hfz21_2, hfz21_3⟩ := c4 BKz1.out; obtain ⟨Ao22, co22, eo22⟩ := Kd.R_slice HOz3.out; subst eo22) | ((with_reducible refine gate_callee (f := 82) rfl ?_); refine goesL_ (some 18) rfl rfl Try.func82 (by kernel_rfl) rfl #[.pointer (some ⟨g, 0, none⟩), .int .i64 4] rfl (by (try simp only [bitvec_to_nat]); rfl) ?_; (with_reducible refine (spec_reader_pick.calls k g s0_0 tz5 4 tz3 tz12 w0 _ ?side1 ?side2 A6.out).mono ?_); (case side1 => repeat (with_reducible first | exact HI0.out | refine IsS100.far ?_ NBz3.out _)); (case side2 => repeat (with_reducible first | exact HB.out | refine below_set ?_ GEz1.out)); rintro e w23 ⟨rfl, hi, hb, hk⟩; refine ⟨_, rfl, ?_⟩; replace BKz0 := mk (KeepBut.blk hk (g' := gbz1) (o := .cells #[.int .i64 0, .int .i64 0, .int .i64 0, .slice none 0 0] 28 (0, 0)) (by refine f4 ?_ NBz1.out; exact BKz0.out) NBz0.out (by simp)); replace HOz1 := mk (Kd.R_mono (Kd.R_keep (IsS100.apart (show IsS100 w0 _ g s0_0 tz5 from by repeat (with_reducible first | exact HI0.out | refine IsS100.far ?_ NBz3.out _)) (by exact (Kd.R_mono (R4 (Kd.R_types HOz1.out BKz1.out (by decide)) (.int .i64 tz0) (.int .i64 tz1) (.int .i64 tz2) (.slice Ao22 tz4.length co22)) (fun _ h_ => h_.1))) (by decide)) hk (fun _ h => h.2)) (fun _ h => h.1)); replace HOz2 := mk (Kd.R_mono (Kd.R_keep (IsS100.apart (show IsS100 w0 _ g s0_0 tz5 from by repeat (with_reducible first | exact HI0.out | refine IsS100.far ?_ NBz3.out _)) (by exact (Kd.R_mono (R4 (Kd.R_types HOz2.out BKz1.out (by decide)) (.int .i64 tz0) (.int .i64 tz1) (.int .i64 tz2) (.slice Ao22 tz4.length co22)) (fun _ h_ => h_.1))) (by decide)) hk (fun _ h => h.2)) (fun _ h => h.1)); replace HOz3 := mk (Kd.R_mono (Kd.R_keep (IsS100.apart (show IsS100 w0 _ g s0_0 tz5 from by repeat (with_reducible first | exact HI0.out | refine IsS100.far ?_ NBz3.out _)) (by exact (Kd.R_mono (R4 (Kd.R_types HOz3.out BKz1.out (by decide)) (.int .i64 tz0) (.int .i64 tz1) (.int .i64 tz2) (.slice Ao22 tz4.length co22)) (fun _ h_ => h_.1))) (by decide)) hk (fun _ h => h.2)) (fun _ h => h.1)); replace BKz1 := mk (KeepBut.blk hk (g' := gbz0) (o := .cells #[.int .i64 tz0, .int .i64 tz1, .int .i64 tz2, .slice Ao22 tz4.length co22] 28 (0, 0)) (by refine p4 (.int .i64 0) (.int .i64 0) (.int .i64 0) (.slice none 0 0) ?_; exact BKz1.out) NBz2.out (by simp)); replace HK := mk (KeepBut.trans (by repeat (with_reducible first | exact HK.out | refine keep_far ?_ GWz1.out _)) hk (.inl rfl)); replace HB := mk (hb); replace HI0 := mk (hi); (try clear hb); (try clear hk); (try clear hi)) | ((with_reducible refine gate_callee (f := 82) rfl ?_); refine goesL_ (some 20) rfl rfl Try.func82 (by kernel_rfl) rfl #[.pointer (some ⟨g, 0, none⟩), .int .i64 256] rfl (by (try simp only [bitvec_to_nat]); rfl) ?_; (with_reducible refine (spec_reader_pick.calls k g s0_0 tz12 256 tz16 tz17 w0 _ ?side1 ?side2 A7.out).mono ?_); (case side1 => repeat (with_reducible exact HI0.out)); (case side2 => repeat (with_reducible exact HB.out)); rintro e w24 ⟨rfl, hi, hb, hk⟩; refine ⟨_, rfl, ?_⟩; have n0_ := mk (KeepBut.blk hk (g' := gbz1) (o := .cells #[.int .i64 0, .int .i64 0, .int .i64 0, .slice none 0 0] 28 (0, 0)) BKz0.out NBz0.out (by simp)); have n3_ := mk (Kd.R_mono (Kd.R_keep (IsS100.apart (show IsS100 w0 _ g s0_0 tz12 from by exact HI0.out) HOz3.out (by decide)) hk (fun _ h => h.2)) (fun _ h => h.1)); have n4_ := mk (KeepBut.blk hk (g' := gbz0) (o := .cells #[.int .i64 tz0, .int .i64 tz1, .int .i64 tz2, .slice Ao22 tz4.length co22] 28 (0, 0)) BKz1.out NBz2.out (by simp)); have n5_ := mk (KeepBut.trans HK.out hk (.inl rfl)); have n6_ := mk (hb); have n7_ := mk (hi); clear BKz0; clear HOz1; clear HOz2; clear HOz3; clear BKz1; clear HK; clear HB; clear HI0; have BKz0 := n0_; have HOz3 := n3_; have BKz1 := n4_; have HK := n5_; have HB := n6_; have HI0 := n7_; (try clear hb); (try clear hk); (try clear hi)))
 go_loopg [7, 8] k (fun kq v7 v8 w' => ∃ (x7_1 : Int) (x8_1 : Int) (x1001_1 : Int) (xz0 : List Int) (u101019003 : Value), v7 = .int .i64 x7_1 ∧ v8 = .int .i64 x8_1 ∧ Aside0 (spec_randomImage.l0 kq tz3 x7_1 x8_1 s0_0 x1001_1 tz0 tz1 tz2 xz0 = some (r1, r2, r3, r4, r5)) ∧ Aside0 (kq ≤ k) ∧ Aside0 (Kd.R (Kd.int .i64) 3 w' w.heap.size (fun _ => True) u101019003 xz0) ∧ Aside0 (w'.heap[gbz1]? = some (.cells #[.int .i64 0, .int .i64 0, .int .i64 0, (.slice none 0 0)] 28 (0, 0))) ∧ Aside0 (w'.heap[gbz0]? = some (.cells #[.int .i64 tz0, .int .i64 tz1, .int .i64 tz2, u101019003] 28 (0, 0))) ∧ Aside0 (IsS100 w0 w' g s0_0 x1001_1) ∧ Aside0 (KeepBut w w' g none) ∧ Aside0 (Below w0.heap.size w0 w'))
 case atStart => exact ⟨(tz16), (0), (tz17), (tz4), (.slice Ao22 tz4.length co22), (by rfl), (by rfl), H', ⟨Nat.le_refl _⟩, ⟨by exact Kd.R_mono HOz3.out (fun _ hk => trivial)⟩, BKz0, BKz1, HI0, HK, HB⟩
 case round =>
  clear H'
  obtain ⟨x7_1, x8_1, x1001_1, xz0, u101019003, rfl, rfl, HA, HK1, HOz0, BKz0, BKz1, HI0, HK, HB⟩ := hrel
  cases gk with
  | zero => exact absurd HA.out (by simp [spec_randomImage.l0])
  | succ k1 =>
   have H := HA.out
   clear HA
   simp only [spec_randomImage.l0] at H
   by_cases c25 : x8_1 < (xz0.length : Int)
   ·rw [if_pos c25] at H
    have c25b0 : decide (x8_1 < (xz0.length : Int)) = true := decide_eq_true c25
    clear c25
    by_cases c26 : tz3 = 0
    ·rw [if_pos c26] at H
     have c26b0 : (tz3 == 0) = true := beq_iff_eq.mpr c26
     clear c26
     replace H := Option.bind_eq_some_iff.mp H
     obtain ⟨⟨tz6, tz13⟩, A270, H⟩ := H
     replace H : (if 0 ≤ x8_1 then (spec_randomImage.l0 k1 tz3 tz6 (wrap64 (x8_1 + 1)) s0_0 tz13 tz0 tz1 tz2 (xz0.set (x8_1 : Int).toNat tz6)) else none) = some (r1, r2, r3, r4, r5) := H
     have A27 := mk A270
     clear A270
     by_cases c28 : 0 ≤ x8_1
     ·rw [if_pos c28] at H
      have c28b0 : decide (0 ≤ x8_1) = true := decide_eq_true c28
      clear c28
      obtain ⟨yz2, hyz2⟩ : ∃ y_ : List Int, y_ = (xz0.set (x8_1 : Int).toNat tz6) := ⟨_, rfl⟩
      replace H : (spec_randomImage.l0 k1 tz3 tz6 (wrap64 (x8_1 + 1)) s0_0 tz13 tz0 tz1 tz2 yz2) = some (r1, r2, r3, r4, r5) := by (rw [hyz2]; with_reducible exact H)
      have Nyz2 := mk hyz2
      clear hyz2
      have H' := mk H
      clear H
      have hcz32_3 : wr.cell? ⟨gbz0, 3, none⟩ = some u101019003 := (blk_cell BKz1.out 3).trans rfl
      obtain ⟨Ao33, co33, eo33⟩ := Kd.R_slice HOz0.out
      subst eo33
      go_wp2_with (first | ((with_reducible refine gate_callee (f := 82) rfl ?_); refine goesL_ (some 32) rfl rfl Try.func82 (by kernel_rfl) rfl #[.pointer (some ⟨g, 0, none⟩), .int .i64 256] rfl (by (try simp only [bitvec_to_nat]); rfl) ?_; (with_reducible refine (spec_reader_pick.calls k1 g s0_0 x1001_1 256 tz6 tz13 w0 _ ?side1 ?side2 A27.out).mono ?_); (case side1 => repeat (with_reducible exact HI0.out)); (case side2 => repeat (with_reducible exact HB.out)); rintro e w34 ⟨rfl, hi, hb, hk⟩; refine ⟨_, rfl, ?_⟩; replace HOz0 := mk (Kd.R_mono (Kd.R_keep (IsS100.apart (show IsS100 w0 _ g s0_0 x1001_1 from by exact HI0.out) HOz0.out (by decide)) hk (fun _ h => h.2)) (fun _ h => h.1)); replace BKz0 := mk (KeepBut.blk hk (g' := gbz1) (o := .cells #[.int .i64 0, .int .i64 0, .int .i64 0, .slice none 0 0] 28 (0, 0)) BKz0.out NBz0.out (by simp)); replace BKz1 := mk (KeepBut.blk hk (g' := gbz0) (o := .cells #[.int .i64 tz0, .int .i64 tz1, .int .i64 tz2, .slice Ao33 xz0.length co33] 28 (0, 0)) BKz1.out NBz2.out (by simp)); replace HK := mk (KeepBut.trans HK.out hk (.inl rfl)); replace HB := mk (hb); replace HI0 := mk (hi); (try clear hb); (try clear hk); (try clear hi); have hcz35_3 : w34.cell? ⟨gbz0, 3, none⟩ = some (.slice Ao33 xz0.length co33) := (blk_cell BKz1.out 3).trans rfl; have p29 : 0 ≤ (x8_1 : Int) := of_decide_eq_true (by (with_reducible assumption)); have q29 : (x8_1 : Int) < ((xz0.length : Int) : Int) := of_decide_eq_true (by (with_reducible assumption)); obtain ⟨go29, co29, eo29, gb29, gl29, cl29, HG29⟩ := Kd.R_form HOz0.out (by omega); (cases eo29); have GB29 := mk gb29; clear gb29 gl29 HG29; obtain ⟨hx29_0, hf29_0⟩ := Kd.R_celln 0 HOz0.out (x8_1 : Int) p29 q29; replace p29 := eq_true p29; replace q29 := eq_true q29; obtain ⟨hy36_, hz36_⟩ := Kd.R_celln 0 HOz0.out (x8_1 : Int) (of_decide_eq_true (by (with_reducible assumption))) (of_decide_eq_true (by (with_reducible assumption))); have HP36 := Kd.R_putg HOz0.out (x8_1 : Int) tz6) | ((with_reducible refine gate_store (t := 3) (p := 50) rfl ?_); refine store_event (t := 3) (p := 50) (v := ?vo_w37) (w1 := (w34.setCell ⟨go29, (x8_1 : Int).toNat, none⟩ (.int .i64 tz6))) ?hg ?ho ?hn ?hr ?_; (case ho => rfl); (case hg => rfl); (case hn => rfl); (case hr => (go_simp; done)); intro w37 hw; have hg : w34.grownBy w37 (some go29) := (by rw [hw]; exact HP36.2); have hp_ : Kd.R (Kd.int .i64) 3 w37 w.heap.size (fun _ => True) (.slice (some ⟨go29, 0, none⟩) xz0.length co33) yz2 := (by rw [hw, Nyz2.out]; exact HP36.1); clear HP36; replace BKz0 := mk (blk_grown (g := gbz1) (o := .cells #[.int .i64 0, .int .i64 0, .int .i64 0, .slice none 0 0] 28 (0, 0)) BKz0.out hg (Kd.R_ne HOz0.out BKz0.out (by decide))); replace BKz1 := mk (blk_grown (g := gbz0) (o := .cells #[.int .i64 tz0, .int .i64 tz1, .int .i64 tz2, .slice (some ⟨go29, 0, none⟩) xz0.length co33] 28 (0, 0)) BKz1.out hg (Kd.R_ne HOz0.out BKz1.out (by decide))); replace HI0 := mk (IsS100.grown HI0.out hg (IsS100.own_ne HI0.out HOz0.out (by decide))); replace HB := mk ((by rw [hw]; exact below_set HB.out (Nat.le_trans HL.out GB29.out) : Below w0.heap.size w0 w37)); replace HK := mk (KeepBut.trans HK.out (KeepBut.of_grown hg g) (Kd.R_base2 HOz0.out)); replace HOz0 := mk (hp_); clear hg hw hp_))
      go_roundg k1
      case measure => have := HK1.out; omega
      case rel => exact ⟨(tz6), (wrap64 (x8_1 + 1)), (tz13), (yz2), (.slice (some ⟨go29, 0, none⟩) xz0.length co33), (by rfl), (by rfl), H', ⟨by have := HK1.out; omega⟩, HOz0, BKz0, BKz1, HI0, HK, HB⟩
     rw [if_neg c28] at H
     exact absurd H (by simp)
    rw [if_neg c26] at H
    have c26b0 : (tz3 == 0) = false := beq_eq_false_iff_ne.mpr c26
    have c26b1 : (tz3 != 0) = true := bne_iff_ne.mpr c26
    by_cases c38 : tz3 = 1
    ·rw [if_pos c38] at H
     have c38b0 : (tz3 == 1) = true := beq_iff_eq.mpr c38
     clear c38
     replace H := Option.bind_eq_some_iff.mp H
     obtain ⟨⟨tz7, tz14⟩, A390, H⟩ := H
     replace H : (if 0 ≤ x8_1 then (spec_randomImage.l0 k1 tz3 (Int.tmod (wrap64 ((wrap64 (x7_1 + tz7)) + 254)) 256) (wrap64 (x8_1 + 1)) s0_0 tz14 tz0 tz1 tz2 (xz0.set (x8_1 : Int).toNat (Int.tmod (wrap64 ((wrap64 (x7_1 + tz7)) + 254)) 256))) else none) = some (r1, r2, r3, r4, r5) := H
     have A39 := mk A390
     clear A390
     by_cases c40 : 0 ≤ x8_1
     ·rw [if_pos c40] at H
      have c40b0 : decide (0 ≤ x8_1) = true := decide_eq_true c40
      clear c40
      obtain ⟨yz3, hyz3⟩ : ∃ y_ : List Int, y_ = (xz0.set (x8_1 : Int).toNat (Int.tmod (wrap64 ((wrap64 (x7_1 + tz7)) + 254)) 256)) := ⟨_, rfl⟩
      replace H : (spec_randomImage.l0 k1 tz3 (Int.tmod (wrap64 ((wrap64 (x7_1 + tz7)) + 254)) 256) (wrap64 (x8_1 + 1)) s0_0 tz14 tz0 tz1 tz2 yz3) = some (r1, r2, r3, r4, r5) := by (rw [hyz3]; with_reducible exact H)
      have Nyz3 := mk hyz3
      clear hyz3
      have H' := mk H
      clear H
      have hcz44_3 : wr.cell? ⟨gbz0, 3, none⟩ = some u101019003 := (blk_cell BKz1.out 3).trans rfl
      obtain ⟨Ao45, co45, eo45⟩ := Kd.R_slice HOz0.out
      subst eo45
      go_wp2_with (first | ((with_reducible refine gate_callee (f := 82) rfl ?_); refine goesL_ (some 37) rfl rfl Try.func82 (by kernel_rfl) rfl #[.pointer (some ⟨g, 0, none⟩), .int .i64 5] rfl (by (try simp only [bitvec_to_nat]); rfl) ?_; (with_reducible refine (spec_reader_pick.calls k1 g s0_0 x1001_1 5 tz7 tz14 w0 _ ?side1 ?side2 A39.out).mono ?_); (case side1 => repeat (with_reducible exact HI0.out)); (case side2 => repeat (with_reducible exact HB.out)); rintro e w46 ⟨rfl, hi, hb, hk⟩; refine ⟨_, rfl, ?_⟩; replace HOz0 := mk (Kd.R_mono (Kd.R_keep (IsS100.apart (show IsS100 w0 _ g s0_0 x1001_1 from by exact HI0.out) HOz0.out (by decide)) hk (fun _ h => h.2)) (fun _ h => h.1)); replace BKz0 := mk (KeepBut.blk hk (g' := gbz1) (o := .cells #[.int .i64 0, .int .i64 0, .int .i64 0, .slice none 0 0] 28 (0, 0)) BKz0.out NBz0.out (by simp)); replace BKz1 := mk (KeepBut.blk hk (g' := gbz0) (o := .cells #[.int .i64 tz0, .int .i64 tz1, .int .i64 tz2, .slice Ao45 xz0.length co45] 28 (0, 0)) BKz1.out NBz2.out (by simp)); replace HK := mk (KeepBut.trans HK.out hk (.inl rfl)); replace HB := mk (hb); replace HI0 := mk (hi); (try clear hb); (try clear hk); (try clear hi); have hcz47_3 : w46.cell? ⟨gbz0, 3, none⟩ = some (.slice Ao45 xz0.length co45) := (blk_cell BKz1.out 3).trans rfl; have p41 : 0 ≤ (x8_1 : Int) := of_decide_eq_true (by (with_reducible assumption)); have q41 : (x8_1 : Int) < ((xz0.length : Int) : Int) := of_decide_eq_true (by (with_reducible assumption)); obtain ⟨go41, co41, eo41, gb41, gl41, cl41, HG41⟩ := Kd.R_form HOz0.out (by omega); (cases eo41); have GB41 := mk gb41; clear gb41 gl41 HG41; obtain ⟨hx41_0, hf41_0⟩ := Kd.R_celln 0 HOz0.out (x8_1 : Int) p41 q41; replace p41 := eq_true p41; replace q41 := eq_true q41; obtain ⟨hy48_, hz48_⟩ := Kd.R_celln 0 HOz0.out (x8_1 : Int) (of_decide_eq_true (by (with_reducible assumption))) (of_decide_eq_true (by (with_reducible assumption))); have HP48 := Kd.R_putg HOz0.out (x8_1 : Int) (Int.tmod (wrap64 ((wrap64 (x7_1 + tz7)) + 254)) 256)) | ((with_reducible refine gate_store (t := 3) (p := 50) rfl ?_); refine store_event (t := 3) (p := 50) (v := ?vo_w49) (w1 := (w46.setCell ⟨go41, (x8_1 : Int).toNat, none⟩ (.int .i64 (Int.tmod (wrap64 ((wrap64 (x7_1 + tz7)) + 254)) 256)))) ?hg ?ho ?hn ?hr ?_; (case ho => rfl); (case hg => rfl); (case hn => rfl); (case hr => (go_simp; done)); intro w49 hw; have hg : w46.grownBy w49 (some go41) := (by rw [hw]; exact HP48.2); have hp_ : Kd.R (Kd.int .i64) 3 w49 w.heap.size (fun _ => True) (.slice (some ⟨go41, 0, none⟩) xz0.length co45) yz3 := (by rw [hw, Nyz3.out]; exact HP48.1); clear HP48; replace BKz0 := mk (blk_grown (g := gbz1) (o := .cells #[.int .i64 0, .int .i64 0, .int .i64 0, .slice none 0 0] 28 (0, 0)) BKz0.out hg (Kd.R_ne HOz0.out BKz0.out (by decide))); replace BKz1 := mk (blk_grown (g := gbz0) (o := .cells #[.int .i64 tz0, .int .i64 tz1, .int .i64 tz2, .slice (some ⟨go41, 0, none⟩) xz0.length co45] 28 (0, 0)) BKz1.out hg (Kd.R_ne HOz0.out BKz1.out (by decide))); replace HI0 := mk (IsS100.grown HI0.out hg (IsS100.own_ne HI0.out HOz0.out (by decide))); replace HB := mk ((by rw [hw]; exact below_set HB.out (Nat.le_trans HL.out GB41.out) : Below w0.heap.size w0 w49)); replace HK := mk (KeepBut.trans HK.out (KeepBut.of_grown hg g) (Kd.R_base2 HOz0.out)); replace HOz0 := mk (hp_); clear hg hw hp_))
      go_roundg k1
      case measure => have := HK1.out; omega
      case rel => exact ⟨(Int.tmod (wrap64 ((wrap64 (x7_1 + tz7)) + 254)) 256), (wrap64 (x8_1 + 1)), (tz14), (yz3), (.slice (some ⟨go41, 0, none⟩) xz0.length co45), (by rfl), (by rfl), H', ⟨by have := HK1.out; omega⟩, HOz0, BKz0, BKz1, HI0, HK, HB⟩
     rw [if_neg c40] at H
     exact absurd H (by simp)
    rw [if_neg c38] at H
    have c38b0 : (tz3 == 1) = false := beq_eq_false_iff_ne.mpr c38
    have c38b1 : (tz3 != 1) = true := bne_iff_ne.mpr c38
    by_cases c50 : tz3 = 2
    ·rw [if_pos c50] at H
     have c50b0 : (tz3 == 2) = true := beq_iff_eq.mpr c50
     clear c50
     replace H := Option.bind_eq_some_iff.mp H
     obtain ⟨⟨tz8, tz15⟩, A510, H⟩ := H
     replace H : (if 0 ≤ x8_1 then (spec_randomImage.l0 k1 tz3 (wrap64 (60 * tz8)) (wrap64 (x8_1 + 1)) s0_0 tz15 tz0 tz1 tz2 (xz0.set (x8_1 : Int).toNat (wrap64 (60 * tz8)))) else none) = some (r1, r2, r3, r4, r5) := H
     have A51 := mk A510
     clear A510
     by_cases c52 : 0 ≤ x8_1
     ·rw [if_pos c52] at H
      have c52b0 : decide (0 ≤ x8_1) = true := decide_eq_true c52
      clear c52
      obtain ⟨yz4, hyz4⟩ : ∃ y_ : List Int, y_ = (xz0.set (x8_1 : Int).toNat (wrap64 (60 * tz8))) := ⟨_, rfl⟩
      replace H : (spec_randomImage.l0 k1 tz3 (wrap64 (60 * tz8)) (wrap64 (x8_1 + 1)) s0_0 tz15 tz0 tz1 tz2 yz4) = some (r1, r2, r3, r4, r5) := by (rw [hyz4]; with_reducible exact H)
      have Nyz4 := mk hyz4
      clear hyz4
      have H' := mk H
      clear H
      have hcz56_3 : wr.cell? ⟨gbz0, 3, none⟩ = some u101019003 := (blk_cell BKz1.out 3).trans rfl
      obtain ⟨Ao57, co57, eo57⟩ := Kd.R_slice HOz0.out
      subst eo57
      go_wp2_with (first | ((with_reducible refine gate_callee (f := 82) rfl ?_); refine goesL_ (some 44) rfl rfl Try.func82 (by kernel_rfl) rfl #[.pointer (some ⟨g, 0, none⟩), .int .i64 4] rfl (by (try simp only [bitvec_to_nat]); rfl) ?_; (with_reducible refine (spec_reader_pick.calls k1 g s0_0 x1001_1 4 tz8 tz15 w0 _ ?side1 ?side2 A51.out).mono ?_); (case side1 => repeat (with_reducible exact HI0.out)); (case side2 => repeat (with_reducible exact HB.out)); rintro e w58 ⟨rfl, hi, hb, hk⟩; refine ⟨_, rfl, ?_⟩; replace HOz0 := mk (Kd.R_mono (Kd.R_keep (IsS100.apart (show IsS100 w0 _ g s0_0 x1001_1 from by exact HI0.out) HOz0.out (by decide)) hk (fun _ h => h.2)) (fun _ h => h.1)); replace BKz0 := mk (KeepBut.blk hk (g' := gbz1) (o := .cells #[.int .i64 0, .int .i64 0, .int .i64 0, .slice none 0 0] 28 (0, 0)) BKz0.out NBz0.out (by simp)); replace BKz1 := mk (KeepBut.blk hk (g' := gbz0) (o := .cells #[.int .i64 tz0, .int .i64 tz1, .int .i64 tz2, .slice Ao57 xz0.length co57] 28 (0, 0)) BKz1.out NBz2.out (by simp)); replace HK := mk (KeepBut.trans HK.out hk (.inl rfl)); replace HB := mk (hb); replace HI0 := mk (hi); (try clear hb); (try clear hk); (try clear hi); have hcz59_3 : w58.cell? ⟨gbz0, 3, none⟩ = some (.slice Ao57 xz0.length co57) := (blk_cell BKz1.out 3).trans rfl; have p53 : 0 ≤ (x8_1 : Int) := of_decide_eq_true (by (with_reducible assumption)); have q53 : (x8_1 : Int) < ((xz0.length : Int) : Int) := of_decide_eq_true (by (with_reducible assumption)); obtain ⟨go53, co53, eo53, gb53, gl53, cl53, HG53⟩ := Kd.R_form HOz0.out (by omega); (cases eo53); have GB53 := mk gb53; clear gb53 gl53 HG53; obtain ⟨hx53_0, hf53_0⟩ := Kd.R_celln 0 HOz0.out (x8_1 : Int) p53 q53; replace p53 := eq_true p53; replace q53 := eq_true q53; obtain ⟨hy60_, hz60_⟩ := Kd.R_celln 0 HOz0.out (x8_1 : Int) (of_decide_eq_true (by (with_reducible assumption))) (of_decide_eq_true (by (with_reducible assumption))); have HP60 := Kd.R_putg HOz0.out (x8_1 : Int) (wrap64 (60 * tz8))) | ((with_reducible refine gate_store (t := 3) (p := 50) rfl ?_); refine store_event (t := 3) (p := 50) (v := ?vo_w61) (w1 := (w58.setCell ⟨go53, (x8_1 : Int).toNat, none⟩ (.int .i64 (wrap64 (60 * tz8))))) ?hg ?ho ?hn ?hr ?_; (case ho => rfl); (case hg => rfl); (case hn => rfl); (case hr => (go_simp; done)); intro w61 hw; have hg : w58.grownBy w61 (some go53) := (by rw [hw]; exact HP60.2); have hp_ : Kd.R (Kd.int .i64) 3 w61 w.heap.size (fun _ => True) (.slice (some ⟨go53, 0, none⟩) xz0.length co57) yz4 := (by rw [hw, Nyz4.out]; exact HP60.1); clear HP60; replace BKz0 := mk (blk_grown (g := gbz1) (o := .cells #[.int .i64 0, .int .i64 0, .int .i64 0, .slice none 0 0] 28 (0, 0)) BKz0.out hg (Kd.R_ne HOz0.out BKz0.out (by decide))); replace BKz1 := mk (blk_grown (g := gbz0) (o := .cells #[.int .i64 tz0, .int .i64 tz1, .int .i64 tz2, .slice (some ⟨go53, 0, none⟩) xz0.length co57] 28 (0, 0)) BKz1.out hg (Kd.R_ne HOz0.out BKz1.out (by decide))); replace HI0 := mk (IsS100.grown HI0.out hg (IsS100.own_ne HI0.out HOz0.out (by decide))); replace HB := mk ((by rw [hw]; exact below_set HB.out (Nat.le_trans HL.out GB53.out) : Below w0.heap.size w0 w61)); replace HK := mk (KeepBut.trans HK.out (KeepBut.of_grown hg g) (Kd.R_base2 HOz0.out)); replace HOz0 := mk (hp_); clear hg hw hp_))
      go_roundg k1
      case measure => have := HK1.out; omega
      case rel => exact ⟨(wrap64 (60 * tz8)), (wrap64 (x8_1 + 1)), (tz15), (yz4), (.slice (some ⟨go53, 0, none⟩) xz0.length co57), (by rfl), (by rfl), H', ⟨by have := HK1.out; omega⟩, HOz0, BKz0, BKz1, HI0, HK, HB⟩
     rw [if_neg c52] at H
     exact absurd H (by simp)
    rw [if_neg c50] at H
    have c50b0 : (tz3 == 2) = false := beq_eq_false_iff_ne.mpr c50
    have c50b1 : (tz3 != 2) = true := bne_iff_ne.mpr c50
    by_cases c62 : 0 ≤ x8_1
    ·rw [if_pos c62] at H
     have c62b0 : decide (0 ≤ x8_1) = true := decide_eq_true c62
     clear c62
     obtain ⟨yz5, hyz5⟩ : ∃ y_ : List Int, y_ = (xz0.set (x8_1 : Int).toNat x7_1) := ⟨_, rfl⟩
     replace H : (spec_randomImage.l0 k1 tz3 x7_1 (wrap64 (x8_1 + 1)) s0_0 x1001_1 tz0 tz1 tz2 yz5) = some (r1, r2, r3, r4, r5) := by (rw [hyz5]; with_reducible exact H)
     have Nyz5 := mk hyz5
     clear hyz5
     have H' := mk H
     clear H
     have hcz66_3 : wr.cell? ⟨gbz0, 3, none⟩ = some u101019003 := (blk_cell BKz1.out 3).trans rfl
     obtain ⟨Ao67, co67, eo67⟩ := Kd.R_slice HOz0.out
     subst eo67
     have p63 : 0 ≤ (x8_1 : Int) := of_decide_eq_true (by (with_reducible assumption))
     have q63 : (x8_1 : Int) < ((xz0.length : Int) : Int) := of_decide_eq_true (by (with_reducible assumption))
     obtain ⟨go63, co63, eo63, gb63, gl63, cl63, HG63⟩ := Kd.R_form HOz0.out (by omega)
     (cases eo63)
     have GB63 := mk gb63
     clear gb63 gl63 HG63
     obtain ⟨hx63_0, hf63_0⟩ := Kd.R_celln 0 HOz0.out (x8_1 : Int) p63 q63
     replace p63 := eq_true p63
     replace q63 := eq_true q63
     have HP68 := Kd.R_putg HOz0.out (x8_1 : Int) x7_1
     go_wp2_with (first | ((with_reducible refine gate_store (t := 3) (p := 50) rfl ?_); refine store_event (t := 3) (p := 50) (v := ?vo_w69) (w1 := (wr.setCell ⟨go63, (x8_1 : Int).toNat, none⟩ (.int .i64 x7_1))) ?hg ?ho ?hn ?hr ?_; (case ho => rfl); (case hg => rfl); (case hn => rfl); (case hr => (go_simp; done)); intro w69 hw; have hg : wr.grownBy w69 (some go63) := (by rw [hw]; exact HP68.2); have hp_ : Kd.R (Kd.int .i64) 3 w69 w.heap.size (fun _ => True) (.slice (some ⟨go63, 0, none⟩) xz0.length co67) yz5 := (by rw [hw, Nyz5.out]; exact HP68.1); clear HP68; replace BKz0 := mk (blk_grown (g := gbz1) (o := .cells #[.int .i64 0, .int .i64 0, .int .i64 0, .slice none 0 0] 28 (0, 0)) BKz0.out hg (Kd.R_ne HOz0.out BKz0.out (by decide))); replace BKz1 := mk (blk_grown (g := gbz0) (o := .cells #[.int .i64 tz0, .int .i64 tz1, .int .i64 tz2, .slice (some ⟨go63, 0, none⟩) xz0.length co67] 28 (0, 0)) BKz1.out hg (Kd.R_ne HOz0.out BKz1.out (by decide))); replace HI0 := mk (IsS100.grown HI0.out hg (IsS100.own_ne HI0.out HOz0.out (by decide))); replace HB := mk ((by rw [hw]; exact below_set HB.out (Nat.le_trans HL.out GB63.out) : Below w0.heap.size w0 w69)); replace HK := mk (KeepBut.trans HK.out (KeepBut.of_grown hg g) (Kd.R_base2 HOz0.out)); replace HOz0 := mk (hp_); clear hg hw hp_))
     go_roundg k1
     case measure => have := HK1.out; omega
     case rel => exact ⟨(x7_1), (wrap64 (x8_1 + 1)), (x1001_1), (yz5), (.slice (some ⟨go63, 0, none⟩) xz0.length co67), (by rfl), (by rfl), H', ⟨by have := HK1.out; omega⟩, HOz0, BKz0, BKz1, HI0, HK, HB⟩
    rw [if_neg c62] at H
    exact absurd H (by simp)
   rw [if_neg c25] at H
   have c25b0 : decide (x8_1 < (xz0.length : Int)) = false := decide_eq_false c25
   clear c25
   simp only [Option.some.injEq, Prod.mk.injEq] at H
   obtain ⟨rfl, rfl, rfl, rfl, rfl⟩ := H
   obtain ⟨hcz72_0, hcz72_1, hcz72_2, -⟩ := c4 BKz1.out
   have hcz72_3 : wr.cell? ⟨gbz0, 3, none⟩ = some u101019003 := (blk_cell BKz1.out 3).trans rfl
   obtain ⟨Ao73, co73, eo73⟩ := Kd.R_slice HOz0.out
   subst eo73
   obtain ⟨hcz75_0, hcz75_1, hcz75_2, hcz75_3, hfz75_0, hfz75_1, hfz75_2, hfz75_3⟩ := c4 BKz0.out
   go_wp2
   refine bodyPost_ret (results_cell_row rfl _ _ gbz1 28 #[.int .i64 tz0, .int .i64 tz1, .int .i64 tz2, .slice Ao73 xz0.length co73] (0, 0) _ rfl (by refine p4 (.int .i64 0) (.int .i64 0) (.int .i64 0) (.slice none 0 0) ?_; exact BKz0.out) Try.underlying28 rfl (by kernel_rfl)) rfl ?_
   exact ⟨_, by rfl, by exact Kd.R_mono (R4 (Kd.R_types HOz0.out BKz0.out (by decide)) (.int .i64 tz0) (.int .i64 tz1) (.int .i64 tz2) (.slice Ao73 xz0.length co73)) (fun _ hk => trivial), by repeat (with_reducible first | exact HI0.out | refine IsS100.far ?_ NBz4.out _), by repeat (with_reducible first | exact HB.out | refine below_set ?_ GEz0.out), by repeat (with_reducible first | exact HK.out | refine keep_far ?_ GWz0.out _)⟩


def spec_anyPlanes.f (k : Nat) (s0_0 : List Int) (s0_1 : Int) : Option (Int × Int) := (spec_reader_one.f k s0_0 s0_1 (([1, 3, 1, 4, 2] : List Int))).bind fun bt102004 => (some (bt102004.1, bt102004.2))
theorem spec_anyPlanes.calls (k : Nat) (g : Nat) (s0_0 : List Int) (s0_1 : Int) (r1 : Int) (r2 : Int) (w0 w : World) (hI : IsS100 w0 w g s0_0 s0_1) (hB : Below w0.heap.size w0 w) (h : spec_anyPlanes.f k s0_0 s0_1 = some (r1, r2)) :
  Calls Try.prog 101 #[.pointer (some ⟨g, 0, none⟩)] w fun e w' => e = .returned (.int .i64 r1) ∧ IsS100 w0 w' g s0_0 r2 ∧ Below w0.heap.size w0 w' ∧ KeepBut w w' g none := by
 have HI0 := mk hI
 have HK := mk (KeepBut.refl w g none)
 have HL := mk hB.size
 clear hI
 have HW0 := mk hB.size
 have HB := mk hB
 clear hB
 have H : ((spec_reader_one.f k s0_0 s0_1 (([1, 3, 1, 4, 2] : List Int))).bind fun bt102004 => (some (bt102004.1, bt102004.2))) = some (r1, r2) := h
 clear h
 obtain ⟨y102001, hy102001⟩ : ∃ y_ : List Int, y_ = (([1, 3, 1, 4, 2] : List Int)) := ⟨_, rfl⟩
 replace H : ((spec_reader_one.f k s0_0 s0_1 y102001).bind fun bt102004 => (some (bt102004.1, bt102004.2))) = some (r1, r2) := by first | (rw [hy102001]; with_reducible exact H) | (have H2_ := (Option.bind_some _ _).symm.trans H; rw [hy102001]; with_reducible exact H2_) | (have H2_ := (Option.bind_some _ _).symm.trans H; with_reducible exact H2_) | with_reducible exact H | (rw [hy102001]; exact H) | exact H
 have Ny102001 := mk hy102001
 clear hy102001
 replace H := Option.bind_eq_some_iff.mp H
 obtain ⟨⟨t102004, t102005⟩, A20, H⟩ := H
 replace H : (some (t102004, t102005)) = some (r1, r2) := H
 have A2 := mk A20
 clear A20
 simp only [Option.some.injEq, Prod.mk.injEq] at H
 obtain ⟨rfl, rfl⟩ := H
 go_enter Try.func101, Try.ntmps101
 go_wp2_with (first | ((with_reducible refine gate_dst (N := 4) rfl ?_); refine Kd.R_lit (Kd.int .i64) _ 3 ?hg (N := 4) ?hd (xs := ([1, 3, 1, 4, 2] : List Int)) (inner := [.int .i64 1, .int .i64 3, .int .i64 1, .int .i64 4, .int .i64 2]) (ok := fun _ => True) (okp := fun _ => True) ?hr ?hp (fun _ hk => hk) trivial (Below.refl _ _) (Nat.le_refl _) (by simp) ?_; (case hd => rfl); (case hg => rfl); (case hr => first | (go_simp; done) | (go_simp; rfl)); (case hp => exact (Reps.one (show Kd.M (Kd.int .i64) _ _ _ 1 [.int .i64 1] from rfl) (Reps.one (show Kd.M (Kd.int .i64) _ _ _ 3 [.int .i64 3] from rfl) (Reps.one (show Kd.M (Kd.int .i64) _ _ _ 1 [.int .i64 1] from rfl) (Reps.one (show Kd.M (Kd.int .i64) _ _ _ 4 [.int .i64 4] from rfl) (Reps.one (show Kd.M (Kd.int .i64) _ _ _ 2 [.int .i64 2] from rfl) (Reps.none _ _))))))); intro v102002 w3 ho4 hb hg_ hnew_; clear hg_ hnew_; (first | rw [← Ny102001.out] at ho4 | (simp only [Int.reduceToNat] at ho4; rw [← Ny102001.out] at ho4)); have n0_ := mk (Kd.R_lower ho4 (keep_size (w := w) (g := g) (row := none) (by repeat (first | (with_reducible first | exact HK.out | apply KeepBut.set_ | apply keep_drewN | apply keep_drew | apply keep_alloc) | exact HK.out)))); have n1_ := mk (IsS100.below (by repeat (first | (with_reducible first | exact HI0.out | apply IsS100.alloc | apply IsS100.drewN | apply IsS100.drew | apply IsS100.set_1) | exact HI0.out)) hb); have n2_ := mk (KeepBut.trans (by repeat (first | (with_reducible first | exact HK.out | apply KeepBut.set_ | apply keep_drewN | apply keep_drew | apply keep_alloc) | exact HK.out)) (KeepBut.of_below hb g none) (.inl rfl)); have n3_ := mk (below_step (by repeat (first | (with_reducible first | exact HB.out | apply below_alloc | apply pw_below_drewN | apply below_drew1 | refine below_set ?_ (IsS100.ge HI0.out)) | exact HB.out)) hb); clear HI0; clear HK; clear HB; have HO102003 := n0_; have HI0 := n1_; have HK := n2_; have HB := n3_; clear n0_ n1_ n2_ n3_; clear hb ho4; obtain ⟨Ao5, co5, eo5⟩ := Kd.R_slice HO102003.out; subst eo5) | ((with_reducible refine gate_callee (f := 73) rfl ?_); refine goesL_ (some 5) rfl rfl Try.func73 (by kernel_rfl) rfl #[.pointer (some ⟨g, 0, none⟩), .slice Ao5 y102001.length co5] rfl (by (try simp only [List.map_toArray, List.map_cons, List.map_nil]); first | done | rfl | (simp only [List.length_drop, List.length_take]; rfl)) ?_; (with_reducible refine (spec_reader_one.calls k g s0_0 s0_1 _ _ y102001 t102004 t102005 w0 _ ?side1 ?side2 ?side3 ?side4 ?side5 A2.out).mono ?_); (case side1 => repeat (first | (with_reducible first | exact HI0.out | apply IsS100.alloc | apply IsS100.drewN | apply IsS100.drew | apply IsS100.set_1) | exact HI0.out)); (case side2 => repeat (first | (with_reducible first | exact HB.out | apply below_alloc | apply pw_below_drewN | apply below_drew1 | refine below_set ?_ (IsS100.ge HI0.out)) | exact HB.out)); (case side3 => repeat (first | exact (Kd.R_reads' HO102003.out).2.2 | (with_reducible refine Kd.C_alloc ?_ _) | (with_reducible refine Kd.C_drewN ?_ _) | (with_reducible refine Kd.C_drew ?_))); (case side4 => exact (Kd.R_reads' HO102003.out).2.1); (case side5 => exact far_slice (IsS100.own_ne HI0.out HO102003.out (by decide))); rintro e w6 ⟨rfl, hi, hb, hk⟩; refine ⟨_, rfl, ?_⟩; have n0_ := mk (Kd.R_mono (Kd.R_keep (IsS100.apart (show IsS100 w0 _ g s0_0 s0_1 from by repeat (first | (with_reducible first | exact HI0.out | apply IsS100.alloc | apply IsS100.drewN | apply IsS100.drew | apply IsS100.set_1) | exact HI0.out)) (by (with_reducible repeat (first | apply Kd.R_alloc | apply Kd.R_drewN | apply Kd.R_drew)); exact HO102003.out) (by decide)) hk (fun _ h => h.2)) (fun _ h => h.1)); have n1_ := mk (KeepBut.trans (by repeat (first | (with_reducible first | exact HK.out | apply KeepBut.set_ | apply keep_drewN | apply keep_drew | apply keep_alloc) | exact HK.out)) hk (.inl rfl)); have n2_ := mk (hb); have n3_ := mk (hi); clear HO102003; clear HK; clear HB; clear HI0; have HO102003 := n0_; have HK := n1_; have HB := n2_; have HI0 := n3_; clear n0_ n1_ n2_ n3_; (try clear hb); (try clear hb2); (try clear hk); (try clear hi)))
 go_ret
 exact ⟨by first | rfl | (simp [errW_none, errW_some] <;> rfl) | (simp [*, errW_none, errW_some] <;> rfl), by repeat (first | (with_reducible first | exact HI0.out | apply IsS100.alloc | apply IsS100.drewN | apply IsS100.drew | apply IsS100.set_1) | exact HI0.out), by repeat (first | (with_reducible first | exact HB.out | apply below_alloc | apply pw_below_drewN | apply below_drew1 | refine below_set ?_ (IsS100.ge HI0.out)) | exact HB.out), by repeat (first | (with_reducible first | exact HK.out | apply KeepBut.set_ | apply keep_drewN | apply keep_drew | apply keep_alloc) | exact HK.out)⟩


/- A row that may begin inside its block, and whose block is younger than was told. -/

theorem qraise {α : Type} {d : Kd α} {e : Nat} {W : World} {b b' : Nat} {ok : Nat → Prop} {v : Value} {xs : List α} (hM : ∀ w ok x cs, d.M w b ok x cs → d.M w b' ok x cs) (h : d.Q e W b ok v xs) (hb : ∀ k, v.ownBlock = some k → b' ≤ k) : d.Q e W b' ok v xs := by
  obtain ⟨h0, inner, ho, hr⟩ := h
  refine ⟨h0, inner, ?_, hr.imp_ (fun _ _ hp => hM _ _ _ _ hp)⟩
  obtain ⟨h1, h2⟩ := ho
  refine ⟨h1, ?_⟩
  rcases h2 with ⟨hz, A, rfl, hA⟩ | ⟨g, off, cap, cur, rfl, _, r⟩
  · refine .inl ⟨hz, A, rfl, fun a ha => ⟨?_, (hA a ha).2⟩⟩
    subst ha
    exact hb a.block (by simp [Value.ownBlock])
  · exact .inr ⟨g, off, cap, cur, rfl, hb g (by simp [Value.ownBlock]), r⟩

def spec_anyImage.f (k : Nat) (s0_0 : List Int) (s0_1 : Int) : Option (Int × Int × Int × List Int × Int) := (spec_anyPlanes.f k s0_0 s0_1).bind fun bt73002 => ((spec_randomImage.f k s0_0 bt73002.2 bt73002.1).bind fun bt73004 => ((spec_spoilImage.f k s0_0 bt73004.2.2.2.2 bt73004.1 bt73004.2.1 bt73004.2.2.1 bt73004.2.2.2.1).bind fun bt73011 => (some (bt73011.1, bt73011.2.1, bt73011.2.2.1, bt73011.2.2.2.1, bt73011.2.2.2.2))))
theorem spec_anyImage.calls (k : Nat) (g : Nat) (s0_0 : List Int) (s0_1 : Int) (r1 : Int) (r2 : Int) (r3 : Int) (r4 : List Int) (r5 : Int) (w0 w : World) (hI : IsS100 w0 w g s0_0 s0_1) (hB : Below w0.heap.size w0 w) (h : spec_anyImage.f k s0_0 s0_1 = some (r1, r2, r3, r4, r5)) :
  Calls Try.prog 72 #[.pointer (some ⟨g, 0, none⟩)] w fun e w' => ∃ v3_ : Value, e = .returned (.agg #[.int .i64 r1, .int .i64 r2, .int .i64 r3, v3_]) ∧ Kd.Q (Kd.int .i64) 3 w' w.heap.size (fun _ => True) v3_ r4 ∧ IsS100 w0 w' g s0_0 r5 ∧ Below w0.heap.size w0 w' ∧ KeepBut w w' g none := by
 have hu28 := Try.underlying28
 have HI0 := mk hI
 have HK := mk (KeepBut.refl w g none)
 have HL := mk hB.size
 clear hI
 have HW0 := mk hB.size
 have HB := mk hB
 clear hB
 have H : ((spec_anyPlanes.f k s0_0 s0_1).bind fun bt73002 => ((spec_randomImage.f k s0_0 bt73002.2 bt73002.1).bind fun bt73004 => ((spec_spoilImage.f k s0_0 bt73004.2.2.2.2 bt73004.1 bt73004.2.1 bt73004.2.2.1 bt73004.2.2.2.1).bind fun bt73011 => (some (bt73011.1, bt73011.2.1, bt73011.2.2.1, bt73011.2.2.2.1, bt73011.2.2.2.2))))) = some (r1, r2, r3, r4, r5) := h
 clear h
 replace H := Option.bind_eq_some_iff.mp H
 obtain ⟨⟨t73002, t73003⟩, A20, H⟩ := H
 replace H : ((spec_randomImage.f k s0_0 t73003 t73002).bind fun bt73004 => ((spec_spoilImage.f k s0_0 bt73004.2.2.2.2 bt73004.1 bt73004.2.1 bt73004.2.2.1 bt73004.2.2.2.1).bind fun bt73011 => (some (bt73011.1, bt73011.2.1, bt73011.2.2.1, bt73011.2.2.2.1, bt73011.2.2.2.2)))) = some (r1, r2, r3, r4, r5) := H
 have A2 := mk A20
 clear A20
 replace H := Option.bind_eq_some_iff.mp H
 obtain ⟨⟨t73004, t73005, t73006, t73007, t73010⟩, A30, H⟩ := H
 replace H : ((spec_spoilImage.f k s0_0 t73010 t73004 t73005 t73006 t73007).bind fun bt73011 => (some (bt73011.1, bt73011.2.1, bt73011.2.2.1, bt73011.2.2.2.1, bt73011.2.2.2.2))) = some (r1, r2, r3, r4, r5) := H
 have A3 := mk A30
 clear A30
 replace H := Option.bind_eq_some_iff.mp H
 obtain ⟨⟨t73011, t73012, t73013, t73014, t73017⟩, A40, H⟩ := H
 replace H : (some (t73011, t73012, t73013, t73014, t73017)) = some (r1, r2, r3, r4, r5) := H
 have A4 := mk A40
 clear A40
 simp only [Option.some.injEq, Prod.mk.injEq] at H
 obtain ⟨rfl, rfl, rfl, rfl, rfl⟩ := H
 go_enter Try.func72, Try.ntmps72
 go_wp2_with (first | ((with_reducible refine gate_dst (N := 2) rfl ?_); refine box_event ?hg (N := 2) ?hd (cs := #[.int .i64 0, .int .i64 0, .int .i64 0, .slice none 0 0]) (t := 28) ?hr ?_; (case hd => rfl); (case hg => rfl); (case hr => (go_simp; done)); intro gb73001 hg w5 hbox hb; have n0_ := mk (IsS100.below HI0.out hb); have n1_ := mk (KeepBut.trans HK.out (KeepBut.of_below hb g none) (.inl rfl)); have n2_ := mk (below_step HB.out hb); have n3_ := mk (hbox); have n4_ := mk ((by rw [hg]; exact (keep_size (w := w) (g := g) (row := none) HK.out) : w.heap.size ≤ gb73001)); have n5_ := mk ((Nat.le_trans HW0.out (by rw [hg]; exact (keep_size (w := w) (g := g) (row := none) HK.out) : w.heap.size ≤ gb73001) : w0.heap.size ≤ gb73001)); have n6_ := mk ((by rw [hg]; exact Nat.ne_of_lt (IsS100.lt (show IsS100 w0 _ g s0_0 s0_1 from by exact HI0.out)) : g ≠ gb73001)); have n7_ := mk ((by rw [hg]; exact Nat.ne_of_gt (IsS100.lt (show IsS100 w0 _ g s0_0 s0_1 from by exact HI0.out)) : gb73001 ≠ g)); clear HI0; clear HK; clear HB; have HI0 := n0_; have HK := n1_; have HB := n2_; have BK73001 := n3_; have GW73001 := n4_; have GE73001 := n5_; have NB0_73001 := n6_; have NB73001_0 := n7_; clear n0_ n1_ n2_ n3_ n4_ n5_ n6_ n7_; clear hb hbox hg) | ((with_reducible refine gate_callee (f := 101) rfl ?_); refine goesL_ (some 6) rfl rfl Try.func101 (by kernel_rfl) rfl #[.pointer (some ⟨g, 0, none⟩)] rfl (by (try simp only [bitvec_to_nat]); rfl) ?_; (with_reducible refine (spec_anyPlanes.calls k g s0_0 s0_1 t73002 t73003 w0 _ ?side1 ?side2 A2.out).mono ?_); (case side1 => repeat (with_reducible exact HI0.out)); (case side2 => repeat (with_reducible exact HB.out)); rintro e w6 ⟨rfl, hi, hb, hk⟩; refine ⟨_, rfl, ?_⟩; have n0_ := mk (KeepBut.blk hk (g' := gb73001) (o := .cells #[.int .i64 0, .int .i64 0, .int .i64 0, .slice none 0 0] 28 (0, 0)) BK73001.out NB73001_0.out (by simp)); have n1_ := mk (KeepBut.trans HK.out hk (.inl rfl)); have n2_ := mk (hb); have n3_ := mk (hi); clear BK73001; clear HK; clear HB; clear HI0; have BK73001 := n0_; have HK := n1_; have HB := n2_; have HI0 := n3_; clear n0_ n1_ n2_ n3_; (try clear hb); (try clear hk); (try clear hi)) | ((with_reducible refine gate_callee (f := 100) rfl ?_); refine goesL_ (some 7) rfl rfl Try.func100 (by kernel_rfl) rfl #[.pointer (some ⟨g, 0, none⟩), .int .i64 t73002] rfl (by (try simp only [bitvec_to_nat]); rfl) ?_; (with_reducible refine (spec_randomImage.calls k g s0_0 t73003 t73002 t73004 t73005 t73006 t73007 t73010 w0 _ ?side1 ?side2 A3.out).mono ?_); (case side1 => repeat (with_reducible exact HI0.out)); (case side2 => repeat (with_reducible exact HB.out)); rintro e w7 ⟨v73008, rfl, ho0, hi, hb, hk⟩; refine ⟨_, rfl, ?_⟩; have n0_ := mk (KeepBut.blk hk (g' := gb73001) (o := .cells #[.int .i64 0, .int .i64 0, .int .i64 0, .slice none 0 0] 28 (0, 0)) BK73001.out NB73001_0.out (by simp)); have n1_ := mk (Kd.R_lower ho0 (keep_size (w := w) (g := g) (row := none) HK.out)); have n2_ := mk (KeepBut.trans HK.out hk (.inl rfl)); have n3_ := mk (hb); have n4_ := mk (hi); clear BK73001; clear HK; clear HB; clear HI0; have BK73001 := n0_; have HO73009 := n1_; have HK := n2_; have HB := n3_; have HI0 := n4_; clear n0_ n1_ n2_ n3_ n4_; (try clear hb); (try clear hk); (try clear hi); (try clear ho0); obtain ⟨Ao8, co8, eo8⟩ := Kd.R_slice HO73009.out; subst eo8) | ((with_reducible refine gate_callee (f := 99) rfl ?_); refine goesL_ (some 8) rfl rfl Try.func99 (by kernel_rfl) rfl #[.pointer (some ⟨g, 0, none⟩), .agg #[.int .i64 t73004, .int .i64 t73005, .int .i64 t73006, .slice Ao8 t73007.length co8]] rfl (by (try simp only [bitvec_to_nat]); rfl) ?_; (with_reducible refine (spec_spoilImage.calls k g s0_0 t73010 t73004 t73005 t73006 (fun k_ => some k_ = (.slice Ao8 t73007.length co8 : Value).ownBlock) (.slice Ao8 t73007.length co8) t73007 t73011 t73012 t73013 t73014 t73017 w0 _ ?side1 ?side2 ?side3 A4.out).mono ?_); (case side1 => repeat (with_reducible exact HI0.out)); (case side2 => repeat (with_reducible exact HB.out)); (case side3 => exact Kd.R_lower (Kd.R_tight rfl HO73009.out) HL.out); rintro e w9 ⟨v73015, rfl, ho0, hi, hb, hkp⟩; refine ⟨_, rfl, ?_⟩; have n0_ := mk (hi); have n1_ := mk (blk_kept BK73001.out hkp (fun hs_ => Or.elim hs_ (fun hs_ => (fun e_ => (Kd.R_ne HO73009.out BK73001.out (by decide)) e_) hs_) (fun e_ => NB73001_0.out e_))); have n2_ := mk (Kd.Q_mono (ok' := fun k_ => True) (qraise (d := (Kd.int .i64)) (b := w0.heap.size) (b' := w.heap.size) (fun _ _ _ _ h_ => h_) ho0 (fun k_ e_ => Or.elim (ho0.1 k_ e_) (fun hs_ => (fun e_ => Kd.R_base HO73009.out k_ e_.symm) hs_) (fun hn_ => Nat.le_trans (keep_size (w := w) (g := g) (row := none) HK.out) hn_))) (fun k_ hk_ => trivial)); have n3_ := mk (Kept.keepG HK.out hkp (fun k_ hs_ => Or.elim hs_ (fun hs_ => (fun e_ => .inr (Kd.R_base HO73009.out k_ e_.symm)) hs_) (fun e_ => .inl e_))); have n4_ := mk (hb); clear HI0; clear BK73001; clear HK; clear HB; clear HO73009; have HI0 := n0_; have BK73001 := n1_; have HO73016 := n2_; have HK := n3_; have HB := n4_; clear n0_ n1_ n2_ n3_ n4_; (try clear hb); (try clear hkp); (try clear ho0); have hnb10 := NB73001_0.out; have hnc10 := NB0_73001.out; obtain ⟨hcz11_0, hcz11_1, hcz11_2, hcz11_3, hfz11_0, hfz11_1, hfz11_2, hfz11_3⟩ := c4 BK73001.out; obtain ⟨Ao12, co12, eo12, _⟩ := Kd.Q_slice HO73016.out; subst eo12))
 refine bodyPost_ret (results_cell_row rfl _ _ gb73001 28 #[.int .i64 t73011, .int .i64 t73012, .int .i64 t73013, .slice Ao12 t73014.length co12] (0, 0) _ rfl (by refine blk_put (cs := #[.int .i64 t73011, .int .i64 t73012, .int .i64 t73013, .slice none 0 0]) ?_ 3 _ rfl; refine blk_put (cs := #[.int .i64 t73011, .int .i64 t73012, .int .i64 0, .slice none 0 0]) ?_ 2 _ rfl; refine blk_put (cs := #[.int .i64 t73011, .int .i64 0, .int .i64 0, .slice none 0 0]) ?_ 1 _ rfl; refine blk_put (cs := #[.int .i64 0, .int .i64 0, .int .i64 0, .slice none 0 0]) ?_ 0 _ rfl; exact BK73001.out) Try.underlying28 rfl (by kernel_rfl)) rfl ?_
 exact ⟨_, by rfl, by exact Kd.Q_mono (Q4 (Kd.Q_types HO73016.out BK73001.out (by decide)) (.int .i64 t73011) (.int .i64 t73012) (.int .i64 t73013) (.slice Ao12 t73014.length co12)) (fun _ hk => trivial), by repeat (with_reducible first | exact HI0.out | refine IsS100.far ?_ NB0_73001.out _), by repeat (with_reducible first | exact HB.out | refine below_set ?_ GE73001.out), by repeat (with_reducible first | exact HK.out | refine keep_far ?_ GW73001.out _)⟩


mutual
def spec_twoImages.l0 : Nat → Int → List Int → Int → Int → Int → Int → List Int → Int → Int → Int → List Int → Option (Int × Int × Int × List Int × Int × Int × Int × List Int × Int)
 | 0, _, _, _, _, _, _, _, _, _, _, _ => none
 | k + 1, x6, x1000, x1001, xz3, xz4, xz5, xz6, xz7, xz8, xz9, xz2 => if x6 > 0 then (spec_twoImages.j1 k x6 (decide ((xz2.length : Int) > 0)) x1000 x1001 xz3 xz4 xz5 xz6 xz7 xz8 xz9 xz2) else (spec_twoImages.j1 k x6 false x1000 x1001 xz3 xz4 xz5 xz6 xz7 xz8 xz9 xz2)
def spec_twoImages.j1 : Nat → Int → Bool → List Int → Int → Int → Int → Int → List Int → Int → Int → Int → List Int → Option (Int × Int × Int × List Int × Int × Int × Int × List Int × Int)
 | 0, _, _, _, _, _, _, _, _, _, _, _, _ => none
 | k + 1, x6, x28, x1000, x1001, xz3, xz4, xz5, xz6, xz7, xz8, xz9, xz2 => if x28 = true then ((spec_reader_pick.f k x1000 x1001 (xz2.length : Int)).bind fun btz3 => ((spec_reader_pick.f k x1000 btz3.2 256).bind fun btz4 => (if 0 ≤ btz3.1 then (if btz3.1 < (xz2.length : Int) then (spec_twoImages.l0 k (wrap64 (x6 - 1)) x1000 btz4.2 xz3 xz4 xz5 xz6 xz7 xz8 xz9 (xz2.set (btz3.1 : Int).toNat btz4.1)) else none) else none))) else ((spec_reader_pick.f k x1000 x1001 16).bind fun btz5 => (if btz5.1 = 0 then ((spec_anyImage.f k x1000 btz5.2).bind fun btz1 => (some (xz3, xz4, xz5, xz6, btz1.1, btz1.2.1, btz1.2.2.1, btz1.2.2.2.1, btz1.2.2.2.2))) else (some (xz3, xz4, xz5, xz6, xz7, xz8, xz9, xz2, btz5.2))))
end
def spec_twoImages.f (k : Nat) (s0_0 : List Int) (s0_1 : Int) : Option (Int × Int × Int × List Int × Int × Int × Int × List Int × Int) := (spec_anyImage.f k s0_0 s0_1).bind fun btz0 => ((spec_copyInts.f btz0.2.2.2.1).bind fun tz8 => ((spec_reader_pick.f k s0_0 btz0.2.2.2.2 6).bind fun btz2 => (spec_twoImages.l0 k btz2.1 s0_0 btz2.2 btz0.1 btz0.2.1 btz0.2.2.1 btz0.2.2.2.1 btz0.1 btz0.2.1 btz0.2.2.1 tz8)))
def spec_twoImages.T2 : Bool × List (List Nat × List Nat) := (true, [([], []), ([0], [0]), ([], []), ([2], [2]), ([], []), ([4], [4]), ([], []), ([6], [6]), ([7], [7]), ([1, 3, 5, 8], [1, 3, 5, 8]), ([], []), ([10, 9, 8, 0, 1, 2, 3, 4, 5, 6, 7, 8, 9, 10], [9, 10])])
def spec_twoImages.B2 : List Nat := [0, 1, 0, 4, 0, 16, 0, 64, 192, 511, 0, 2047]
theorem spec_twoImages.tab2 : rtab .any (opsOf Try.f54 2) = spec_twoImages.T2 := by kernel_rfl
theorem spec_twoImages.bits2 : waitsOk spec_twoImages.T2.2 spec_twoImages.B2 = true := by kernel_rfl
def spec_twoImages.T6 : Bool × List (List Nat × List Nat) := (true, [([], []), ([0], [0]), ([], []), ([], []), ([3], [3]), ([4], [4]), ([2, 5], [2, 5]), ([], []), ([7, 6], [7]), ([1, 6, 0, 1, 2, 3, 4, 5, 6, 7, 8], [1, 6]), ([9, 8, 8, 0, 1, 2, 3, 4, 5, 6, 7, 8], [8, 9])])
def spec_twoImages.B6 : List Nat := [0, 1, 0, 0, 8, 24, 60, 0, 252, 511, 1023]
theorem spec_twoImages.tab6 : rtab .any (opsOf Try.f54 6) = spec_twoImages.T6 := by kernel_rfl
theorem spec_twoImages.bits6 : waitsOk spec_twoImages.T6.2 spec_twoImages.B6 = true := by kernel_rfl
theorem spec_twoImages.calls (k : Nat) (g : Nat) (s0_0 : List Int) (s0_1 : Int) (r1 : Int) (r2 : Int) (r3 : Int) (r4 : List Int) (r5 : Int) (r6 : Int) (r7 : Int) (r8 : List Int) (r9 : Int) (w0 w : World) (hI : IsS100 w0 w g s0_0 s0_1) (hB : Below w0.heap.size w0 w) (h : spec_twoImages.f k s0_0 s0_1 = some (r1, r2, r3, r4, r5, r6, r7, r8, r9)) :
  Calls Try.prog 54 #[.pointer (some ⟨g, 0, none⟩)] w fun e w' => ∃ v3_ v7_ : Value, e = .returned (.tuple #[.agg #[.int .i64 r1, .int .i64 r2, .int .i64 r3, v3_], .agg #[.int .i64 r5, .int .i64 r6, .int .i64 r7, v7_]]) ∧ Kd.Q (Kd.int .i64) 3 w' w.heap.size (fun k_ => some k_ ≠ (v7_ : Value).ownBlock) v3_ r4 ∧ Kd.Q (Kd.int .i64) 3 w' w.heap.size (fun k_ => some k_ ≠ (v3_ : Value).ownBlock) v7_ r8 ∧ IsS100 w0 w' g s0_0 r9 ∧ Below w0.heap.size w0 w' ∧ KeepBut w w' g none := by
 have HI0 := mk hI
 have HK := mk (KeepBut.refl w g none)
 have HL := mk hB.size
 clear hI
 have HW0 := mk hB.size
 have HB := mk hB
 clear hB
 have H : ((spec_anyImage.f k s0_0 s0_1).bind fun btz0 => ((spec_copyInts.f btz0.2.2.2.1).bind fun tz8 => ((spec_reader_pick.f k s0_0 btz0.2.2.2.2 6).bind fun btz2 => (spec_twoImages.l0 k btz2.1 s0_0 btz2.2 btz0.1 btz0.2.1 btz0.2.2.1 btz0.2.2.2.1 btz0.1 btz0.2.1 btz0.2.2.1 tz8)))) = some (r1, r2, r3, r4, r5, r6, r7, r8, r9) := h
 clear h
 replace H := Option.bind_eq_some_iff.mp H
 obtain ⟨⟨tz0, tz1, tz2, tz3, tz10⟩, A20, H⟩ := H
 replace H : ((spec_copyInts.f tz3).bind fun tz8 => ((spec_reader_pick.f k s0_0 tz10 6).bind fun btz2 => (spec_twoImages.l0 k btz2.1 s0_0 btz2.2 tz0 tz1 tz2 tz3 tz0 tz1 tz2 tz8))) = some (r1, r2, r3, r4, r5, r6, r7, r8, r9) := H
 have A2 := mk A20
 clear A20
 replace H := Option.bind_eq_some_iff.mp H
 obtain ⟨tz8, A30, H⟩ := H
 replace H : ((spec_reader_pick.f k s0_0 tz10 6).bind fun btz2 => (spec_twoImages.l0 k btz2.1 s0_0 btz2.2 tz0 tz1 tz2 tz3 tz0 tz1 tz2 tz8)) = some (r1, r2, r3, r4, r5, r6, r7, r8, r9) := H
 have A3 := mk A30
 clear A30
 replace H := Option.bind_eq_some_iff.mp H
 obtain ⟨⟨tz16, tz17⟩, A40, H⟩ := H
 replace H : (spec_twoImages.l0 k tz16 s0_0 tz17 tz0 tz1 tz2 tz3 tz0 tz1 tz2 tz8) = some (r1, r2, r3, r4, r5, r6, r7, r8, r9) := H
 have A4 := mk A40
 clear A40
 have H' := mk H
 clear H
 go_enter Try.func54, Try.ntmps54
 try go_wp2_with (first | ((with_reducible refine gate_dst (N := 2) rfl ?_); (try (refine gate_guard (by rfl) ?_; dsimp only)); refine box_event (by rfl) (N := 2) (by rfl) (cs := #[.int .i64 0, .int .i64 0, .int .i64 0, .slice none 0 0]) (t := 28) (by go_simp; done) ?_; intro gbz1 hg w5 hbox hb; replace HB := mk (below_step HB.out hb); have BKz1 := mk (hbox); have GWz1 := mk ((by rw [hg]; exact (keep_size (w := w) (g := g) (row := none) HK.out) : w.heap.size ≤ gbz1)); have GEz1 := mk ((Nat.le_trans HW0.out (by rw [hg]; exact (keep_size (w := w) (g := g) (row := none) HK.out) : w.heap.size ≤ gbz1) : w0.heap.size ≤ gbz1)); replace HK := mk (KeepBut.trans HK.out (KeepBut.of_below hb g none) (.inl rfl)); have NBz17 := mk ((by rw [hg]; exact Nat.ne_of_lt (IsS100.lt (show IsS100 w0 _ g s0_0 s0_1 from by exact HI0.out)) : g ≠ gbz1)); have NBz12 := mk ((by rw [hg]; exact Nat.ne_of_gt (IsS100.lt (show IsS100 w0 _ g s0_0 s0_1 from by exact HI0.out)) : gbz1 ≠ g)); replace HI0 := mk (IsS100.below HI0.out hb); clear hb hbox hg) | ((with_reducible refine gate_dst (N := 3) rfl ?_); (try (refine gate_guard (by rfl) ?_; dsimp only)); refine box_event (by rfl) (N := 3) (by rfl) (cs := #[.int .i64 0, .int .i64 0, .int .i64 0, .slice none 0 0]) (t := 28) (by go_simp; done) ?_; intro gbz2 hg w6 hbox hb; replace HB := mk (below_step HB.out hb); have BKz2 := mk (hbox); have GWz2 := mk ((by rw [hg]; exact (keep_size (w := w) (g := g) (row := none) HK.out) : w.heap.size ≤ gbz2)); have GEz2 := mk ((Nat.le_trans HW0.out (by rw [hg]; exact (keep_size (w := w) (g := g) (row := none) HK.out) : w.heap.size ≤ gbz2) : w0.heap.size ≤ gbz2)); replace HK := mk (KeepBut.trans HK.out (KeepBut.of_below hb g none) (.inl rfl)); have NBz8 := mk ((by rw [hg]; exact Nat.ne_of_lt (blk_lt BKz1.out) : gbz1 ≠ gbz2)); have NBz7 := mk ((by rw [hg]; exact Nat.ne_of_gt (blk_lt BKz1.out) : gbz2 ≠ gbz1)); replace BKz1 := mk (blk_below BKz1.out hb); have NBz18 := mk ((by rw [hg]; exact Nat.ne_of_lt (IsS100.lt (show IsS100 w0 _ g s0_0 s0_1 from by exact HI0.out)) : g ≠ gbz2)); have NBz13 := mk ((by rw [hg]; exact Nat.ne_of_gt (IsS100.lt (show IsS100 w0 _ g s0_0 s0_1 from by exact HI0.out)) : gbz2 ≠ g)); replace HI0 := mk (IsS100.below HI0.out hb); clear hb hbox hg) | ((with_reducible refine gate_callee (f := 72) rfl ?_); refine goesL_ (some 8) rfl rfl Try.func72 (by kernel_rfl) rfl #[.pointer (some ⟨g, 0, none⟩)] rfl (by (try simp only [bitvec_to_nat]); rfl) ?_; (with_reducible refine (spec_anyImage.calls k g s0_0 s0_1 tz0 tz1 tz2 tz3 tz10 w0 _ ?side1 ?side2 A2.out).mono ?_); (case side1 => repeat (with_reducible exact HI0.out)); (case side2 => repeat (with_reducible exact HB.out)); rintro e w7 ⟨vz1, rfl, ho0, hi, hb, hk⟩; refine ⟨_, rfl, ?_⟩; replace BKz1 := mk (KeepBut.blk hk (g' := gbz1) (o := .cells #[.int .i64 0, .int .i64 0, .int .i64 0, .slice none 0 0] 28 (0, 0)) BKz1.out NBz12.out (by simp)); replace BKz2 := mk (KeepBut.blk hk (g' := gbz2) (o := .cells #[.int .i64 0, .int .i64 0, .int .i64 0, .slice none 0 0] 28 (0, 0)) BKz2.out NBz13.out (by simp)); have HOz2 := mk (Kd.Q_lower ho0 (keep_size (w := w) (g := g) (row := none) HK.out)); replace HK := mk (KeepBut.trans HK.out hk (.inl rfl)); replace HB := mk (hb); replace HI0 := mk (hi); (try clear hb); (try clear hk); (try clear hi); (try clear ho0)) | ((with_reducible refine gate_dst (N := 4) rfl ?_); (try (refine gate_guard (by rfl) ?_; dsimp only)); refine box_event (by rfl) (N := 4) (by rfl) (cs := #[.int .i64 0, .int .i64 0, .int .i64 0, .slice none 0 0]) (t := 28) (by go_simp; done) ?_; intro gbz3 hg w8 hbox hb; replace HOz2 := mk (Kd.Q_below HOz2.out hb); replace HB := mk (below_step HB.out hb); have BKz0 := mk (hbox); have GWz3 := mk ((by rw [hg]; exact (keep_size (w := w) (g := g) (row := none) HK.out) : w.heap.size ≤ gbz3)); have GEz3 := mk ((Nat.le_trans HW0.out (by rw [hg]; exact (keep_size (w := w) (g := g) (row := none) HK.out) : w.heap.size ≤ gbz3) : w0.heap.size ≤ gbz3)); replace HK := mk (KeepBut.trans HK.out (KeepBut.of_below hb g none) (.inl rfl)); have NBz14 := mk ((by rw [hg]; exact Nat.ne_of_lt (blk_lt BKz1.out) : gbz1 ≠ gbz3)); have NBz2 := mk ((by rw [hg]; exact Nat.ne_of_gt (blk_lt BKz1.out) : gbz3 ≠ gbz1)); replace BKz1 := mk (blk_below BKz1.out hb); have NBz10 := mk ((by rw [hg]; exact Nat.ne_of_lt (blk_lt BKz2.out) : gbz2 ≠ gbz3)); have NBz3 := mk ((by rw [hg]; exact Nat.ne_of_gt (blk_lt BKz2.out) : gbz3 ≠ gbz2)); replace BKz2 := mk (blk_below BKz2.out hb); have NBz19 := mk ((by rw [hg]; exact Nat.ne_of_lt (IsS100.lt (show IsS100 w0 _ g s0_0 tz10 from by exact HI0.out)) : g ≠ gbz3)); have NBz16 := mk ((by rw [hg]; exact Nat.ne_of_gt (IsS100.lt (show IsS100 w0 _ g s0_0 tz10 from by exact HI0.out)) : gbz3 ≠ g)); replace HI0 := mk (IsS100.below HI0.out hb); clear hb hbox hg; obtain ⟨hcz12_0, hcz12_1, hcz12_2, hcz12_3, hfz12_0, hfz12_1, hfz12_2, hfz12_3⟩ := c4 BKz0.out; obtain ⟨Ao13, co13, eo13, _⟩ := Kd.Q_slice HOz2.out; subst eo13))
 have n0_ : Aside0 (Kd.Q (Kd.int .i64) 3 ((((w8.setCell ⟨gbz3, 0, none⟩ (.int .i64 tz0)).setCell ⟨gbz3, 1, none⟩ (.int .i64 tz1)).setCell ⟨gbz3, 2, none⟩ (.int .i64 tz2)).setCell ⟨gbz3, 3, none⟩ (.slice Ao13 tz3.length co13)) w.heap.size (fun _ => True) (.slice Ao13 tz3.length co13) tz3) := ⟨by exact Kd.Q_mono (Q4 (Kd.Q_types HOz2.out BKz0.out (by decide)) (.int .i64 tz0) (.int .i64 tz1) (.int .i64 tz2) (.slice Ao13 tz3.length co13)) (fun _ hk => trivial)⟩
 have n1_ : Aside0 (((((w8.setCell ⟨gbz3, 0, none⟩ (.int .i64 tz0)).setCell ⟨gbz3, 1, none⟩ (.int .i64 tz1)).setCell ⟨gbz3, 2, none⟩ (.int .i64 tz2)).setCell ⟨gbz3, 3, none⟩ (.slice Ao13 tz3.length co13)).heap[gbz1]? = some (.cells #[.int .i64 0, .int .i64 0, .int .i64 0, .slice none 0 0] 28 (0, 0))) := ⟨by refine f4 ?_ NBz14.out; exact BKz1.out⟩
 have n2_ : Aside0 (((((w8.setCell ⟨gbz3, 0, none⟩ (.int .i64 tz0)).setCell ⟨gbz3, 1, none⟩ (.int .i64 tz1)).setCell ⟨gbz3, 2, none⟩ (.int .i64 tz2)).setCell ⟨gbz3, 3, none⟩ (.slice Ao13 tz3.length co13)).heap[gbz2]? = some (.cells #[.int .i64 0, .int .i64 0, .int .i64 0, .slice none 0 0] 28 (0, 0))) := ⟨by refine f4 ?_ NBz10.out; exact BKz2.out⟩
 have n3_ : Aside0 (((((w8.setCell ⟨gbz3, 0, none⟩ (.int .i64 tz0)).setCell ⟨gbz3, 1, none⟩ (.int .i64 tz1)).setCell ⟨gbz3, 2, none⟩ (.int .i64 tz2)).setCell ⟨gbz3, 3, none⟩ (.slice Ao13 tz3.length co13)).heap[gbz3]? = some (.cells #[.int .i64 tz0, .int .i64 tz1, .int .i64 tz2, .slice Ao13 tz3.length co13] 28 (0, 0))) := ⟨by refine p4 (.int .i64 0) (.int .i64 0) (.int .i64 0) (.slice none 0 0) ?_; exact BKz0.out⟩
 have n4_ : Aside0 (IsS100 w0 ((((w8.setCell ⟨gbz3, 0, none⟩ (.int .i64 tz0)).setCell ⟨gbz3, 1, none⟩ (.int .i64 tz1)).setCell ⟨gbz3, 2, none⟩ (.int .i64 tz2)).setCell ⟨gbz3, 3, none⟩ (.slice Ao13 tz3.length co13)) g s0_0 tz10) := ⟨by repeat (with_reducible first | exact HI0.out | refine IsS100.far ?_ NBz19.out _)⟩
 have n5_ : Aside0 (KeepBut w ((((w8.setCell ⟨gbz3, 0, none⟩ (.int .i64 tz0)).setCell ⟨gbz3, 1, none⟩ (.int .i64 tz1)).setCell ⟨gbz3, 2, none⟩ (.int .i64 tz2)).setCell ⟨gbz3, 3, none⟩ (.slice Ao13 tz3.length co13)) g none) := ⟨by repeat (with_reducible first | exact HK.out | refine keep_far ?_ GWz3.out _)⟩
 have n6_ : Aside0 (Below w0.heap.size w0 ((((w8.setCell ⟨gbz3, 0, none⟩ (.int .i64 tz0)).setCell ⟨gbz3, 1, none⟩ (.int .i64 tz1)).setCell ⟨gbz3, 2, none⟩ (.int .i64 tz2)).setCell ⟨gbz3, 3, none⟩ (.slice Ao13 tz3.length co13))) := ⟨by repeat (with_reducible first | exact HB.out | refine below_set ?_ GEz3.out)⟩
 (try clear HOz2)
 (try clear BKz1)
 (try clear BKz2)
 (try clear BKz0)
 (try clear HI0)
 (try clear HK)
 (try clear HB)
 generalize ((((w8.setCell ⟨gbz3, 0, none⟩ (.int .i64 tz0)).setCell ⟨gbz3, 1, none⟩ (.int .i64 tz1)).setCell ⟨gbz3, 2, none⟩ (.int .i64 tz2)).setCell ⟨gbz3, 3, none⟩ (.slice Ao13 tz3.length co13)) = w14 at n0_ n1_ n2_ n3_ n4_ n5_ n6_ ⊢
 revert n0_ n1_ n2_ n3_ n4_ n5_ n6_; intro HOz2 BKz1 BKz2 BKz0 HI0 HK HB
 replace HOz2 := mk (Kd.Q_drew HOz2.out)
 replace BKz1 := mk (blk_drew BKz1.out)
 replace BKz2 := mk (blk_drew BKz2.out)
 replace BKz0 := mk (blk_drew BKz0.out)
 replace HI0 := mk (IsS100.drew HI0.out)
 replace HK := mk (keep_drew HK.out)
 replace HB := mk (below_drew1 HB.out)
 refine start_ (n := 12) (S := fun w' => w'.cell? ⟨gbz3, 0, none⟩ = some (.int .i64 tz0) ∧ w'.cell? ⟨gbz3, 1, none⟩ = some (.int .i64 tz1) ∧ w'.cell? ⟨gbz3, 2, none⟩ = some (.int .i64 tz2) ∧ w'.cell? ⟨gbz3, 3, none⟩ = some (.slice Ao13 tz3.length co13)) (ds := []) #[false, false, false, false, false, false, false, false, false, false, false, false] (by kernel_rfl) rfl rfl ⟨blk_cell BKz0.out 0, blk_cell BKz0.out 1, blk_cell BKz0.out 2, blk_cell BKz0.out 3⟩ (fun hHeld => ?_); refine with_tabW spec_twoImages.tab2 spec_twoImages.bits2 (fun HT_ HW_ => ?_)
 generalize w14.drew = w15 at HOz2 BKz1 BKz2 BKz0 HI0 HK HB hHeld ⊢
 refine pu 0 9 ?_ ?_ rfl rfl (any_of HT_.out (by kernel_rfl)) (Or.inl ⟨by rfl, ?_⟩) ?_ ?_
 rotate_left 2
 ·intro w'
  go_simp
  with_reducible rfl
 ·simp only [seval]
  rfl
 refine pu 2 11 ?_ ?_ rfl rfl (any_of HT_.out (by kernel_rfl)) (Or.inl ⟨by rfl, ?_⟩) ?_ ?_
 rotate_left 2
 ·intro w'
  go_simp
  with_reducible rfl
 ·simp only [seval]
  rfl
 refine pu 4 13 ?_ ?_ rfl rfl (any_of HT_.out (by kernel_rfl)) (Or.inl ⟨by rfl, ?_⟩) ?_ ?_
 rotate_left 2
 ·intro w'
  go_simp
  with_reducible rfl
 ·simp only [seval]
  rfl
 refine pu 6 15 ?_ ?_ rfl rfl (any_of HT_.out (by kernel_rfl)) (Or.inl ⟨by rfl, ?_⟩) ?_ ?_
 rotate_left 2
 ·intro w'
  go_simp
  with_reducible rfl
 ·simp only [seval]
  rfl
 refine tk 1 10 ?_ ?_ rfl rfl (take_ofW HT_.out HW_.out (by kernel_rfl)) (Or.inl ⟨by rfl, ?_⟩) hHeld ?_ ?_
 rotate_left 2
 ·rintro w' ⟨s0, s1, s2, s3⟩
  go_simp
  with_reducible rfl
 ·simp only [seval]
  rfl
 refine tk 3 12 ?_ ?_ rfl rfl (take_ofW HT_.out HW_.out (by kernel_rfl)) (Or.inl ⟨by rfl, ?_⟩) hHeld ?_ ?_
 rotate_left 2
 ·rintro w' ⟨s0, s1, s2, s3⟩
  go_simp
  with_reducible rfl
 ·simp only [seval]
  rfl
 refine tk 5 14 ?_ ?_ rfl rfl (take_ofW HT_.out HW_.out (by kernel_rfl)) (Or.inl ⟨by rfl, ?_⟩) hHeld ?_ ?_
 rotate_left 2
 ·rintro w' ⟨s0, s1, s2, s3⟩
  go_simp
  with_reducible rfl
 ·simp only [seval]
  rfl
 refine tk 7 16 ?_ ?_ rfl rfl (take_ofW HT_.out HW_.out (by kernel_rfl)) (Or.inl ⟨by rfl, ?_⟩) hHeld ?_ ?_
 rotate_left 2
 ·rintro w' ⟨s0, s1, s2, s3⟩
  go_simp
  with_reducible rfl
 ·simp only [seval]
  rfl
 refine join_ (σ := Value × Nat) 1 #[true, true, true, true, true, true, true, true, true, true, true, false] (fun s_ => [(17, s_.1), (5, .pointer (some ⟨s_.2, 0, none⟩)), (18, .agg #[.int .i64 tz0, .int .i64 tz1, .int .i64 tz2, s_.1])]) (fun s_ w' => (w'.cell? ⟨gbz3, 0, none⟩ = some (.int .i64 tz0) ∧ w'.cell? ⟨gbz3, 1, none⟩ = some (.int .i64 tz1) ∧ w'.cell? ⟨gbz3, 2, none⟩ = some (.int .i64 tz2) ∧ w'.cell? ⟨gbz3, 3, none⟩ = some (.slice Ao13 tz3.length co13)) ∧ (Kd.Q (Kd.int .i64) 3 w' w.heap.size (fun k_ => some k_ ≠ (s_.1 : Value).ownBlock) (.slice Ao13 tz3.length co13) tz3) ∧ (Kd.R (Kd.int .i64) 3 w' w.heap.size (fun k_ => some k_ ≠ (.slice Ao13 tz3.length co13 : Value).ownBlock) s_.1 tz8) ∧ (w'.heap[gbz1]? = some (.cells #[.int .i64 0, .int .i64 0, .int .i64 0, .slice none 0 0] 28 (0, 0))) ∧ (w'.heap[gbz2]? = some (.cells #[.int .i64 0, .int .i64 0, .int .i64 0, .slice none 0 0] 28 (0, 0))) ∧ (w'.heap[gbz3]? = some (.cells #[.int .i64 tz0, .int .i64 tz1, .int .i64 tz2, .slice Ao13 tz3.length co13] 28 (0, 0))) ∧ (w'.heap[s_.2]? = some (.cells #[.int .i64 0, .int .i64 0, .int .i64 0, .slice none 0 0] 28 (0, 0))) ∧ (w.heap.size ≤ s_.2) ∧ (w0.heap.size ≤ s_.2) ∧ (g ≠ s_.2) ∧ (s_.2 ≠ g) ∧ (gbz1 ≠ s_.2) ∧ (s_.2 ≠ gbz1) ∧ (gbz2 ≠ s_.2) ∧ (s_.2 ≠ gbz2) ∧ (gbz3 ≠ s_.2) ∧ (s_.2 ≠ gbz3) ∧ (IsS100 w0 w' g s0_0 tz10) ∧ (KeepBut w w' g none) ∧ (Below w0.heap.size w0 w')) ?_ ?_
 rotate_left
 ·intro hCont
  refine two_ (i := 8) (j := 10) (Ni := some 17) (Nj := some 5) #[true, true, true, true, true, true, true, true, true, false, false, false] #[true, true, true, true, true, true, true, true, false, false, true, false] rfl rfl rfl rfl (two_of HT_.out (by kernel_rfl)) (by decide) (by decide) (fun K hK => ?_) (fun K hK => ?_)
  ·skip
   refine goes_ Try.func95 (by kernel_rfl) rfl #[.slice Ao13 tz3.length co13] (by rfl) rfl rfl (by (try simp only [bitvec_to_nat]); rfl) ?_
   with_reducible refine (spec_copyInts.calls _ _ tz3 tz8 _ ?side1 ?side2 A3.out).mono ?_
   (case side1 => repeat (exact (Kd.Q_reads' HOz2.out).2.2))
   (case side2 => exact (Kd.Q_reads' HOz2.out).2.1)
   rintro e w16 ⟨vz0, rfl, ho0, hb⟩
   refine ⟨_, rfl, ?_⟩
   have HOz3 := mk (Kd.R_lower (Kd.R_new' ho0 (Kd.Q_lt HOz2.out)) (keep_size (w := w) (g := g) (row := none) HK.out))
   replace HOz2 := mk (Kd.Q_elder' HOz2.out (Kd.R_base ho0) hb)
   replace HI0 := mk (IsS100.below HI0.out hb)
   replace BKz1 := mk (blk_below BKz1.out hb)
   replace BKz2 := mk (blk_below BKz2.out hb)
   replace BKz0 := mk (blk_below BKz0.out hb)
   replace HK := mk (KeepBut.trans HK.out (KeepBut.of_below hb g none) (.inl rfl))
   replace HB := mk (below_step HB.out hb)
   (try clear hb)
   (try clear ho0)
   obtain ⟨Ao17, co17, eo17⟩ := Kd.R_slice HOz3.out
   (subst eo17)
   refine hK.out _ _ ⟨blk_cell BKz0.out 0, blk_cell BKz0.out 1, blk_cell BKz0.out 2, blk_cell BKz0.out 3⟩ (fun hHeld => ?_)
   clear hK K
   refine norm_ (a' := ?_) ?_ ?_
   rotate_left
   ·show Act.put _ (some 17) _ = _
    simp only [seval]
    rfl
   refine pu 9 18 ?_ ?_ rfl rfl (any_of HT_.out (by kernel_rfl)) (Or.inl ⟨by rfl, ?_⟩) ?_ ?_
   rotate_left 2
   ·intro w'
    go_simp
    with_reducible rfl
   ·simp only [seval]
    rfl
   refine one_ (i := 10) (N := some 5) #[true, true, true, true, true, true, true, true, true, true, true, false] rfl rfl (one_of HT_.out (by kernel_rfl)) (by decide) (fun K hK => ?_)
   refine box_step ?hg (N := 5) ?hd (cs := #[.int .i64 0, .int .i64 0, .int .i64 0, .slice none 0 0]) (t := 28) ?hr ?_; (case hd => rfl); (case hg => rfl); (case hr => (go_simp; done))
   intro gbz0 hg w18 hbox hb
   replace HOz2 := mk (Kd.Q_below HOz2.out hb)
   replace HOz3 := mk (Kd.R_below HOz3.out hb)
   replace HB := mk (below_step HB.out hb)
   have BKz3 := mk (hbox)
   have GWz0 := mk ((by rw [hg]; exact (keep_size (w := w) (g := g) (row := none) HK.out) : w.heap.size ≤ gbz0))
   have GEz0 := mk ((Nat.le_trans HW0.out (by rw [hg]; exact (keep_size (w := w) (g := g) (row := none) HK.out) : w.heap.size ≤ gbz0) : w0.heap.size ≤ gbz0))
   replace HK := mk (KeepBut.trans HK.out (KeepBut.of_below hb g none) (.inl rfl))
   have NBz6 := mk ((by rw [hg]; exact Nat.ne_of_lt (blk_lt BKz1.out) : gbz1 ≠ gbz0))
   replace BKz1 := mk (blk_below BKz1.out hb)
   have NBz0 := mk NBz6.out.symm
   have NBz5 := mk ((by rw [hg]; exact Nat.ne_of_lt (blk_lt BKz2.out) : gbz2 ≠ gbz0))
   replace BKz2 := mk (blk_below BKz2.out hb)
   have NBz1 := mk NBz5.out.symm
   have NBz4 := mk ((by rw [hg]; exact Nat.ne_of_lt (blk_lt BKz0.out) : gbz3 ≠ gbz0))
   replace BKz0 := mk (blk_below BKz0.out hb)
   have NBz15 := mk NBz4.out.symm
   have NBz11 := mk ((by rw [hg]; exact Nat.ne_of_lt (IsS100.lt (show IsS100 w0 _ g s0_0 tz10 from by exact HI0.out)) : g ≠ gbz0))
   replace HI0 := mk (IsS100.below HI0.out hb)
   have NBz9 := mk NBz11.out.symm
   clear hb hbox hg
   refine hK.out _ _ ⟨blk_cell BKz0.out 0, blk_cell BKz0.out 1, blk_cell BKz0.out 2, blk_cell BKz0.out 3⟩ (fun hHeld => ?_)
   clear hK K
   refine norm_ (a' := ?_) ?_ ?_
   rotate_left
   ·show Act.put _ (some 5) _ = _
    simp only [seval]
    rfl
   exact norm_ (by simp only [putAll, Act.put, List.setIfInBounds_toArray, List.set_cons_zero, List.set_cons_succ]) (hCont (.slice Ao17 tz8.length co17, gbz0) _ ⟨hHeld, (by exact Kd.Q_mono HOz2.out (fun _ hk => hk.2)), (by exact Kd.R_mono HOz3.out (fun _ hk => hk.2)), BKz1.out, BKz2.out, BKz0.out, BKz3.out, GWz0.out, GEz0.out, NBz11.out, NBz9.out, NBz6.out, NBz0.out, NBz5.out, NBz1.out, NBz4.out, NBz15.out, (HI0.out), (HK.out), (HB.out)⟩)
  skip
  refine box_step ?hg (N := 5) ?hd (cs := #[.int .i64 0, .int .i64 0, .int .i64 0, .slice none 0 0]) (t := 28) ?hr ?_; (case hd => rfl); (case hg => rfl); (case hr => (go_simp; done))
  intro gbz0 hg w16 hbox hb
  replace HOz2 := mk (Kd.Q_below HOz2.out hb)
  replace HB := mk (below_step HB.out hb)
  have BKz3 := mk (hbox)
  have GWz0 := mk ((by rw [hg]; exact (keep_size (w := w) (g := g) (row := none) HK.out) : w.heap.size ≤ gbz0))
  have GEz0 := mk ((Nat.le_trans HW0.out (by rw [hg]; exact (keep_size (w := w) (g := g) (row := none) HK.out) : w.heap.size ≤ gbz0) : w0.heap.size ≤ gbz0))
  replace HK := mk (KeepBut.trans HK.out (KeepBut.of_below hb g none) (.inl rfl))
  have NBz6 := mk ((by rw [hg]; exact Nat.ne_of_lt (blk_lt BKz1.out) : gbz1 ≠ gbz0))
  replace BKz1 := mk (blk_below BKz1.out hb)
  have NBz0 := mk NBz6.out.symm
  have NBz5 := mk ((by rw [hg]; exact Nat.ne_of_lt (blk_lt BKz2.out) : gbz2 ≠ gbz0))
  replace BKz2 := mk (blk_below BKz2.out hb)
  have NBz1 := mk NBz5.out.symm
  have NBz4 := mk ((by rw [hg]; exact Nat.ne_of_lt (blk_lt BKz0.out) : gbz3 ≠ gbz0))
  replace BKz0 := mk (blk_below BKz0.out hb)
  have NBz15 := mk NBz4.out.symm
  have NBz11 := mk ((by rw [hg]; exact Nat.ne_of_lt (IsS100.lt (show IsS100 w0 _ g s0_0 tz10 from by exact HI0.out)) : g ≠ gbz0))
  replace HI0 := mk (IsS100.below HI0.out hb)
  have NBz9 := mk NBz11.out.symm
  clear hb hbox hg
  refine hK.out _ _ ⟨blk_cell BKz0.out 0, blk_cell BKz0.out 1, blk_cell BKz0.out 2, blk_cell BKz0.out 3⟩ (fun hHeld => ?_)
  clear hK K
  refine norm_ (a' := ?_) ?_ ?_
  rotate_left
  ·show Act.put _ (some 5) _ = _
   simp only [seval]
   rfl
  refine one_ (i := 8) (N := some 17) #[true, true, true, true, true, true, true, true, true, false, true, false] rfl rfl (one_of HT_.out (by kernel_rfl)) (by decide) (fun K hK => ?_)
  refine goes_ Try.func95 (by kernel_rfl) rfl #[.slice Ao13 tz3.length co13] (by rfl) rfl rfl (by (try simp only [bitvec_to_nat]); rfl) ?_
  with_reducible refine (spec_copyInts.calls _ _ tz3 tz8 _ ?side1 ?side2 A3.out).mono ?_
  (case side1 => repeat (exact (Kd.Q_reads' HOz2.out).2.2))
  (case side2 => exact (Kd.Q_reads' HOz2.out).2.1)
  rintro e w17 ⟨vz0, rfl, ho0, hb⟩
  refine ⟨_, rfl, ?_⟩
  have HOz3 := mk (Kd.R_lower (Kd.R_new' ho0 (Kd.Q_lt HOz2.out)) (keep_size (w := w) (g := g) (row := none) HK.out))
  replace HOz2 := mk (Kd.Q_elder' HOz2.out (Kd.R_base ho0) hb)
  replace HI0 := mk (IsS100.below HI0.out hb)
  replace BKz1 := mk (blk_below BKz1.out hb)
  replace BKz2 := mk (blk_below BKz2.out hb)
  replace BKz0 := mk (blk_below BKz0.out hb)
  replace BKz3 := mk (blk_below BKz3.out hb)
  replace HK := mk (KeepBut.trans HK.out (KeepBut.of_below hb g none) (.inl rfl))
  replace HB := mk (below_step HB.out hb)
  (try clear hb)
  (try clear ho0)
  obtain ⟨Ao18, co18, eo18⟩ := Kd.R_slice HOz3.out
  (subst eo18)
  refine hK.out _ _ ⟨blk_cell BKz0.out 0, blk_cell BKz0.out 1, blk_cell BKz0.out 2, blk_cell BKz0.out 3⟩ (fun hHeld => ?_)
  clear hK K
  refine norm_ (a' := ?_) ?_ ?_
  rotate_left
  ·show Act.put _ (some 17) _ = _
   simp only [seval]
   rfl
  refine pu 9 18 ?_ ?_ rfl rfl (any_of HT_.out (by kernel_rfl)) (Or.inl ⟨by rfl, ?_⟩) ?_ ?_
  rotate_left 2
  ·intro w'
   go_simp
   with_reducible rfl
  ·simp only [seval]
   rfl
  exact norm_ (by simp only [putAll, Act.put, List.setIfInBounds_toArray, List.set_cons_zero, List.set_cons_succ]) (hCont (.slice Ao18 tz8.length co18, gbz0) _ ⟨hHeld, (by exact Kd.Q_mono HOz2.out (fun _ hk => hk.2)), (by exact Kd.R_mono HOz3.out (fun _ hk => hk.2)), BKz1.out, BKz2.out, BKz0.out, BKz3.out, GWz0.out, GEz0.out, NBz11.out, NBz9.out, NBz6.out, NBz0.out, NBz5.out, NBz1.out, NBz4.out, NBz15.out, (HI0.out), (HK.out), (HB.out)⟩)
 rintro ⟨vz0, gbz0⟩ w19 ⟨hS_, h0_, h1_, h2_, h3_, h4_, h5_, h6_, h7_, h8_, h9_, h10_, h11_, h12_, h13_, h14_, h15_, h16_, h17_, h18_⟩
 have n0_ : Aside0 (Kd.Q (Kd.int .i64) 3 w19 w.heap.size (fun k_ => some k_ ≠ (vz0 : Value).ownBlock) (.slice Ao13 tz3.length co13) tz3) := ⟨h0_⟩
 have n1_ : Aside0 (Kd.R (Kd.int .i64) 3 w19 w.heap.size (fun k_ => some k_ ≠ (.slice Ao13 tz3.length co13 : Value).ownBlock) vz0 tz8) := ⟨h1_⟩
 have n2_ : Aside0 (w19.heap[gbz1]? = some (.cells #[.int .i64 0, .int .i64 0, .int .i64 0, .slice none 0 0] 28 (0, 0))) := ⟨h2_⟩
 have n3_ : Aside0 (w19.heap[gbz2]? = some (.cells #[.int .i64 0, .int .i64 0, .int .i64 0, .slice none 0 0] 28 (0, 0))) := ⟨h3_⟩
 have n4_ : Aside0 (w19.heap[gbz3]? = some (.cells #[.int .i64 tz0, .int .i64 tz1, .int .i64 tz2, .slice Ao13 tz3.length co13] 28 (0, 0))) := ⟨h4_⟩
 have n5_ : Aside0 (w19.heap[gbz0]? = some (.cells #[.int .i64 0, .int .i64 0, .int .i64 0, .slice none 0 0] 28 (0, 0))) := ⟨h5_⟩
 have n6_ : Aside0 (w.heap.size ≤ gbz0) := ⟨h6_⟩
 have n7_ : Aside0 (w0.heap.size ≤ gbz0) := ⟨h7_⟩
 have n8_ : Aside0 (g ≠ gbz0) := ⟨h8_⟩
 have n9_ : Aside0 (gbz0 ≠ g) := ⟨h9_⟩
 have n10_ : Aside0 (gbz1 ≠ gbz0) := ⟨h10_⟩
 have n11_ : Aside0 (gbz0 ≠ gbz1) := ⟨h11_⟩
 have n12_ : Aside0 (gbz2 ≠ gbz0) := ⟨h12_⟩
 have n13_ : Aside0 (gbz0 ≠ gbz2) := ⟨h13_⟩
 have n14_ : Aside0 (gbz3 ≠ gbz0) := ⟨h14_⟩
 have n15_ : Aside0 (gbz0 ≠ gbz3) := ⟨h15_⟩
 have n16_ : Aside0 (IsS100 w0 w19 g s0_0 tz10) := ⟨h16_⟩
 have n17_ : Aside0 (KeepBut w w19 g none) := ⟨h17_⟩
 have n18_ : Aside0 (Below w0.heap.size w0 w19) := ⟨h18_⟩
 clear HOz2 BKz1 BKz2 BKz0 HI0 HK HB h0_ h1_ h2_ h3_ h4_ h5_ h6_ h7_ h8_ h9_ h10_ h11_ h12_ h13_ h14_ h15_ h16_ h17_ h18_
 revert n0_ n1_ n2_ n3_ n4_ n5_ n6_ n7_ n8_ n9_ n10_ n11_ n12_ n13_ n14_ n15_ n16_ n17_ n18_; intro HOz2 HOz3 BKz1 BKz2 BKz0 BKz3 GWz0 GEz0 NBz11 NBz9 NBz6 NBz0 NBz5 NBz1 NBz4 NBz15 HI0 HK HB
 have hHeld : w19.cell? ⟨gbz3, 0, none⟩ = some (.int .i64 tz0) ∧ w19.cell? ⟨gbz3, 1, none⟩ = some (.int .i64 tz1) ∧ w19.cell? ⟨gbz3, 2, none⟩ = some (.int .i64 tz2) ∧ w19.cell? ⟨gbz3, 3, none⟩ = some (.slice Ao13 tz3.length co13) := hS_
 obtain ⟨Ao20, co20, eo20⟩ := Kd.R_slice HOz3.out
 (subst eo20)
 refine norm_ (a' := ?_) ?_ ?_
 rotate_left
 ·simp only [putAll, Act.put, List.setIfInBounds_toArray, List.set_cons_zero, List.set_cons_succ]
  rfl
 refine one_ (i := 11) (N := none) #[true, true, true, true, true, true, true, true, true, true, true, true] rfl rfl (one_of HT_.out (by kernel_rfl)) (by decide) (fun K hK => ?_)
 obtain ⟨hs21, hs22, hs23, hs24, hfs21, hfs22, hfs23, hfs24⟩ := c4 BKz3.out
 refine skip_ (w1 := ?_) (by rfl) rfl ?_ ?_
 rotate_left
 ·go_simp
  rfl
 refine hK.out _ _ ⟨(e4 NBz4.out hHeld.1), (e4 NBz4.out hHeld.2.1), (e4 NBz4.out hHeld.2.2.1), (e4 NBz4.out hHeld.2.2.2)⟩ (fun hHeld => ?_)
 clear hK K
 refine done_ (done_of HT_.out (by kernel_rfl)) ?_
 try go_wp2_with (first | ((with_reducible refine gate_callee (f := 82) rfl ?_); refine goesL_ (some 20) rfl rfl Try.func82 (by kernel_rfl) rfl #[.pointer (some ⟨g, 0, none⟩), .int .i64 6] rfl (by (try simp only [bitvec_to_nat]); rfl) ?_; (with_reducible refine (spec_reader_pick.calls k g s0_0 tz10 6 tz16 tz17 w0 _ ?side1 ?side2 A4.out).mono ?_); (case side1 => repeat (with_reducible first | exact HI0.out | refine IsS100.far ?_ NBz11.out _)); (case side2 => repeat (with_reducible first | exact HB.out | refine below_set ?_ GEz0.out)); rintro e w25 ⟨rfl, hi, hb, hk⟩; refine ⟨_, rfl, ?_⟩; replace BKz1 := mk (KeepBut.blk hk (g' := gbz1) (o := .cells #[.int .i64 0, .int .i64 0, .int .i64 0, .slice none 0 0] 28 (0, 0)) (by refine f4 ?_ NBz6.out; exact BKz1.out) NBz12.out (by simp)); replace BKz2 := mk (KeepBut.blk hk (g' := gbz2) (o := .cells #[.int .i64 0, .int .i64 0, .int .i64 0, .slice none 0 0] 28 (0, 0)) (by refine f4 ?_ NBz5.out; exact BKz2.out) NBz13.out (by simp)); replace HOz2 := mk (Kd.Q_mono (Kd.Q_keep (IsS100.apartQ (show IsS100 w0 _ g s0_0 tz10 from by repeat (with_reducible first | exact HI0.out | refine IsS100.far ?_ NBz11.out _)) (by exact (Kd.Q_mono (Q4 (Kd.Q_types HOz2.out BKz3.out (by decide)) (.int .i64 tz0) (.int .i64 tz1) (.int .i64 tz2) (.slice Ao20 tz8.length co20)) (fun _ h_ => h_.1))) (by decide)) hk (fun _ h => h.2)) (fun _ h => h.1)); replace BKz0 := mk (KeepBut.blk hk (g' := gbz3) (o := .cells #[.int .i64 tz0, .int .i64 tz1, .int .i64 tz2, .slice Ao13 tz3.length co13] 28 (0, 0)) (by refine f4 ?_ NBz4.out; exact BKz0.out) NBz16.out (by simp)); replace HOz3 := mk (Kd.R_mono (Kd.R_keep (IsS100.apart (show IsS100 w0 _ g s0_0 tz10 from by repeat (with_reducible first | exact HI0.out | refine IsS100.far ?_ NBz11.out _)) (by exact (Kd.R_mono (R4 (Kd.R_types HOz3.out BKz3.out (by decide)) (.int .i64 tz0) (.int .i64 tz1) (.int .i64 tz2) (.slice Ao20 tz8.length co20)) (fun _ h_ => h_.1))) (by decide)) hk (fun _ h => h.2)) (fun _ h => h.1)); replace BKz3 := mk (KeepBut.blk hk (g' := gbz0) (o := .cells #[.int .i64 tz0, .int .i64 tz1, .int .i64 tz2, .slice Ao20 tz8.length co20] 28 (0, 0)) (by refine p4 (.int .i64 0) (.int .i64 0) (.int .i64 0) (.slice none 0 0) ?_; exact BKz3.out) NBz9.out (by simp)); replace HK := mk (KeepBut.trans (by repeat (with_reducible first | exact HK.out | refine keep_far ?_ GWz0.out _)) hk (.inl rfl)); replace HB := mk (hb); replace HI0 := mk (hi); (try clear hb); (try clear hk); (try clear hi)))
 go_loopg [6] k (fun kq v6 w' => ∃ (x6_1 : Int) (x1001_1 : Int) (xz1 : List Int) (xz0 : List Int) (u55011003 : Value) (u55015003 : Value), v6 = .int .i64 x6_1 ∧ Aside0 (spec_twoImages.l0 kq x6_1 s0_0 x1001_1 tz0 tz1 tz2 xz1 tz0 tz1 tz2 xz0 = some (r1, r2, r3, r4, r5, r6, r7, r8, r9)) ∧ Aside0 (kq ≤ k) ∧ Aside0 (Kd.Q (Kd.int .i64) 3 w' w.heap.size (fun k_ => some k_ ≠ (u55015003 : Value).ownBlock) u55011003 xz1) ∧ Aside0 (Kd.Q (Kd.int .i64) 3 w' w.heap.size (fun k_ => some k_ ≠ (u55011003 : Value).ownBlock) u55015003 xz0) ∧ Aside0 (w'.heap[gbz1]? = some (.cells #[.int .i64 0, .int .i64 0, .int .i64 0, (.slice none 0 0)] 28 (0, 0))) ∧ Aside0 (w'.heap[gbz2]? = some (.cells #[.int .i64 0, .int .i64 0, .int .i64 0, (.slice none 0 0)] 28 (0, 0))) ∧ Aside0 (w'.heap[gbz3]? = some (.cells #[.int .i64 tz0, .int .i64 tz1, .int .i64 tz2, u55011003] 28 (0, 0))) ∧ Aside0 (w'.heap[gbz0]? = some (.cells #[.int .i64 tz0, .int .i64 tz1, .int .i64 tz2, u55015003] 28 (0, 0))) ∧ Aside0 (IsS100 w0 w' g s0_0 x1001_1) ∧ Aside0 (KeepBut w w' g none) ∧ Aside0 (Below w0.heap.size w0 w'))
 case atStart => exact ⟨(tz16), (tz17), (tz3), (tz8), (.slice Ao13 tz3.length co13), (.slice Ao20 tz8.length co20), (by rfl), H', ⟨Nat.le_refl _⟩, HOz2, ⟨Kd.Q_of_R HOz3.out⟩, BKz1, BKz2, BKz0, BKz3, HI0, HK, HB⟩
 case round =>
  clear H'
  obtain ⟨x6_1, x1001_1, xz1, xz0, u55011003, u55015003, rfl, HA, HK1, HOz1, HOz0, BKz1, BKz2, BKz0, BKz3, HI0, HK, HB⟩ := hrel
  cases gk with
  | zero => exact absurd HA.out (by simp [spec_twoImages.l0])
  | succ k1 =>
   have H := HA.out
   clear HA
   simp only [spec_twoImages.l0] at H
   have HC26 := mk H
   clear H
   go_upto_region 4 with (fail)
   go_cut [28] (fun v28 wc => ∃ (kq : Nat) (x28_25 : Bool), v28 = .bool x28_25 ∧ Aside0 (spec_twoImages.j1 kq x6_1 x28_25 s0_0 x1001_1 tz0 tz1 tz2 xz1 tz0 tz1 tz2 xz0 = some (r1, r2, r3, r4, r5, r6, r7, r8, r9)) ∧ Aside0 (kq ≤ k1) ∧ Aside0 (Kd.Q (Kd.int .i64) 3 wc w.heap.size (fun k_ => some k_ ≠ (u55015003 : Value).ownBlock) u55011003 xz1) ∧ Aside0 (Kd.Q (Kd.int .i64) 3 wc w.heap.size (fun k_ => some k_ ≠ (u55011003 : Value).ownBlock) u55015003 xz0) ∧ Aside0 (wc.heap[gbz1]? = some (.cells #[.int .i64 0, .int .i64 0, .int .i64 0, (.slice none 0 0)] 28 (0, 0))) ∧ Aside0 (wc.heap[gbz2]? = some (.cells #[.int .i64 0, .int .i64 0, .int .i64 0, (.slice none 0 0)] 28 (0, 0))) ∧ Aside0 (wc.heap[gbz3]? = some (.cells #[.int .i64 tz0, .int .i64 tz1, .int .i64 tz2, u55011003] 28 (0, 0))) ∧ Aside0 (wc.heap[gbz0]? = some (.cells #[.int .i64 tz0, .int .i64 tz1, .int .i64 tz2, u55015003] 28 (0, 0))) ∧ Aside0 (IsS100 w0 wc g s0_0 x1001_1) ∧ Aside0 (KeepBut w wc g none) ∧ Aside0 (Below w0.heap.size w0 wc))
   case first =>
    have H := HC26.out
    clear HC26
    by_cases c27 : x6_1 > 0
    ·rw [if_pos c27] at H
     have c27b0 : decide (0 < x6_1) = true := decide_eq_true c27
     clear c27
     (skip)
     have H' := mk H
     clear H
     have hcz32_3 : wr.cell? ⟨gbz0, 3, none⟩ = some u55015003 := (blk_cell BKz3.out 3).trans rfl
     obtain ⟨Ao33, co33, eo33, _⟩ := Kd.Q_slice HOz0.out
     subst eo33
     go_wp2
     go_meet
     case rel => exact ⟨_, (decide ((xz0.length : Int) > 0)), (by (simp; done)), H', ⟨by have := HK1.out; omega⟩, HOz1, HOz0, BKz1, BKz2, BKz0, BKz3, HI0, HK, HB⟩
    rw [if_neg c27] at H
    have c27b0 : decide (0 < x6_1) = false := decide_eq_false c27
    clear c27
    (skip)
    have H' := mk H
    clear H
    go_wp2
    go_meet
    case rel => exact ⟨_, (false), (by rfl), H', ⟨by have := HK1.out; omega⟩, HOz1, HOz0, BKz1, BKz2, BKz0, BKz3, HI0, HK, HB⟩
   case rest =>
    clear HC26
    obtain ⟨kq, x28_25, rfl, HA, HJ25, HOz1, HOz0, BKz1, BKz2, BKz0, BKz3, HI0, HK, HB⟩ := hcut
    cases kq with
    | zero => exact absurd HA.out (by simp [spec_twoImages.j1])
    | succ kj25 =>
     have H := HA.out
     clear HA
     simp only [spec_twoImages.j1] at H
     by_cases c34 : x28_25 = true
     ·subst c34
      have H1 : ((spec_reader_pick.f kj25 s0_0 x1001_1 (xz0.length : Int)).bind fun btz3 => ((spec_reader_pick.f kj25 s0_0 btz3.2 256).bind fun btz4 => (if 0 ≤ btz3.1 then (if btz3.1 < (xz0.length : Int) then (spec_twoImages.l0 kj25 (wrap64 (x6_1 - 1)) s0_0 btz4.2 tz0 tz1 tz2 xz1 tz0 tz1 tz2 (xz0.set (btz3.1 : Int).toNat btz4.1)) else none) else none))) = some (r1, r2, r3, r4, r5, r6, r7, r8, r9) := by rw [if_pos rfl] at H; exact H
      clear H
      have H := H1
      clear H1
      replace H := Option.bind_eq_some_iff.mp H
      obtain ⟨⟨tz9, tz13⟩, A350, H⟩ := H
      replace H : ((spec_reader_pick.f kj25 s0_0 tz13 256).bind fun btz4 => (if 0 ≤ tz9 then (if tz9 < (xz0.length : Int) then (spec_twoImages.l0 kj25 (wrap64 (x6_1 - 1)) s0_0 btz4.2 tz0 tz1 tz2 xz1 tz0 tz1 tz2 (xz0.set (tz9 : Int).toNat btz4.1)) else none) else none)) = some (r1, r2, r3, r4, r5, r6, r7, r8, r9) := H
      have A35 := mk A350
      clear A350
      replace H := Option.bind_eq_some_iff.mp H
      obtain ⟨⟨tz14, tz15⟩, A360, H⟩ := H
      replace H : (if 0 ≤ tz9 then (if tz9 < (xz0.length : Int) then (spec_twoImages.l0 kj25 (wrap64 (x6_1 - 1)) s0_0 tz15 tz0 tz1 tz2 xz1 tz0 tz1 tz2 (xz0.set (tz9 : Int).toNat tz14)) else none) else none) = some (r1, r2, r3, r4, r5, r6, r7, r8, r9) := H
      have A36 := mk A360
      clear A360
      by_cases c37 : 0 ≤ tz9
      ·rw [if_pos c37] at H
       have c37b0 : decide (0 ≤ tz9) = true := decide_eq_true c37
       clear c37
       by_cases c38 : tz9 < (xz0.length : Int)
       ·rw [if_pos c38] at H
        have c38b0 : decide (tz9 < (xz0.length : Int)) = true := decide_eq_true c38
        clear c38
        obtain ⟨yz0, hyz0⟩ : ∃ y_ : List Int, y_ = (xz0.set (tz9 : Int).toNat tz14) := ⟨_, rfl⟩
        replace H : (spec_twoImages.l0 kj25 (wrap64 (x6_1 - 1)) s0_0 tz15 tz0 tz1 tz2 xz1 tz0 tz1 tz2 yz0) = some (r1, r2, r3, r4, r5, r6, r7, r8, r9) := by (rw [hyz0]; with_reducible exact H)
        have Nyz0 := mk hyz0
        clear hyz0
        have H' := mk H
        clear H
        try go_wp2
        replace HOz1 := mk (Kd.Q_drew HOz1.out)
        replace HOz0 := mk (Kd.Q_drew HOz0.out)
        replace BKz1 := mk (blk_drew BKz1.out)
        replace BKz2 := mk (blk_drew BKz2.out)
        replace BKz0 := mk (blk_drew BKz0.out)
        replace BKz3 := mk (blk_drew BKz3.out)
        replace HI0 := mk (IsS100.drew HI0.out)
        replace HK := mk (keep_drew HK.out)
        replace HB := mk (below_drew1 HB.out)
        obtain ⟨Ao41, co41, eo41, _⟩ := Kd.Q_slice HOz0.out
        (subst eo41)
        refine start_ (n := 11) (S := fun w' => w'.cell? ⟨gbz0, 0, none⟩ = some (.int .i64 tz0) ∧ w'.cell? ⟨gbz0, 1, none⟩ = some (.int .i64 tz1) ∧ w'.cell? ⟨gbz0, 2, none⟩ = some (.int .i64 tz2) ∧ w'.cell? ⟨gbz0, 3, none⟩ = some (.slice Ao41 xz0.length co41)) (ds := [10]) #[false, false, false, false, false, false, false, false, false, false, false] (by kernel_rfl) rfl rfl ⟨blk_cell BKz3.out 0, blk_cell BKz3.out 1, blk_cell BKz3.out 2, blk_cell BKz3.out 3⟩ (fun hHeld => ?_); refine with_tabW spec_twoImages.tab6 spec_twoImages.bits6 (fun HT_ HW_ => ?_)
        generalize wc.drew = w40 at HOz1 HOz0 BKz1 BKz2 BKz0 BKz3 HI0 HK HB hHeld ⊢
        refine pu 0 31 ?_ ?_ rfl rfl (any_of HT_.out (by kernel_rfl)) (Or.inl ⟨by rfl, ?_⟩) ?_ ?_
        rotate_left 2
        ·intro w'
         go_simp
         with_reducible rfl
        ·simp only [seval]
         rfl
        refine pu 2 33 ?_ ?_ rfl rfl (any_of HT_.out (by kernel_rfl)) (Or.inl ⟨by rfl, ?_⟩) ?_ ?_
        rotate_left 2
        ·intro w'
         go_simp
         with_reducible rfl
        ·simp only [seval]
         rfl
        refine pu 3 34 ?_ ?_ rfl rfl (any_of HT_.out (by kernel_rfl)) (Or.inl ⟨by rfl, ?_⟩) ?_ ?_
        rotate_left 2
        ·intro w'
         go_simp
         with_reducible rfl
        ·simp only [seval]
         rfl
        refine pu 7 38 ?_ ?_ rfl rfl (any_of HT_.out (by kernel_rfl)) (Or.inl ⟨by rfl, ?_⟩) ?_ ?_
        rotate_left 2
        ·intro w'
         go_simp
         with_reducible rfl
        ·simp only [seval]
         rfl
        refine tk 1 32 ?_ ?_ rfl rfl (take_ofW HT_.out HW_.out (by kernel_rfl)) (Or.inl ⟨by rfl, ?_⟩) hHeld ?_ ?_
        rotate_left 2
        ·rintro w' ⟨s0, s1, s2, s3⟩
         go_simp
         with_reducible rfl
        ·simp only [seval]
         rfl
        refine tk 4 35 ?_ ?_ rfl rfl (take_ofW HT_.out HW_.out (by kernel_rfl)) (Or.inl ⟨by rfl, ?_⟩) hHeld ?_ ?_
        rotate_left 2
        ·rintro w' ⟨s0, s1, s2, s3⟩
         go_simp
         with_reducible rfl
        ·simp only [seval]
         rfl
        refine pu 5 36 ?_ ?_ rfl rfl (any_of HT_.out (by kernel_rfl)) (Or.inl ⟨by rfl, ?_⟩) ?_ ?_
        rotate_left 2
        ·intro w'
         go_simp
         with_reducible rfl
        ·simp only [seval]
         rfl
        refine one_ (i := 6) (N := some 37) #[true, true, true, true, true, true, true, true, false, false, false] rfl rfl (one_of HT_.out (by kernel_rfl)) (by decide) (fun K hK => ?_)
        refine goes_ Try.func82 (by kernel_rfl) rfl #[.pointer (some ⟨g, 0, none⟩), .int .i64 (xz0.length : Int)] (by rfl) rfl rfl (by (try simp only [bitvec_to_nat]); rfl) ?_
        with_reducible refine (spec_reader_pick.calls kj25 g s0_0 x1001_1 (xz0.length : Int) tz9 tz13 w0 _ ?side1 ?side2 A35.out).mono ?_
        (case side1 => repeat (with_reducible exact HI0.out))
        (case side2 => repeat (with_reducible exact HB.out))
        rintro e w42 ⟨rfl, hi, hb, hk⟩
        refine ⟨_, rfl, ?_⟩
        replace HOz1 := mk (Kd.Q_mono (Kd.Q_keep (IsS100.apartQ (show IsS100 w0 _ g s0_0 x1001_1 from by exact HI0.out) HOz1.out (by decide)) hk (fun _ h => h.2)) (fun _ h => h.1))
        replace HOz0 := mk (Kd.Q_mono (Kd.Q_keep (IsS100.apartQ (show IsS100 w0 _ g s0_0 x1001_1 from by exact HI0.out) HOz0.out (by decide)) hk (fun _ h => h.2)) (fun _ h => h.1))
        replace BKz1 := mk (KeepBut.blk hk (g' := gbz1) (o := .cells #[.int .i64 0, .int .i64 0, .int .i64 0, .slice none 0 0] 28 (0, 0)) BKz1.out NBz12.out (by simp))
        replace BKz2 := mk (KeepBut.blk hk (g' := gbz2) (o := .cells #[.int .i64 0, .int .i64 0, .int .i64 0, .slice none 0 0] 28 (0, 0)) BKz2.out NBz13.out (by simp))
        replace BKz0 := mk (KeepBut.blk hk (g' := gbz3) (o := .cells #[.int .i64 tz0, .int .i64 tz1, .int .i64 tz2, u55011003] 28 (0, 0)) BKz0.out NBz16.out (by simp))
        replace BKz3 := mk (KeepBut.blk hk (g' := gbz0) (o := .cells #[.int .i64 tz0, .int .i64 tz1, .int .i64 tz2, .slice Ao41 xz0.length co41] 28 (0, 0)) BKz3.out NBz9.out (by simp))
        replace HK := mk (KeepBut.trans HK.out hk (.inl rfl))
        replace HB := mk (hb)
        replace HI0 := mk (hi)
        (try clear hb)
        (try clear hk)
        (try clear hi)
        refine hK.out _ _ ⟨blk_cell BKz3.out 0, blk_cell BKz3.out 1, blk_cell BKz3.out 2, blk_cell BKz3.out 3⟩ (fun hHeld => ?_)
        clear hK K
        refine norm_ (a' := ?_) ?_ ?_
        rotate_left
        ·show Act.put _ (some 37) _ = _
         simp only [seval]
         rfl
        refine one_ (i := 8) (N := some 39) #[true, true, true, true, true, true, true, true, true, false, false] rfl rfl (one_of HT_.out (by kernel_rfl)) (by decide) (fun K hK => ?_)
        refine goes_ Try.func82 (by kernel_rfl) rfl #[.pointer (some ⟨g, 0, none⟩), .int .i64 256] (by rfl) rfl rfl (by (try simp only [bitvec_to_nat]); rfl) ?_
        with_reducible refine (spec_reader_pick.calls kj25 g s0_0 tz13 256 tz14 tz15 w0 _ ?side1 ?side2 A36.out).mono ?_
        (case side1 => repeat (with_reducible exact HI0.out))
        (case side2 => repeat (with_reducible exact HB.out))
        rintro e w43 ⟨rfl, hi, hb, hk⟩
        refine ⟨_, rfl, ?_⟩
        replace HOz1 := mk (Kd.Q_mono (Kd.Q_keep (IsS100.apartQ (show IsS100 w0 _ g s0_0 tz13 from by exact HI0.out) HOz1.out (by decide)) hk (fun _ h => h.2)) (fun _ h => h.1))
        replace HOz0 := mk (Kd.Q_mono (Kd.Q_keep (IsS100.apartQ (show IsS100 w0 _ g s0_0 tz13 from by exact HI0.out) HOz0.out (by decide)) hk (fun _ h => h.2)) (fun _ h => h.1))
        replace BKz1 := mk (KeepBut.blk hk (g' := gbz1) (o := .cells #[.int .i64 0, .int .i64 0, .int .i64 0, .slice none 0 0] 28 (0, 0)) BKz1.out NBz12.out (by simp))
        replace BKz2 := mk (KeepBut.blk hk (g' := gbz2) (o := .cells #[.int .i64 0, .int .i64 0, .int .i64 0, .slice none 0 0] 28 (0, 0)) BKz2.out NBz13.out (by simp))
        replace BKz0 := mk (KeepBut.blk hk (g' := gbz3) (o := .cells #[.int .i64 tz0, .int .i64 tz1, .int .i64 tz2, u55011003] 28 (0, 0)) BKz0.out NBz16.out (by simp))
        replace BKz3 := mk (KeepBut.blk hk (g' := gbz0) (o := .cells #[.int .i64 tz0, .int .i64 tz1, .int .i64 tz2, .slice Ao41 xz0.length co41] 28 (0, 0)) BKz3.out NBz9.out (by simp))
        replace HK := mk (KeepBut.trans HK.out hk (.inl rfl))
        replace HB := mk (hb)
        replace HI0 := mk (hi)
        (try clear hb)
        (try clear hk)
        (try clear hi)
        have p39 : 0 ≤ (tz9 : Int) := of_decide_eq_true (by (with_reducible assumption))
        have q39 : (tz9 : Int) < ((xz0.length : Int) : Int) := of_decide_eq_true (by (with_reducible assumption))
        obtain ⟨go39, oo39, co39, eo39, gb39, gl39, cl39, HG39⟩ := Kd.Q_form HOz0.out (by omega)
        (cases eo39)
        have GB39 := mk gb39
        clear gb39 gl39 HG39
        obtain ⟨hx39_0, hf39_0⟩ := Kd.Q_cell 0 HOz0.out (tz9 : Int) p39 q39
        replace p39 := eq_true p39
        replace q39 := eq_true q39
        have HN0_go39 := mk (show g ≠ go39 from by have h_ := IsS100.own_neQ HI0.out HOz0.out (by decide); intro e_; exact h_ (by rw [e_]; rfl))
        have HP44 := (Kd.Q_putg HOz0.out (tz9 : Int) (of_decide_eq_true (by (with_reducible assumption))) (by have h_ : (tz9 : Int) < ((xz0.length : Int) : Int) := of_decide_eq_true (by (with_reducible assumption)); exact h_) tz14).1
        rw [← Nyz0.out] at HP44
        have HQ44 := mk HP44
        clear HP44
        refine hK.out _ _ ⟨blk_cell BKz3.out 0, blk_cell BKz3.out 1, blk_cell BKz3.out 2, blk_cell BKz3.out 3⟩ (fun hHeld => ?_)
        clear hK K
        refine norm_ (a' := ?_) ?_ ?_
        rotate_left
        ·show Act.put _ (some 39) _ = _
         simp only [seval]
         rfl
        refine pu 9 40 ?_ ?_ rfl rfl (any_of HT_.out (by kernel_rfl)) (Or.inl ⟨by rfl, ?_⟩) ?_ ?_
        rotate_left 2
        ·intro w'
         go_simp
         with_reducible rfl
        ·simp only [seval]
         rfl
        refine last_ (i := 10) (N := none) #[true, true, true, true, true, true, true, true, true, true, true] rfl rfl (one_of HT_.out (by kernel_rfl)) (by decide) (fun K hK => ?_)
        refine skip_ (w1 := ?_) (by rfl) rfl ?_ ?_
        rotate_left
        ·go_simp
         rfl
        refine hK.out _ _ ?_
        clear hK K
        refine done_ (done_of HT_.out (by kernel_rfl)) ?_
        try go_wp2
        go_roundg kj25
        case measure => have := HK1.out; have := HJ25.out; omega
        case rel => exact ⟨(wrap64 (x6_1 - 1)), (tz15), (xz1), (yz0), (u55011003), (.slice (some ⟨go39, oo39, none⟩) xz0.length co41), (by rfl), H', ⟨by have := HK1.out; have := HJ25.out; omega⟩, ⟨by exact Kd.Q_mono (Kd.Q_far (p := ⟨go39, oo39 + (tz9 : Int).toNat, none⟩) (Kd.Q_mono HOz1.out (fun k_ hk => (⟨hk, fun e_ => hk (by rw [e_]; rfl)⟩ : _ ∧ k_ ≠ go39))) (fun _ hk => hk.2) (.int .i64 tz14)) (fun _ hk => hk.1)⟩, HQ44, ⟨by refine blk_far ?_ (by have h_ := Kd.Q_ne HOz0.out BKz1.out (by decide); intro e_; exact h_ (by rw [e_]; rfl)) _; exact BKz1.out⟩, ⟨by refine blk_far ?_ (by have h_ := Kd.Q_ne HOz0.out BKz2.out (by decide); intro e_; exact h_ (by rw [e_]; rfl)) _; exact BKz2.out⟩, ⟨by refine blk_far ?_ (by have h_ := Kd.Q_ne HOz0.out BKz0.out (by decide); intro e_; exact h_ (by rw [e_]; rfl)) _; exact BKz0.out⟩, ⟨by refine blk_far ?_ (by have h_ := Kd.Q_ne HOz0.out BKz3.out (by decide); intro e_; exact h_ (by rw [e_]; rfl)) _; exact BKz3.out⟩, ⟨by repeat (with_reducible first | exact HI0.out | refine IsS100.far ?_ HN0_go39.out _)⟩, ⟨by repeat (with_reducible first | exact HK.out | refine keep_far ?_ GB39.out _)⟩, ⟨by repeat ((with_reducible first | exact HB.out | refine below_set ?_ (Nat.le_trans HL.out GB39.out)))⟩⟩
       rw [if_neg c38] at H
       exact absurd H (by simp)
      rw [if_neg c37] at H
      exact absurd H (by simp)
     replace c34 := Bool.eq_false_iff.mpr c34
     subst c34
     have H1 : ((spec_reader_pick.f kj25 s0_0 x1001_1 16).bind fun btz5 => (if btz5.1 = 0 then ((spec_anyImage.f kj25 s0_0 btz5.2).bind fun btz1 => (some (tz0, tz1, tz2, xz1, btz1.1, btz1.2.1, btz1.2.2.1, btz1.2.2.2.1, btz1.2.2.2.2))) else (some (tz0, tz1, tz2, xz1, tz0, tz1, tz2, xz0, btz5.2)))) = some (r1, r2, r3, r4, r5, r6, r7, r8, r9) := by rw [if_neg (show ¬ (false = true) by decide)] at H; exact H
     clear H
     have H := H1
     clear H1
     replace H := Option.bind_eq_some_iff.mp H
     obtain ⟨⟨tz12, tz11⟩, A450, H⟩ := H
     replace H : (if tz12 = 0 then ((spec_anyImage.f kj25 s0_0 tz11).bind fun btz1 => (some (tz0, tz1, tz2, xz1, btz1.1, btz1.2.1, btz1.2.2.1, btz1.2.2.2.1, btz1.2.2.2.2))) else (some (tz0, tz1, tz2, xz1, tz0, tz1, tz2, xz0, tz11))) = some (r1, r2, r3, r4, r5, r6, r7, r8, r9) := H
     have A45 := mk A450
     clear A450
     by_cases c46 : tz12 = 0
     ·rw [if_pos c46] at H
      have c46b0 : (tz12 == 0) = true := beq_iff_eq.mpr c46
      clear c46
      replace H := Option.bind_eq_some_iff.mp H
      obtain ⟨⟨tz4, tz5, tz7, tz6, tz18⟩, A470, H⟩ := H
      replace H : (some (tz0, tz1, tz2, xz1, tz4, tz5, tz7, tz6, tz18)) = some (r1, r2, r3, r4, r5, r6, r7, r8, r9) := H
      have A47 := mk A470
      clear A470
      simp only [Option.some.injEq, Prod.mk.injEq] at H
      obtain ⟨rfl, rfl, rfl, rfl, rfl, rfl, rfl, rfl, rfl⟩ := H
      try go_wp2_with (first | ((with_reducible refine gate_callee (f := 82) rfl ?_); refine goesL_ (some 42) rfl rfl Try.func82 (by kernel_rfl) rfl #[.pointer (some ⟨g, 0, none⟩), .int .i64 16] rfl (by (try simp only [bitvec_to_nat]); rfl) ?_; (with_reducible refine (spec_reader_pick.calls kj25 g s0_0 x1001_1 16 tz12 tz11 w0 _ ?side1 ?side2 A45.out).mono ?_); (case side1 => repeat (with_reducible exact HI0.out)); (case side2 => repeat (with_reducible exact HB.out)); rintro e w48 ⟨rfl, hi, hb, hk⟩; refine ⟨_, rfl, ?_⟩; replace HOz1 := mk (Kd.Q_mono (Kd.Q_keep (IsS100.apartQ (show IsS100 w0 _ g s0_0 x1001_1 from by exact HI0.out) HOz1.out (by decide)) hk (fun _ h => h.2)) (fun _ h => h.1)); replace HOz0 := mk (Kd.Q_mono (Kd.Q_keep (IsS100.apartQ (show IsS100 w0 _ g s0_0 x1001_1 from by exact HI0.out) HOz0.out (by decide)) hk (fun _ h => h.2)) (fun _ h => h.1)); replace BKz1 := mk (KeepBut.blk hk (g' := gbz1) (o := .cells #[.int .i64 0, .int .i64 0, .int .i64 0, .slice none 0 0] 28 (0, 0)) BKz1.out NBz12.out (by simp)); replace BKz2 := mk (KeepBut.blk hk (g' := gbz2) (o := .cells #[.int .i64 0, .int .i64 0, .int .i64 0, .slice none 0 0] 28 (0, 0)) BKz2.out NBz13.out (by simp)); replace BKz0 := mk (KeepBut.blk hk (g' := gbz3) (o := .cells #[.int .i64 tz0, .int .i64 tz1, .int .i64 tz2, u55011003] 28 (0, 0)) BKz0.out NBz16.out (by simp)); replace BKz3 := mk (KeepBut.blk hk (g' := gbz0) (o := .cells #[.int .i64 tz0, .int .i64 tz1, .int .i64 tz2, u55015003] 28 (0, 0)) BKz3.out NBz9.out (by simp)); replace HK := mk (KeepBut.trans HK.out hk (.inl rfl)); replace HB := mk (hb); replace HI0 := mk (hi); (try clear hb); (try clear hk); (try clear hi)) | ((with_reducible refine gate_callee (f := 72) rfl ?_); refine goesL_ (some 45) rfl rfl Try.func72 (by kernel_rfl) rfl #[.pointer (some ⟨g, 0, none⟩)] rfl (by (try simp only [bitvec_to_nat]); rfl) ?_; (with_reducible refine (spec_anyImage.calls kj25 g s0_0 tz11 tz4 tz5 tz7 tz6 tz18 w0 _ ?side1 ?side2 A47.out).mono ?_); (case side1 => repeat (with_reducible exact HI0.out)); (case side2 => repeat (with_reducible exact HB.out)); rintro e w49 ⟨vz2, rfl, ho0, hi, hb, hk⟩; refine ⟨_, rfl, ?_⟩; replace BKz1 := mk (KeepBut.blk hk (g' := gbz1) (o := .cells #[.int .i64 0, .int .i64 0, .int .i64 0, .slice none 0 0] 28 (0, 0)) BKz1.out NBz12.out (by simp)); replace BKz2 := mk (KeepBut.blk hk (g' := gbz2) (o := .cells #[.int .i64 0, .int .i64 0, .int .i64 0, .slice none 0 0] 28 (0, 0)) BKz2.out NBz13.out (by simp)); replace BKz0 := mk (KeepBut.blk hk (g' := gbz3) (o := .cells #[.int .i64 tz0, .int .i64 tz1, .int .i64 tz2, u55011003] 28 (0, 0)) BKz0.out NBz16.out (by simp)); replace BKz3 := mk (KeepBut.blk hk (g' := gbz0) (o := .cells #[.int .i64 tz0, .int .i64 tz1, .int .i64 tz2, u55015003] 28 (0, 0)) BKz3.out NBz9.out (by simp)); have HOz4 := mk (Kd.Q_lower (Kd.Q_new' (Kd.Q_new' ho0 (Kd.Q_lt HOz1.out)) (Kd.Q_lt HOz0.out)) (keep_size (w := w) (g := g) (row := none) HK.out)); replace HOz1 := mk (Kd.Q_mono (Kd.Q_told (Kd.Q_oldK (IsS100.apartQ (show IsS100 w0 _ g s0_0 tz11 from by exact HI0.out) HOz1.out (by decide)) hk) (Kd.Q_base ho0)) (fun _ h_ => h_.1)); replace HOz0 := mk (Kd.Q_mono (Kd.Q_told (Kd.Q_oldK (IsS100.apartQ (show IsS100 w0 _ g s0_0 tz11 from by exact HI0.out) HOz0.out (by decide)) hk) (Kd.Q_base ho0)) (fun _ h_ => h_.1)); replace HK := mk (KeepBut.trans HK.out hk (.inl rfl)); replace HB := mk (hb); replace HI0 := mk (hi); (try clear hb); (try clear hk); (try clear hi); (try clear ho0); obtain ⟨hcz54_0, hcz54_1, hcz54_2, -⟩ := c4 BKz3.out; have hcz54_3 : w49.cell? ⟨gbz0, 3, none⟩ = some u55015003 := (blk_cell BKz3.out 3).trans rfl; obtain ⟨-, -, -, -, hfz54_0, hfz54_1, hfz54_2, hfz54_3⟩ := c4 BKz3.out; obtain ⟨Ao55, co55, eo55, _⟩ := Kd.Q_slice HOz4.out; subst eo55))
      have n0_ : Aside0 (Kd.Q (Kd.int .i64) 3 ((((w49.setCell ⟨gbz0, 0, none⟩ (.int .i64 tz4)).setCell ⟨gbz0, 1, none⟩ (.int .i64 tz5)).setCell ⟨gbz0, 2, none⟩ (.int .i64 tz7)).setCell ⟨gbz0, 3, none⟩ (.slice Ao55 tz6.length co55)) w.heap.size (fun k_ => some k_ ≠ (u55015003 : Value).ownBlock ∧ some k_ ≠ (.slice Ao55 tz6.length co55 : Value).ownBlock) u55011003 xz1) := ⟨by exact Kd.Q_mono (Q4 (Kd.Q_types HOz1.out BKz3.out (by decide)) (.int .i64 tz4) (.int .i64 tz5) (.int .i64 tz7) (.slice Ao55 tz6.length co55)) (fun _ hk => ⟨hk.1.1, hk.1.2⟩)⟩
      have n1_ : Aside0 (Kd.Q (Kd.int .i64) 3 ((((w49.setCell ⟨gbz0, 0, none⟩ (.int .i64 tz4)).setCell ⟨gbz0, 1, none⟩ (.int .i64 tz5)).setCell ⟨gbz0, 2, none⟩ (.int .i64 tz7)).setCell ⟨gbz0, 3, none⟩ (.slice Ao55 tz6.length co55)) w.heap.size (fun k_ => some k_ ≠ (u55011003 : Value).ownBlock ∧ some k_ ≠ (.slice Ao55 tz6.length co55 : Value).ownBlock) u55015003 xz0) := ⟨by exact Kd.Q_mono (Q4 (Kd.Q_types HOz0.out BKz3.out (by decide)) (.int .i64 tz4) (.int .i64 tz5) (.int .i64 tz7) (.slice Ao55 tz6.length co55)) (fun _ hk => ⟨hk.1.1, hk.1.2⟩)⟩
      have n2_ : Aside0 (Kd.Q (Kd.int .i64) 3 ((((w49.setCell ⟨gbz0, 0, none⟩ (.int .i64 tz4)).setCell ⟨gbz0, 1, none⟩ (.int .i64 tz5)).setCell ⟨gbz0, 2, none⟩ (.int .i64 tz7)).setCell ⟨gbz0, 3, none⟩ (.slice Ao55 tz6.length co55)) w.heap.size (fun k_ => some k_ ≠ (u55011003 : Value).ownBlock ∧ some k_ ≠ (u55015003 : Value).ownBlock) (.slice Ao55 tz6.length co55) tz6) := ⟨by exact Kd.Q_mono (Q4 (Kd.Q_types HOz4.out BKz3.out (by decide)) (.int .i64 tz4) (.int .i64 tz5) (.int .i64 tz7) (.slice Ao55 tz6.length co55)) (fun _ hk => ⟨hk.1.1.2, hk.1.2⟩)⟩
      have n3_ : Aside0 (((((w49.setCell ⟨gbz0, 0, none⟩ (.int .i64 tz4)).setCell ⟨gbz0, 1, none⟩ (.int .i64 tz5)).setCell ⟨gbz0, 2, none⟩ (.int .i64 tz7)).setCell ⟨gbz0, 3, none⟩ (.slice Ao55 tz6.length co55)).heap[gbz1]? = some (.cells #[.int .i64 0, .int .i64 0, .int .i64 0, .slice none 0 0] 28 (0, 0))) := ⟨by refine f4 ?_ NBz6.out; exact BKz1.out⟩
      have n4_ : Aside0 (((((w49.setCell ⟨gbz0, 0, none⟩ (.int .i64 tz4)).setCell ⟨gbz0, 1, none⟩ (.int .i64 tz5)).setCell ⟨gbz0, 2, none⟩ (.int .i64 tz7)).setCell ⟨gbz0, 3, none⟩ (.slice Ao55 tz6.length co55)).heap[gbz2]? = some (.cells #[.int .i64 0, .int .i64 0, .int .i64 0, .slice none 0 0] 28 (0, 0))) := ⟨by refine f4 ?_ NBz5.out; exact BKz2.out⟩
      have n5_ : Aside0 (((((w49.setCell ⟨gbz0, 0, none⟩ (.int .i64 tz4)).setCell ⟨gbz0, 1, none⟩ (.int .i64 tz5)).setCell ⟨gbz0, 2, none⟩ (.int .i64 tz7)).setCell ⟨gbz0, 3, none⟩ (.slice Ao55 tz6.length co55)).heap[gbz3]? = some (.cells #[.int .i64 tz0, .int .i64 tz1, .int .i64 tz2, u55011003] 28 (0, 0))) := ⟨by refine f4 ?_ NBz4.out; exact BKz0.out⟩
      have n6_ : Aside0 (((((w49.setCell ⟨gbz0, 0, none⟩ (.int .i64 tz4)).setCell ⟨gbz0, 1, none⟩ (.int .i64 tz5)).setCell ⟨gbz0, 2, none⟩ (.int .i64 tz7)).setCell ⟨gbz0, 3, none⟩ (.slice Ao55 tz6.length co55)).heap[gbz0]? = some (.cells #[.int .i64 tz4, .int .i64 tz5, .int .i64 tz7, .slice Ao55 tz6.length co55] 28 (0, 0))) := ⟨by refine p4 (.int .i64 tz0) (.int .i64 tz1) (.int .i64 tz2) u55015003 ?_; exact BKz3.out⟩
      have n7_ : Aside0 (IsS100 w0 ((((w49.setCell ⟨gbz0, 0, none⟩ (.int .i64 tz4)).setCell ⟨gbz0, 1, none⟩ (.int .i64 tz5)).setCell ⟨gbz0, 2, none⟩ (.int .i64 tz7)).setCell ⟨gbz0, 3, none⟩ (.slice Ao55 tz6.length co55)) g s0_0 tz18) := ⟨by repeat (with_reducible first | exact HI0.out | refine IsS100.far ?_ NBz11.out _)⟩
      have n8_ : Aside0 (KeepBut w ((((w49.setCell ⟨gbz0, 0, none⟩ (.int .i64 tz4)).setCell ⟨gbz0, 1, none⟩ (.int .i64 tz5)).setCell ⟨gbz0, 2, none⟩ (.int .i64 tz7)).setCell ⟨gbz0, 3, none⟩ (.slice Ao55 tz6.length co55)) g none) := ⟨by repeat (with_reducible first | exact HK.out | refine keep_far ?_ GWz0.out _)⟩
      have n9_ : Aside0 (Below w0.heap.size w0 ((((w49.setCell ⟨gbz0, 0, none⟩ (.int .i64 tz4)).setCell ⟨gbz0, 1, none⟩ (.int .i64 tz5)).setCell ⟨gbz0, 2, none⟩ (.int .i64 tz7)).setCell ⟨gbz0, 3, none⟩ (.slice Ao55 tz6.length co55))) := ⟨by repeat (with_reducible first | exact HB.out | refine below_set ?_ GEz0.out)⟩
      (try clear HOz1)
      (try clear HOz0)
      (try clear HOz4)
      (try clear BKz1)
      (try clear BKz2)
      (try clear BKz0)
      (try clear BKz3)
      (try clear HI0)
      (try clear HK)
      (try clear HB)
      generalize ((((w49.setCell ⟨gbz0, 0, none⟩ (.int .i64 tz4)).setCell ⟨gbz0, 1, none⟩ (.int .i64 tz5)).setCell ⟨gbz0, 2, none⟩ (.int .i64 tz7)).setCell ⟨gbz0, 3, none⟩ (.slice Ao55 tz6.length co55)) = w56 at n0_ n1_ n2_ n3_ n4_ n5_ n6_ n7_ n8_ n9_ ⊢
      revert n0_ n1_ n2_ n3_ n4_ n5_ n6_ n7_ n8_ n9_; intro HOz1 HOz0 HOz4 BKz1 BKz2 BKz0 BKz3 HI0 HK HB
      replace HOz1 := mk (Kd.Q_drew HOz1.out)
      replace HOz0 := mk (Kd.Q_drew HOz0.out)
      replace HOz4 := mk (Kd.Q_drew HOz4.out)
      replace BKz1 := mk (blk_drew BKz1.out)
      replace BKz2 := mk (blk_drew BKz2.out)
      replace BKz0 := mk (blk_drew BKz0.out)
      replace BKz3 := mk (blk_drew BKz3.out)
      replace HI0 := mk (IsS100.drew HI0.out)
      replace HK := mk (keep_drew HK.out)
      replace HB := mk (below_drew1 HB.out)
      obtain ⟨Ao61, co61, eo61, _⟩ := Kd.Q_slice HOz1.out
      (subst eo61)
      refine start_ (n := 4) (S := fun w' => w'.cell? ⟨gbz3, 0, none⟩ = some (.int .i64 tz0) ∧ w'.cell? ⟨gbz3, 1, none⟩ = some (.int .i64 tz1) ∧ w'.cell? ⟨gbz3, 2, none⟩ = some (.int .i64 tz2) ∧ w'.cell? ⟨gbz3, 3, none⟩ = some (.slice Ao61 xz1.length co61) ∧ w'.cell? ⟨gbz0, 0, none⟩ = some (.int .i64 tz4) ∧ w'.cell? ⟨gbz0, 1, none⟩ = some (.int .i64 tz5) ∧ w'.cell? ⟨gbz0, 2, none⟩ = some (.int .i64 tz7) ∧ w'.cell? ⟨gbz0, 3, none⟩ = some (.slice Ao55 tz6.length co55)) (ds := []) #[false, false, false, false] (by kernel_rfl) rfl rfl ⟨blk_cell BKz0.out 0, blk_cell BKz0.out 1, blk_cell BKz0.out 2, blk_cell BKz0.out 3, blk_cell BKz3.out 0, blk_cell BKz3.out 1, blk_cell BKz3.out 2, blk_cell BKz3.out 3⟩ (fun hHeld => ?_)
      generalize w56.drew = w57 at HOz1 HOz0 HOz4 BKz1 BKz2 BKz0 BKz3 HI0 HK HB hHeld ⊢
      refine tk 0 46 ?_ ?_ rfl rfl (by kernel_rfl) (Or.inl ⟨by rfl, ?_⟩) hHeld ?_ ?_
      rotate_left 2
      ·rintro w' ⟨s0, s1, s2, s3, s4, s5, s6, s7⟩
       go_simp
       with_reducible rfl
      ·simp only [seval]
       rfl
      refine tk 1 47 ?_ ?_ rfl rfl (by kernel_rfl) (Or.inl ⟨by rfl, ?_⟩) hHeld ?_ ?_
      rotate_left 2
      ·rintro w' ⟨s0, s1, s2, s3, s4, s5, s6, s7⟩
       go_simp
       with_reducible rfl
      ·simp only [seval]
       rfl
      refine one_ (i := 2) (N := none) #[true, true, true, false] rfl rfl (by kernel_rfl) (by decide) (fun K hK => ?_)
      obtain ⟨hs58, hs59, hs60, hs62, hfs58, hfs59, hfs60, hfs62⟩ := c4 BKz1.out
      refine skip_ (w1 := ?_) (by rfl) rfl ?_ ?_
      rotate_left
      ·go_simp
       rfl
      refine hK.out _ _ ⟨(e4 NBz2.out hHeld.1), (e4 NBz2.out hHeld.2.1), (e4 NBz2.out hHeld.2.2.1), (e4 NBz2.out hHeld.2.2.2.1), (e4 NBz0.out hHeld.2.2.2.2.1), (e4 NBz0.out hHeld.2.2.2.2.2.1), (e4 NBz0.out hHeld.2.2.2.2.2.2.1), (e4 NBz0.out hHeld.2.2.2.2.2.2.2)⟩ (fun hHeld => ?_)
      clear hK K
      refine one_ (i := 3) (N := none) #[true, true, true, true] rfl rfl (by kernel_rfl) (by decide) (fun K hK => ?_)
      obtain ⟨hs63, hs64, hs65, hs66, hfs63, hfs64, hfs65, hfs66⟩ := c4 BKz2.out
      have hms66_0 := NBz7.out
      have hms66_2 := NBz10.out
      have hms66_3 := NBz5.out
      refine skip_ (w1 := ?_) (by rfl) rfl ?_ ?_
      rotate_left
      ·go_simp
       rfl
      refine hK.out _ _ ⟨(e4 NBz3.out hHeld.1), (e4 NBz3.out hHeld.2.1), (e4 NBz3.out hHeld.2.2.1), (e4 NBz3.out hHeld.2.2.2.1), (e4 NBz1.out hHeld.2.2.2.2.1), (e4 NBz1.out hHeld.2.2.2.2.2.1), (e4 NBz1.out hHeld.2.2.2.2.2.2.1), (e4 NBz1.out hHeld.2.2.2.2.2.2.2)⟩ (fun hHeld => ?_)
      clear hK K
      refine done_ (by kernel_rfl) ?_
      try go_wp2
      refine bodyPost_ret (results_cc rfl _ _ gbz1 gbz2 28 28 #[.int .i64 tz0, .int .i64 tz1, .int .i64 tz2, .slice Ao61 xz1.length co61] #[.int .i64 tz4, .int .i64 tz5, .int .i64 tz7, .slice Ao55 tz6.length co55] (0, 0) (0, 0) _ _ rfl (by refine f4 ?_ NBz8.out; refine p4 (.int .i64 0) (.int .i64 0) (.int .i64 0) (.slice none 0 0) ?_; exact BKz1.out) Try.underlying28 rfl (by kernel_rfl) rfl (by refine p4 (.int .i64 0) (.int .i64 0) (.int .i64 0) (.slice none 0 0) ?_; refine f4 ?_ NBz7.out; exact BKz2.out) Try.underlying28 rfl (by kernel_rfl)) rfl ?_
      exact ⟨_, _, by rfl, by exact Kd.Q_mono (Q4 (Kd.Q_far (p := ⟨gbz1, 3, none⟩) (Kd.Q_far (p := ⟨gbz1, 2, none⟩) (Kd.Q_far (p := ⟨gbz1, 1, none⟩) (Kd.Q_far (p := ⟨gbz1, 0, none⟩) (Kd.Q_types (Kd.Q_types HOz1.out BKz1.out (by decide)) BKz2.out (by decide)) (fun _ hk => hk.1.2) (.int .i64 tz0)) (fun _ hk => hk.1.2) (.int .i64 tz1)) (fun _ hk => hk.1.2) (.int .i64 tz2)) (fun _ hk => hk.1.2) (.slice Ao61 xz1.length co61)) (.int .i64 tz4) (.int .i64 tz5) (.int .i64 tz7) (.slice Ao55 tz6.length co55)) (fun _ hk => hk.1.1.2), by exact Kd.Q_mono (Q4 (Kd.Q_far (p := ⟨gbz1, 3, none⟩) (Kd.Q_far (p := ⟨gbz1, 2, none⟩) (Kd.Q_far (p := ⟨gbz1, 1, none⟩) (Kd.Q_far (p := ⟨gbz1, 0, none⟩) (Kd.Q_types (Kd.Q_types HOz4.out BKz1.out (by decide)) BKz2.out (by decide)) (fun _ hk => hk.1.2) (.int .i64 tz0)) (fun _ hk => hk.1.2) (.int .i64 tz1)) (fun _ hk => hk.1.2) (.int .i64 tz2)) (fun _ hk => hk.1.2) (.slice Ao61 xz1.length co61)) (.int .i64 tz4) (.int .i64 tz5) (.int .i64 tz7) (.slice Ao55 tz6.length co55)) (fun _ hk => hk.1.1.1), by repeat (with_reducible first | exact HI0.out | refine IsS100.far ?_ NBz17.out _ | refine IsS100.far ?_ NBz18.out _), by repeat (with_reducible first | exact HB.out | refine below_set ?_ GEz1.out | refine below_set ?_ GEz2.out), by repeat (with_reducible first | exact HK.out | refine keep_far ?_ GWz1.out _ | refine keep_far ?_ GWz2.out _)⟩
     rw [if_neg c46] at H
     have c46b0 : (tz12 == 0) = false := beq_eq_false_iff_ne.mpr c46
     simp only [Option.some.injEq, Prod.mk.injEq] at H
     obtain ⟨rfl, rfl, rfl, rfl, rfl, rfl, rfl, rfl, rfl⟩ := H
     try go_wp2_with (first | ((with_reducible refine gate_callee (f := 82) rfl ?_); refine goesL_ (some 42) rfl rfl Try.func82 (by kernel_rfl) rfl #[.pointer (some ⟨g, 0, none⟩), .int .i64 16] rfl (by (try simp only [bitvec_to_nat]); rfl) ?_; (with_reducible refine (spec_reader_pick.calls kj25 g s0_0 x1001_1 16 tz12 tz11 w0 _ ?side1 ?side2 A45.out).mono ?_); (case side1 => repeat (with_reducible exact HI0.out)); (case side2 => repeat (with_reducible exact HB.out)); rintro e w67 ⟨rfl, hi, hb, hk⟩; refine ⟨_, rfl, ?_⟩; replace HOz1 := mk (Kd.Q_mono (Kd.Q_keep (IsS100.apartQ (show IsS100 w0 _ g s0_0 x1001_1 from by exact HI0.out) HOz1.out (by decide)) hk (fun _ h => h.2)) (fun _ h => h.1)); replace HOz0 := mk (Kd.Q_mono (Kd.Q_keep (IsS100.apartQ (show IsS100 w0 _ g s0_0 x1001_1 from by exact HI0.out) HOz0.out (by decide)) hk (fun _ h => h.2)) (fun _ h => h.1)); replace BKz1 := mk (KeepBut.blk hk (g' := gbz1) (o := .cells #[.int .i64 0, .int .i64 0, .int .i64 0, .slice none 0 0] 28 (0, 0)) BKz1.out NBz12.out (by simp)); replace BKz2 := mk (KeepBut.blk hk (g' := gbz2) (o := .cells #[.int .i64 0, .int .i64 0, .int .i64 0, .slice none 0 0] 28 (0, 0)) BKz2.out NBz13.out (by simp)); replace BKz0 := mk (KeepBut.blk hk (g' := gbz3) (o := .cells #[.int .i64 tz0, .int .i64 tz1, .int .i64 tz2, u55011003] 28 (0, 0)) BKz0.out NBz16.out (by simp)); replace BKz3 := mk (KeepBut.blk hk (g' := gbz0) (o := .cells #[.int .i64 tz0, .int .i64 tz1, .int .i64 tz2, u55015003] 28 (0, 0)) BKz3.out NBz9.out (by simp)); replace HK := mk (KeepBut.trans HK.out hk (.inl rfl)); replace HB := mk (hb); replace HI0 := mk (hi); (try clear hb); (try clear hk); (try clear hi)))
     replace HOz1 := mk (Kd.Q_drew HOz1.out)
     replace HOz0 := mk (Kd.Q_drew HOz0.out)
     replace BKz1 := mk (blk_drew BKz1.out)
     replace BKz2 := mk (blk_drew BKz2.out)
     replace BKz0 := mk (blk_drew BKz0.out)
     replace BKz3 := mk (blk_drew BKz3.out)
     replace HI0 := mk (IsS100.drew HI0.out)
     replace HK := mk (keep_drew HK.out)
     replace HB := mk (below_drew1 HB.out)
     obtain ⟨Ao72, co72, eo72, _⟩ := Kd.Q_slice HOz1.out
     (subst eo72)
     obtain ⟨Ao77, co77, eo77, _⟩ := Kd.Q_slice HOz0.out
     (subst eo77)
     refine start_ (n := 4) (S := fun w' => w'.cell? ⟨gbz3, 0, none⟩ = some (.int .i64 tz0) ∧ w'.cell? ⟨gbz3, 1, none⟩ = some (.int .i64 tz1) ∧ w'.cell? ⟨gbz3, 2, none⟩ = some (.int .i64 tz2) ∧ w'.cell? ⟨gbz3, 3, none⟩ = some (.slice Ao72 xz1.length co72) ∧ w'.cell? ⟨gbz0, 0, none⟩ = some (.int .i64 tz0) ∧ w'.cell? ⟨gbz0, 1, none⟩ = some (.int .i64 tz1) ∧ w'.cell? ⟨gbz0, 2, none⟩ = some (.int .i64 tz2) ∧ w'.cell? ⟨gbz0, 3, none⟩ = some (.slice Ao77 xz0.length co77)) (ds := []) #[false, false, false, false] (by kernel_rfl) rfl rfl ⟨blk_cell BKz0.out 0, blk_cell BKz0.out 1, blk_cell BKz0.out 2, blk_cell BKz0.out 3, blk_cell BKz3.out 0, blk_cell BKz3.out 1, blk_cell BKz3.out 2, blk_cell BKz3.out 3⟩ (fun hHeld => ?_)
     generalize w67.drew = w68 at HOz1 HOz0 BKz1 BKz2 BKz0 BKz3 HI0 HK HB hHeld ⊢
     refine tk 0 46 ?_ ?_ rfl rfl (by kernel_rfl) (Or.inl ⟨by rfl, ?_⟩) hHeld ?_ ?_
     rotate_left 2
     ·rintro w' ⟨s0, s1, s2, s3, s4, s5, s6, s7⟩
      go_simp
      with_reducible rfl
     ·simp only [seval]
      rfl
     refine tk 1 47 ?_ ?_ rfl rfl (by kernel_rfl) (Or.inl ⟨by rfl, ?_⟩) hHeld ?_ ?_
     rotate_left 2
     ·rintro w' ⟨s0, s1, s2, s3, s4, s5, s6, s7⟩
      go_simp
      with_reducible rfl
     ·simp only [seval]
      rfl
     refine one_ (i := 2) (N := none) #[true, true, true, false] rfl rfl (by kernel_rfl) (by decide) (fun K hK => ?_)
     obtain ⟨hs69, hs70, hs71, hs73, hfs69, hfs70, hfs71, hfs73⟩ := c4 BKz1.out
     refine skip_ (w1 := ?_) (by rfl) rfl ?_ ?_
     rotate_left
     ·go_simp
      rfl
     refine hK.out _ _ ⟨(e4 NBz2.out hHeld.1), (e4 NBz2.out hHeld.2.1), (e4 NBz2.out hHeld.2.2.1), (e4 NBz2.out hHeld.2.2.2.1), (e4 NBz0.out hHeld.2.2.2.2.1), (e4 NBz0.out hHeld.2.2.2.2.2.1), (e4 NBz0.out hHeld.2.2.2.2.2.2.1), (e4 NBz0.out hHeld.2.2.2.2.2.2.2)⟩ (fun hHeld => ?_)
     clear hK K
     refine one_ (i := 3) (N := none) #[true, true, true, true] rfl rfl (by kernel_rfl) (by decide) (fun K hK => ?_)
     obtain ⟨hs74, hs75, hs76, hs78, hfs74, hfs75, hfs76, hfs78⟩ := c4 BKz2.out
     have hms78_0 := NBz7.out
     have hms78_2 := NBz10.out
     have hms78_3 := NBz5.out
     refine skip_ (w1 := ?_) (by rfl) rfl ?_ ?_
     rotate_left
     ·go_simp
      rfl
     refine hK.out _ _ ⟨(e4 NBz3.out hHeld.1), (e4 NBz3.out hHeld.2.1), (e4 NBz3.out hHeld.2.2.1), (e4 NBz3.out hHeld.2.2.2.1), (e4 NBz1.out hHeld.2.2.2.2.1), (e4 NBz1.out hHeld.2.2.2.2.2.1), (e4 NBz1.out hHeld.2.2.2.2.2.2.1), (e4 NBz1.out hHeld.2.2.2.2.2.2.2)⟩ (fun hHeld => ?_)
     clear hK K
     refine done_ (by kernel_rfl) ?_
     try go_wp2
     refine bodyPost_ret (results_cc rfl _ _ gbz1 gbz2 28 28 #[.int .i64 tz0, .int .i64 tz1, .int .i64 tz2, .slice Ao72 xz1.length co72] #[.int .i64 tz0, .int .i64 tz1, .int .i64 tz2, .slice Ao77 xz0.length co77] (0, 0) (0, 0) _ _ rfl (by refine f4 ?_ NBz8.out; refine p4 (.int .i64 0) (.int .i64 0) (.int .i64 0) (.slice none 0 0) ?_; exact BKz1.out) Try.underlying28 rfl (by kernel_rfl) rfl (by refine p4 (.int .i64 0) (.int .i64 0) (.int .i64 0) (.slice none 0 0) ?_; refine f4 ?_ NBz7.out; exact BKz2.out) Try.underlying28 rfl (by kernel_rfl)) rfl ?_
     exact ⟨_, _, by rfl, by exact Kd.Q_mono (Q4 (Kd.Q_far (p := ⟨gbz1, 3, none⟩) (Kd.Q_far (p := ⟨gbz1, 2, none⟩) (Kd.Q_far (p := ⟨gbz1, 1, none⟩) (Kd.Q_far (p := ⟨gbz1, 0, none⟩) (Kd.Q_types (Kd.Q_types HOz1.out BKz1.out (by decide)) BKz2.out (by decide)) (fun _ hk => hk.1.2) (.int .i64 tz0)) (fun _ hk => hk.1.2) (.int .i64 tz1)) (fun _ hk => hk.1.2) (.int .i64 tz2)) (fun _ hk => hk.1.2) (.slice Ao72 xz1.length co72)) (.int .i64 tz0) (.int .i64 tz1) (.int .i64 tz2) (.slice Ao77 xz0.length co77)) (fun _ hk => hk.1.1), by exact Kd.Q_mono (Q4 (Kd.Q_far (p := ⟨gbz1, 3, none⟩) (Kd.Q_far (p := ⟨gbz1, 2, none⟩) (Kd.Q_far (p := ⟨gbz1, 1, none⟩) (Kd.Q_far (p := ⟨gbz1, 0, none⟩) (Kd.Q_types (Kd.Q_types HOz0.out BKz1.out (by decide)) BKz2.out (by decide)) (fun _ hk => hk.1.2) (.int .i64 tz0)) (fun _ hk => hk.1.2) (.int .i64 tz1)) (fun _ hk => hk.1.2) (.int .i64 tz2)) (fun _ hk => hk.1.2) (.slice Ao72 xz1.length co72)) (.int .i64 tz0) (.int .i64 tz1) (.int .i64 tz2) (.slice Ao77 xz0.length co77)) (fun _ hk => hk.1.1), by repeat (with_reducible first | exact HI0.out | refine IsS100.far ?_ NBz17.out _ | refine IsS100.far ?_ NBz18.out _), by repeat (with_reducible first | exact HB.out | refine below_set ?_ GEz1.out | refine below_set ?_ GEz2.out), by repeat (with_reducible first | exact HK.out | refine keep_far ?_ GWz1.out _ | refine keep_far ?_ GWz2.out _)⟩


def spec_newReader.f (l0 : List Int) : Option (List Int × Int) := if (l0.length : Int) > 2000 then (if 2000 ≤ (l0.length : Int) then (some (l0.take 2000, 0)) else (none)) else (some (l0, 0))
theorem spec_newReader.calls (A0 : Option Addr) (c0 : Nat) (l0 : List Int) (r1 : List Int) (r2 : Int) (w0 w : World) (hB : Below w0.heap.size w0 w) (hr0 : Kd.C (Kd.int .u8) w0 A0 l0.length l0) (hc0 : l0.length ≤ c0) (h : spec_newReader.f l0 = some (r1, r2)) :
  Calls Try.prog 55 #[.slice A0 l0.length c0] w fun e w' => ∃ g_ : Nat, e = .returned (.pointer (some ⟨g_, 0, none⟩)) ∧ IsS100 w0 w' g_ r1 r2 ∧ Below w0.heap.size w0 w' ∧ Below w.heap.size w w' := by
 have hu100 := Try.underlying100
 have HR0 := mk hr0
 have HC0 := mk hc0
 clear hr0 hc0
 have HBW := mk (Below.refl w.heap.size w)
 have HW0 := mk hB.size
 have HB := mk hB
 clear hB
 have H : (if (l0.length : Int) > 2000 then (if 2000 ≤ (l0.length : Int) then (some (l0.take 2000, 0)) else (none)) else (some (l0, 0))) = some (r1, r2) := h
 clear h
 by_cases c2 : (l0.length : Int) > 2000
 ·rw [if_pos c2] at H
  have c2b0 : decide (2000 < (l0.length : Int)) = true := decide_eq_true c2
  have c2b1 : decide (2000 < l0.length) = true := decide_eq_true (by omega)
  clear c2
  by_cases c3 : 2000 ≤ (l0.length : Int)
  ·rw [if_pos c3] at H
   have c3b0 := eq_true c3
   have c3b1 : decide (2000 ≤ (l0.length : Int)) = true := decide_eq_true c3
   clear c3
   simp only [Option.some.injEq, Prod.mk.injEq] at H
   obtain ⟨rfl, rfl⟩ := H
   obtain ⟨i04, hi04, _, hsz4, _⟩ := info_parts info5
   obtain ⟨hcut4, hA4, hC4⟩ := print_take_of (P := Try.prog) (Value.int .u8) 0 35 5 .i64 Try.underlying35 hi04 hsz4 A0 c0 l0 2000 (by omega) (of_decide_eq_true (by first | (with_reducible assumption) | assumption)) HC0.out
   have HR56001 := mk (Kd.C_of_reads (h1 := fun _ => rfl) (hA4 _ (Kd.reads_of_C HR0.out)))
   have HC56001 := mk hC4
   clear hA4 hC4 hi04 hsz4
   go_enter Try.func55, Try.ntmps55
   go_wp2_with (first | ((with_reducible refine gate_dst (N := 10) rfl ?_); refine box_event ?hg (N := 10) ?hd (cs := #[.slice A0 (l0.take 2000).length c0, .int .i64 0]) (t := 100) ?hr ?_; (case hd => rfl); (case hg => rfl); (case hr => first | (go_simp; done) | (go_simp; rfl)); intro gb56002 hg w5 hbox hb; have n0_ := mk (below_step HBW.out hb); have n1_ := mk (below_step (by repeat (first | (with_reducible first | exact HB.out | apply below_alloc | apply pw_below_drewN | apply below_drew1) | exact HB.out)) hb); have n2_ := mk (hbox); have n3_ := mk ((by rw [hg]; exact (below_size (by repeat (first | (with_reducible first | exact HBW.out | apply below_alloc | apply pw_below_drewN | apply below_drew1) | exact HBW.out))) : w.heap.size ≤ gb56002)); have n4_ := mk ((Nat.le_trans HW0.out (by rw [hg]; exact (below_size (by repeat (first | (with_reducible first | exact HBW.out | apply below_alloc | apply pw_below_drewN | apply below_drew1) | exact HBW.out))) : w.heap.size ≤ gb56002) : w0.heap.size ≤ gb56002)); clear HBW; clear HB; have HBW := n0_; have HB := n1_; have BK56002 := n2_; have GW56002 := n3_; have GE56002 := n4_; clear n0_ n1_ n2_ n3_ n4_; clear hb hbox hg))
   go_ret
   exact ⟨_, rfl, (show IsS100 w0 _ gb56002 (l0.take 2000) 0 from ⟨_, _, by (with_reducible repeat (first | refine blk_drewN ?_ _ | refine blk_drew ?_ | refine blk_alloc ?_ _)); exact BK56002.out, GE56002.out, HR56001.out⟩), by repeat (first | (with_reducible first | exact HB.out | apply below_alloc | apply pw_below_drewN | apply below_drew1 | refine below_set ?_ GE56002.out) | exact HB.out), by repeat (first | (with_reducible first | exact HBW.out | apply below_alloc | apply pw_below_drewN | apply below_drew1 | refine below_set ?_ GW56002.out) | exact HBW.out)⟩
  ·rw [if_neg c3] at H
   exact absurd H (by simp)
 ·rw [if_neg c2] at H
  have c2b0 : decide (2000 < (l0.length : Int)) = false := decide_eq_false c2
  have c2b1 : decide (2000 < l0.length) = false := decide_eq_false (by omega)
  clear c2
  simp only [Option.some.injEq, Prod.mk.injEq] at H
  obtain ⟨rfl, rfl⟩ := H
  go_enter Try.func55, Try.ntmps55
  go_wp2_with (first | ((with_reducible refine gate_dst (N := 10) rfl ?_); refine box_event ?hg (N := 10) ?hd (cs := #[.slice A0 l0.length c0, .int .i64 0]) (t := 100) ?hr ?_; (case hd => rfl); (case hg => rfl); (case hr => first | (go_simp; done) | (go_simp; rfl)); intro gb56003 hg w6 hbox hb; have n0_ := mk (below_step HBW.out hb); have n1_ := mk (below_step (by repeat (first | (with_reducible first | exact HB.out | apply below_alloc | apply pw_below_drewN | apply below_drew1) | exact HB.out)) hb); have n2_ := mk (hbox); have n3_ := mk ((by rw [hg]; exact (below_size (by repeat (first | (with_reducible first | exact HBW.out | apply below_alloc | apply pw_below_drewN | apply below_drew1) | exact HBW.out))) : w.heap.size ≤ gb56003)); have n4_ := mk ((Nat.le_trans HW0.out (by rw [hg]; exact (below_size (by repeat (first | (with_reducible first | exact HBW.out | apply below_alloc | apply pw_below_drewN | apply below_drew1) | exact HBW.out))) : w.heap.size ≤ gb56003) : w0.heap.size ≤ gb56003)); clear HBW; clear HB; have HBW := n0_; have HB := n1_; have BK56003 := n2_; have GW56003 := n3_; have GE56003 := n4_; clear n0_ n1_ n2_ n3_ n4_; clear hb hbox hg))
  go_ret
  exact ⟨_, rfl, (show IsS100 w0 _ gb56003 l0 0 from ⟨_, _, by (with_reducible repeat (first | refine blk_drewN ?_ _ | refine blk_drew ?_ | refine blk_alloc ?_ _)); exact BK56003.out, GE56003.out, HR0.out⟩), by repeat (first | (with_reducible first | exact HB.out | apply below_alloc | apply pw_below_drewN | apply below_drew1 | refine below_set ?_ GE56003.out) | exact HB.out), by repeat (first | (with_reducible first | exact HBW.out | apply below_alloc | apply pw_below_drewN | apply below_drew1 | refine below_set ?_ GW56003.out) | exact HBW.out)⟩


def spec_anyBox.f (k : Nat) (s0_0 : List Int) (s0_1 : Int) : Option (Int × Int × Int × Int × Int) := (spec_reader_one.f k s0_0 s0_1 (([0, 1, 2, (-1), 0, 4] : List Int))).bind fun btz3 => ((spec_reader_one.f k s0_0 btz3.2 (([0, 1, 0, 2, (-1)] : List Int))).bind fun btz2 => ((spec_reader_one.f k s0_0 btz2.2 ([1, 2, 3, 1, 0, 16] : List Int)).bind fun btz1 => ((spec_reader_one.f k s0_0 btz1.2 ([1, 2, 1, 3, 0] : List Int)).bind fun btz0 => (some (btz3.1, btz2.1, btz1.1, btz0.1, btz0.2)))))
theorem spec_anyBox.calls (k : Nat) (g : Nat) (s0_0 : List Int) (s0_1 : Int) (r1 : Int) (r2 : Int) (r3 : Int) (r4 : Int) (r5 : Int) (w0 w : World) (hI : IsS100 w0 w g s0_0 s0_1) (hB : Below w0.heap.size w0 w) (h : spec_anyBox.f k s0_0 s0_1 = some (r1, r2, r3, r4, r5)) :
  Calls Try.prog 83 #[.pointer (some ⟨g, 0, none⟩)] w fun e w' => e = .returned (.agg #[.int .i64 r1, .int .i64 r2, .int .i64 r3, .int .i64 r4]) ∧ IsS100 w0 w' g s0_0 r5 ∧ Below w0.heap.size w0 w' ∧ KeepBut w w' g none := by
 have HI0 := mk hI
 have HK := mk (KeepBut.refl w g none)
 clear hI
 have HW0 := mk hB.size
 have HB := mk hB
 clear hB
 have H : ((spec_reader_one.f k s0_0 s0_1 (([0, 1, 2, (-1), 0, 4] : List Int))).bind fun btz3 => ((spec_reader_one.f k s0_0 btz3.2 (([0, 1, 0, 2, (-1)] : List Int))).bind fun btz2 => ((spec_reader_one.f k s0_0 btz2.2 ([1, 2, 3, 1, 0, 16] : List Int)).bind fun btz1 => ((spec_reader_one.f k s0_0 btz1.2 ([1, 2, 1, 3, 0] : List Int)).bind fun btz0 => (some (btz3.1, btz2.1, btz1.1, btz0.1, btz0.2)))))) = some (r1, r2, r3, r4, r5) := h
 clear h
 obtain ⟨yz0, hyz0⟩ : ∃ y_ : List Int, y_ = (([0, 1, 2, (-1), 0, 4] : List Int)) := ⟨_, rfl⟩
 replace H : ((spec_reader_one.f k s0_0 s0_1 yz0).bind fun btz3 => ((spec_reader_one.f k s0_0 btz3.2 (([0, 1, 0, 2, (-1)] : List Int))).bind fun btz2 => ((spec_reader_one.f k s0_0 btz2.2 ([1, 2, 3, 1, 0, 16] : List Int)).bind fun btz1 => ((spec_reader_one.f k s0_0 btz1.2 ([1, 2, 1, 3, 0] : List Int)).bind fun btz0 => (some (btz3.1, btz2.1, btz1.1, btz0.1, btz0.2)))))) = some (r1, r2, r3, r4, r5) := by (rw [hyz0]; with_reducible exact H)
 have Nyz0 := mk hyz0
 clear hyz0
 replace H := Option.bind_eq_some_iff.mp H
 obtain ⟨⟨tz0, tz3⟩, A20, H⟩ := H
 replace H : ((spec_reader_one.f k s0_0 tz3 (([0, 1, 0, 2, (-1)] : List Int))).bind fun btz2 => ((spec_reader_one.f k s0_0 btz2.2 ([1, 2, 3, 1, 0, 16] : List Int)).bind fun btz1 => ((spec_reader_one.f k s0_0 btz1.2 ([1, 2, 1, 3, 0] : List Int)).bind fun btz0 => (some (tz0, btz2.1, btz1.1, btz0.1, btz0.2))))) = some (r1, r2, r3, r4, r5) := H
 have A2 := mk A20
 clear A20
 obtain ⟨yz1, hyz1⟩ : ∃ y_ : List Int, y_ = (([0, 1, 0, 2, (-1)] : List Int)) := ⟨_, rfl⟩
 replace H : ((spec_reader_one.f k s0_0 tz3 yz1).bind fun btz2 => ((spec_reader_one.f k s0_0 btz2.2 ([1, 2, 3, 1, 0, 16] : List Int)).bind fun btz1 => ((spec_reader_one.f k s0_0 btz1.2 ([1, 2, 1, 3, 0] : List Int)).bind fun btz0 => (some (tz0, btz2.1, btz1.1, btz0.1, btz0.2))))) = some (r1, r2, r3, r4, r5) := by (rw [hyz1]; with_reducible exact H)
 have Nyz1 := mk hyz1
 clear hyz1
 replace H := Option.bind_eq_some_iff.mp H
 obtain ⟨⟨tz1, tz2⟩, A30, H⟩ := H
 replace H : ((spec_reader_one.f k s0_0 tz2 ([1, 2, 3, 1, 0, 16] : List Int)).bind fun btz1 => ((spec_reader_one.f k s0_0 btz1.2 ([1, 2, 1, 3, 0] : List Int)).bind fun btz0 => (some (tz0, tz1, btz1.1, btz0.1, btz0.2)))) = some (r1, r2, r3, r4, r5) := H
 have A3 := mk A30
 clear A30
 obtain ⟨yz2, hyz2⟩ : ∃ y_ : List Int, y_ = ([1, 2, 3, 1, 0, 16] : List Int) := ⟨_, rfl⟩
 replace H : ((spec_reader_one.f k s0_0 tz2 yz2).bind fun btz1 => ((spec_reader_one.f k s0_0 btz1.2 ([1, 2, 1, 3, 0] : List Int)).bind fun btz0 => (some (tz0, tz1, btz1.1, btz0.1, btz0.2)))) = some (r1, r2, r3, r4, r5) := by (rw [hyz2]; with_reducible exact H)
 have Nyz2 := mk hyz2
 clear hyz2
 replace H := Option.bind_eq_some_iff.mp H
 obtain ⟨⟨tz4, tz5⟩, A40, H⟩ := H
 replace H : ((spec_reader_one.f k s0_0 tz5 ([1, 2, 1, 3, 0] : List Int)).bind fun btz0 => (some (tz0, tz1, tz4, btz0.1, btz0.2))) = some (r1, r2, r3, r4, r5) := H
 have A4 := mk A40
 clear A40
 obtain ⟨yz3, hyz3⟩ : ∃ y_ : List Int, y_ = ([1, 2, 1, 3, 0] : List Int) := ⟨_, rfl⟩
 replace H : ((spec_reader_one.f k s0_0 tz5 yz3).bind fun btz0 => (some (tz0, tz1, tz4, btz0.1, btz0.2))) = some (r1, r2, r3, r4, r5) := by (rw [hyz3]; with_reducible exact H)
 have Nyz3 := mk hyz3
 clear hyz3
 replace H := Option.bind_eq_some_iff.mp H
 obtain ⟨⟨tz6, tz7⟩, A50, H⟩ := H
 replace H : (some (tz0, tz1, tz4, tz6, tz7)) = some (r1, r2, r3, r4, r5) := H
 have A5 := mk A50
 clear A50
 simp only [Option.some.injEq, Prod.mk.injEq] at H
 obtain ⟨rfl, rfl, rfl, rfl, rfl⟩ := H
 go_enter Try.func83, Try.ntmps83
 go_wp2_with (first | ((with_reducible refine gate_dst (N := 2) rfl ?_); refine box_event (by rfl) (N := 2) (by rfl) (cs := #[.int .i64 0, .int .i64 0, .int .i64 0, .int .i64 0]) (t := 60) (by go_simp; done) ?_; intro gbz0 hg w6 hbox hb; replace HB := mk (below_step HB.out hb); have BKz0 := mk (hbox); have GWz0 := mk ((by rw [hg]; exact (keep_size (w := w) (g := g) (row := none) HK.out) : w.heap.size ≤ gbz0)); have GEz0 := mk ((Nat.le_trans HW0.out (by rw [hg]; exact (keep_size (w := w) (g := g) (row := none) HK.out) : w.heap.size ≤ gbz0) : w0.heap.size ≤ gbz0)); replace HK := mk (KeepBut.trans HK.out (KeepBut.of_below hb g none) (.inl rfl)); have NBz1 := mk ((by rw [hg]; exact Nat.ne_of_lt (IsS100.lt (show IsS100 w0 _ g s0_0 s0_1 from by exact HI0.out)) : g ≠ gbz0)); have NBz0 := mk ((by rw [hg]; exact Nat.ne_of_gt (IsS100.lt (show IsS100 w0 _ g s0_0 s0_1 from by exact HI0.out)) : gbz0 ≠ g)); replace HI0 := mk (IsS100.below HI0.out hb); clear hb hbox hg) | ((with_reducible refine gate_dst (N := 4) rfl ?_); refine Kd.R_lit (Kd.int .i64) _ 3 ?hg (N := 4) ?hd (xs := ([0, 1, 2, (-1), 0, 4] : List Int)) (inner := [.int .i64 0, .int .i64 1, .int .i64 2, .int .i64 (-1), .int .i64 0, .int .i64 4]) (ok := fun _ => True) (okp := fun _ => True) ?hr ?hp (fun _ hk => hk) trivial (Below.refl _ _) (Nat.le_refl _) (by simp) ?_; (case hd => rfl); (case hg => rfl); (case hr => (go_simp; done)); (case hp => exact (Reps.one (show Kd.M (Kd.int .i64) _ _ _ 0 [.int .i64 0] from rfl) (Reps.one (show Kd.M (Kd.int .i64) _ _ _ 1 [.int .i64 1] from rfl) (Reps.one (show Kd.M (Kd.int .i64) _ _ _ 2 [.int .i64 2] from rfl) (Reps.one (show Kd.M (Kd.int .i64) _ _ _ (-1) [.int .i64 (-1)] from rfl) (Reps.one (show Kd.M (Kd.int .i64) _ _ _ 0 [.int .i64 0] from rfl) (Reps.one (show Kd.M (Kd.int .i64) _ _ _ 4 [.int .i64 4] from rfl) (Reps.none _ _)))))))); intro vz0 w7 ho8 hb hg_ hnew_; clear hg_ hnew_; (rw [← Nyz0.out] at ho8); have HOz0 := mk (Kd.R_lower ho8 (keep_size (w := w) (g := g) (row := none) HK.out)); replace HI0 := mk (IsS100.below HI0.out hb); replace BKz0 := mk (blk_below BKz0.out hb); replace HK := mk (KeepBut.trans HK.out (KeepBut.of_below hb g none) (.inl rfl)); replace HB := mk (below_step HB.out hb); clear hb ho8; obtain ⟨Ao9, co9, eo9⟩ := Kd.R_slice HOz0.out; subst eo9) | ((with_reducible refine gate_callee (f := 73) rfl ?_); refine goesL_ (some 5) rfl rfl Try.func73 (by kernel_rfl) rfl #[.pointer (some ⟨g, 0, none⟩), .slice Ao9 yz0.length co9] rfl (by (try simp only [bitvec_to_nat]); rfl) ?_; (with_reducible refine (spec_reader_one.calls k g s0_0 s0_1 _ _ yz0 tz0 tz3 w0 _ ?side1 ?side2 ?side3 ?side4 ?side5 A2.out).mono ?_); (case side1 => repeat (with_reducible exact HI0.out)); (case side2 => repeat (with_reducible exact HB.out)); (case side3 => repeat (exact (Kd.R_reads' HOz0.out).2.2)); (case side4 => exact (Kd.R_reads' HOz0.out).2.1); (case side5 => exact far_slice (IsS100.own_ne HI0.out HOz0.out (by decide))); rintro e w10 ⟨rfl, hi, hb, hk⟩; refine ⟨_, rfl, ?_⟩; replace BKz0 := mk (KeepBut.blk hk (g' := gbz0) (o := .cells #[.int .i64 0, .int .i64 0, .int .i64 0, .int .i64 0] 60 (0, 0)) BKz0.out NBz0.out (by simp)); replace HOz0 := mk (Kd.R_mono (Kd.R_keep (IsS100.apart (show IsS100 w0 _ g s0_0 s0_1 from by exact HI0.out) HOz0.out (by decide)) hk (fun _ h => h.2)) (fun _ h => h.1)); replace HK := mk (KeepBut.trans HK.out hk (.inl rfl)); replace HB := mk (hb); replace HI0 := mk (hi); (try clear hb); (try clear hk); (try clear hi)) | ((with_reducible refine gate_dst (N := 7) rfl ?_); refine Kd.R_lit (Kd.int .i64) _ 3 ?hg (N := 7) ?hd (xs := ([0, 1, 0, 2, (-1)] : List Int)) (inner := [.int .i64 0, .int .i64 1, .int .i64 0, .int .i64 2, .int .i64 (-1)]) (ok := fun _ => True) (okp := fun _ => True) ?hr ?hp (fun _ hk => hk) trivial (Below.refl _ _) (Nat.le_refl _) (by simp) ?_; (case hd => rfl); (case hg => rfl); (case hr => (go_simp; done)); (case hp => exact (Reps.one (show Kd.M (Kd.int .i64) _ _ _ 0 [.int .i64 0] from rfl) (Reps.one (show Kd.M (Kd.int .i64) _ _ _ 1 [.int .i64 1] from rfl) (Reps.one (show Kd.M (Kd.int .i64) _ _ _ 0 [.int .i64 0] from rfl) (Reps.one (show Kd.M (Kd.int .i64) _ _ _ 2 [.int .i64 2] from rfl) (Reps.one (show Kd.M (Kd.int .i64) _ _ _ (-1) [.int .i64 (-1)] from rfl) (Reps.none _ _))))))); intro vz1 w11 ho12 hb hg_ hnew_; clear hg_ hnew_; (rw [← Nyz1.out] at ho12); have HOz1 := mk (Kd.R_lower (Kd.R_new' ho12 (Kd.R_lt HOz0.out)) (keep_size (w := w) (g := g) (row := none) HK.out)); replace HOz0 := mk (Kd.R_elder' HOz0.out (Kd.R_base ho12) hb); replace HI0 := mk (IsS100.below HI0.out hb); replace BKz0 := mk (blk_below BKz0.out hb); replace HK := mk (KeepBut.trans HK.out (KeepBut.of_below hb g none) (.inl rfl)); replace HB := mk (below_step HB.out hb); clear hb ho12; obtain ⟨Ao13, co13, eo13⟩ := Kd.R_slice HOz1.out; subst eo13) | ((with_reducible refine gate_callee (f := 73) rfl ?_); refine goesL_ (some 8) rfl rfl Try.func73 (by kernel_rfl) rfl #[.pointer (some ⟨g, 0, none⟩), .slice Ao13 yz1.length co13] rfl (by (try simp only [bitvec_to_nat]); rfl) ?_; (with_reducible refine (spec_reader_one.calls k g s0_0 tz3 _ _ yz1 tz1 tz2 w0 _ ?side1 ?side2 ?side3 ?side4 ?side5 A3.out).mono ?_); (case side1 => repeat (with_reducible exact HI0.out)); (case side2 => repeat (with_reducible exact HB.out)); (case side3 => repeat (exact (Kd.R_reads' HOz1.out).2.2)); (case side4 => exact (Kd.R_reads' HOz1.out).2.1); (case side5 => exact far_slice (IsS100.own_ne HI0.out HOz1.out (by decide))); rintro e w14 ⟨rfl, hi, hb, hk⟩; refine ⟨_, rfl, ?_⟩; replace BKz0 := mk (KeepBut.blk hk (g' := gbz0) (o := .cells #[.int .i64 0, .int .i64 0, .int .i64 0, .int .i64 0] 60 (0, 0)) BKz0.out NBz0.out (by simp)); replace HOz0 := mk (Kd.R_mono (Kd.R_keep (IsS100.apart (show IsS100 w0 _ g s0_0 tz3 from by exact HI0.out) HOz0.out (by decide)) hk (fun _ h => h.2)) (fun _ h => h.1)); replace HOz1 := mk (Kd.R_mono (Kd.R_keep (IsS100.apart (show IsS100 w0 _ g s0_0 tz3 from by exact HI0.out) HOz1.out (by decide)) hk (fun _ h => h.2)) (fun _ h => h.1)); replace HK := mk (KeepBut.trans HK.out hk (.inl rfl)); replace HB := mk (hb); replace HI0 := mk (hi); (try clear hb); (try clear hk); (try clear hi)) | ((with_reducible refine gate_dst (N := 10) rfl ?_); refine Kd.R_lit (Kd.int .i64) _ 3 ?hg (N := 10) ?hd (xs := ([1, 2, 3, 1, 0, 16] : List Int)) (inner := [.int .i64 1, .int .i64 2, .int .i64 3, .int .i64 1, .int .i64 0, .int .i64 16]) (ok := fun _ => True) (okp := fun _ => True) ?hr ?hp (fun _ hk => hk) trivial (Below.refl _ _) (Nat.le_refl _) (by simp) ?_; (case hd => rfl); (case hg => rfl); (case hr => (go_simp; done)); (case hp => exact (Reps.one (show Kd.M (Kd.int .i64) _ _ _ 1 [.int .i64 1] from rfl) (Reps.one (show Kd.M (Kd.int .i64) _ _ _ 2 [.int .i64 2] from rfl) (Reps.one (show Kd.M (Kd.int .i64) _ _ _ 3 [.int .i64 3] from rfl) (Reps.one (show Kd.M (Kd.int .i64) _ _ _ 1 [.int .i64 1] from rfl) (Reps.one (show Kd.M (Kd.int .i64) _ _ _ 0 [.int .i64 0] from rfl) (Reps.one (show Kd.M (Kd.int .i64) _ _ _ 16 [.int .i64 16] from rfl) (Reps.none _ _)))))))); intro vz2 w15 ho16 hb hg_ hnew_; clear hg_ hnew_; (rw [← Nyz2.out] at ho16); have HOz2 := mk (Kd.R_lower (Kd.R_new' (Kd.R_new' ho16 (Kd.R_lt HOz0.out)) (Kd.R_lt HOz1.out)) (keep_size (w := w) (g := g) (row := none) HK.out)); replace HOz0 := mk (Kd.R_elder' HOz0.out (Kd.R_base ho16) hb); replace HOz1 := mk (Kd.R_elder' HOz1.out (Kd.R_base ho16) hb); replace HI0 := mk (IsS100.below HI0.out hb); replace BKz0 := mk (blk_below BKz0.out hb); replace HK := mk (KeepBut.trans HK.out (KeepBut.of_below hb g none) (.inl rfl)); replace HB := mk (below_step HB.out hb); clear hb ho16; obtain ⟨Ao17, co17, eo17⟩ := Kd.R_slice HOz2.out; subst eo17) | ((with_reducible refine gate_callee (f := 73) rfl ?_); refine goesL_ (some 11) rfl rfl Try.func73 (by kernel_rfl) rfl #[.pointer (some ⟨g, 0, none⟩), .slice Ao17 yz2.length co17] rfl (by (try simp only [bitvec_to_nat]); rfl) ?_; (with_reducible refine (spec_reader_one.calls k g s0_0 tz2 _ _ yz2 tz4 tz5 w0 _ ?side1 ?side2 ?side3 ?side4 ?side5 A4.out).mono ?_); (case side1 => repeat (with_reducible exact HI0.out)); (case side2 => repeat (with_reducible exact HB.out)); (case side3 => repeat (exact (Kd.R_reads' HOz2.out).2.2)); (case side4 => exact (Kd.R_reads' HOz2.out).2.1); (case side5 => exact far_slice (IsS100.own_ne HI0.out HOz2.out (by decide))); rintro e w18 ⟨rfl, hi, hb, hk⟩; refine ⟨_, rfl, ?_⟩; replace BKz0 := mk (KeepBut.blk hk (g' := gbz0) (o := .cells #[.int .i64 0, .int .i64 0, .int .i64 0, .int .i64 0] 60 (0, 0)) BKz0.out NBz0.out (by simp)); replace HOz0 := mk (Kd.R_mono (Kd.R_keep (IsS100.apart (show IsS100 w0 _ g s0_0 tz2 from by exact HI0.out) HOz0.out (by decide)) hk (fun _ h => h.2)) (fun _ h => h.1)); replace HOz1 := mk (Kd.R_mono (Kd.R_keep (IsS100.apart (show IsS100 w0 _ g s0_0 tz2 from by exact HI0.out) HOz1.out (by decide)) hk (fun _ h => h.2)) (fun _ h => h.1)); replace HOz2 := mk (Kd.R_mono (Kd.R_keep (IsS100.apart (show IsS100 w0 _ g s0_0 tz2 from by exact HI0.out) HOz2.out (by decide)) hk (fun _ h => h.2)) (fun _ h => h.1)); replace HK := mk (KeepBut.trans HK.out hk (.inl rfl)); replace HB := mk (hb); replace HI0 := mk (hi); (try clear hb); (try clear hk); (try clear hi)) | ((with_reducible refine gate_dst (N := 13) rfl ?_); refine Kd.R_lit (Kd.int .i64) _ 3 ?hg (N := 13) ?hd (xs := ([1, 2, 1, 3, 0] : List Int)) (inner := [.int .i64 1, .int .i64 2, .int .i64 1, .int .i64 3, .int .i64 0]) (ok := fun _ => True) (okp := fun _ => True) ?hr ?hp (fun _ hk => hk) trivial (Below.refl _ _) (Nat.le_refl _) (by simp) ?_; (case hd => rfl); (case hg => rfl); (case hr => (go_simp; done)); (case hp => exact (Reps.one (show Kd.M (Kd.int .i64) _ _ _ 1 [.int .i64 1] from rfl) (Reps.one (show Kd.M (Kd.int .i64) _ _ _ 2 [.int .i64 2] from rfl) (Reps.one (show Kd.M (Kd.int .i64) _ _ _ 1 [.int .i64 1] from rfl) (Reps.one (show Kd.M (Kd.int .i64) _ _ _ 3 [.int .i64 3] from rfl) (Reps.one (show Kd.M (Kd.int .i64) _ _ _ 0 [.int .i64 0] from rfl) (Reps.none _ _))))))); intro vz3 w19 ho20 hb hg_ hnew_; clear hg_ hnew_; (rw [← Nyz3.out] at ho20); have HOz3 := mk (Kd.R_lower (Kd.R_new' (Kd.R_new' (Kd.R_new' ho20 (Kd.R_lt HOz0.out)) (Kd.R_lt HOz1.out)) (Kd.R_lt HOz2.out)) (keep_size (w := w) (g := g) (row := none) HK.out)); replace HOz0 := mk (Kd.R_elder' HOz0.out (Kd.R_base ho20) hb); replace HOz1 := mk (Kd.R_elder' HOz1.out (Kd.R_base ho20) hb); replace HOz2 := mk (Kd.R_elder' HOz2.out (Kd.R_base ho20) hb); replace HI0 := mk (IsS100.below HI0.out hb); replace BKz0 := mk (blk_below BKz0.out hb); replace HK := mk (KeepBut.trans HK.out (KeepBut.of_below hb g none) (.inl rfl)); replace HB := mk (below_step HB.out hb); clear hb ho20; obtain ⟨Ao21, co21, eo21⟩ := Kd.R_slice HOz3.out; subst eo21) | ((with_reducible refine gate_callee (f := 73) rfl ?_); refine goesL_ (some 14) rfl rfl Try.func73 (by kernel_rfl) rfl #[.pointer (some ⟨g, 0, none⟩), .slice Ao21 yz3.length co21] rfl (by (try simp only [bitvec_to_nat]); rfl) ?_; (with_reducible refine (spec_reader_one.calls k g s0_0 tz5 _ _ yz3 tz6 tz7 w0 _ ?side1 ?side2 ?side3 ?side4 ?side5 A5.out).mono ?_); (case side1 => repeat (with_reducible exact HI0.out)); (case side2 => repeat (with_reducible exact HB.out)); (case side3 => repeat (exact (Kd.R_reads' HOz3.out).2.2)); (case side4 => exact (Kd.R_reads' HOz3.out).2.1); (case side5 => exact far_slice (IsS100.own_ne HI0.out HOz3.out (by decide))); rintro e w22 ⟨rfl, hi, hb, hk⟩; refine ⟨_, rfl, ?_⟩; have n0_ := mk (KeepBut.blk hk (g' := gbz0) (o := .cells #[.int .i64 0, .int .i64 0, .int .i64 0, .int .i64 0] 60 (0, 0)) BKz0.out NBz0.out (by simp)); have n5_ := mk (KeepBut.trans HK.out hk (.inl rfl)); have n6_ := mk (hb); have n7_ := mk (hi); clear BKz0; clear HOz0; clear HOz1; clear HOz2; clear HOz3; clear HK; clear HB; clear HI0; have BKz0 := n0_; have HK := n5_; have HB := n6_; have HI0 := n7_; (try clear hb); (try clear hk); (try clear hi); obtain ⟨hcz24_0, hcz24_1, hcz24_2, hcz24_3, hfz24_0, hfz24_1, hfz24_2, hfz24_3⟩ := c4 BKz0.out))
 refine bodyPost_ret (results_cell_row rfl _ _ gbz0 60 #[.int .i64 tz0, .int .i64 tz1, .int .i64 tz4, .int .i64 tz6] (0, 0) _ rfl (by refine p4 (.int .i64 0) (.int .i64 0) (.int .i64 0) (.int .i64 0) ?_; exact BKz0.out) Try.underlying60 rfl (by kernel_rfl)) rfl ?_
 exact ⟨by rfl, by repeat (with_reducible first | exact HI0.out | refine IsS100.far ?_ NBz1.out _), by repeat (with_reducible first | exact HB.out | refine below_set ?_ GEz0.out), by repeat (with_reducible first | exact HK.out | refine keep_far ?_ GWz0.out _)⟩


def impl_isBoxOn.f (a0_0 : Int) (a0_1 : Int) (a0_2 : Int) (l0_3 : List Int) (a1_0 : Int) (a1_1 : Int) (a1_2 : Int) (a1_3 : Int) : Option Bool := if a1_0 ≥ 0 then (if a1_0 < a0_0 then (if a1_1 ≥ 0 then (if a1_1 < a0_1 then (if a1_2 ≥ 1 then (if a1_2 ≤ (wrap64 (a0_0 - a1_0)) then (if a1_3 ≥ 1 then (some (decide (a1_3 ≤ (wrap64 (a0_1 - a1_1))))) else (some false)) else (some false)) else (some false)) else (some false)) else (some false)) else (some false)) else (some false)
theorem impl_isBoxOn.calls (a0_0 : Int) (a0_1 : Int) (a0_2 : Int) (A0_3 : Option Addr) (c0_3 : Nat) (l0_3 : List Int) (a1_0 : Int) (a1_1 : Int) (a1_2 : Int) (a1_3 : Int) (r : Bool) (w : World) (hr0_3 : Kd.C (Kd.int .i64) w A0_3 l0_3.length l0_3) (hc0_3 : l0_3.length ≤ c0_3) (h : impl_isBoxOn.f a0_0 a0_1 a0_2 l0_3 a1_0 a1_1 a1_2 a1_3 = some r) :
  Calls Try.prog 84 #[.agg #[.int .i64 a0_0, .int .i64 a0_1, .int .i64 a0_2, .slice A0_3 l0_3.length c0_3], .agg #[.int .i64 a1_0, .int .i64 a1_1, .int .i64 a1_2, .int .i64 a1_3]] w fun e w' => e = .returned (.bool r) ∧ Below w.heap.size w w' := by
 clear hr0_3 hc0_3
 have HB := mk (Below.refl w.heap.size w)
 have H : (if a1_0 ≥ 0 then (if a1_0 < a0_0 then (if a1_1 ≥ 0 then (if a1_1 < a0_1 then (if a1_2 ≥ 1 then (if a1_2 ≤ (wrap64 (a0_0 - a1_0)) then (if a1_3 ≥ 1 then (some (decide (a1_3 ≤ (wrap64 (a0_1 - a1_1))))) else (some false)) else (some false)) else (some false)) else (some false)) else (some false)) else (some false)) else (some false)) = some r := h
 clear h
 by_cases c3 : a1_0 ≥ 0
 ·rw [if_pos c3] at H
  have c3b0 : decide (0 ≤ a1_0) = true := decide_eq_true c3
  clear c3
  by_cases c4 : a1_0 < a0_0
  ·rw [if_pos c4] at H
   have c4b0 : decide (a1_0 < a0_0) = true := decide_eq_true c4
   clear c4
   by_cases c5 : a1_1 ≥ 0
   ·rw [if_pos c5] at H
    have c5b0 : decide (0 ≤ a1_1) = true := decide_eq_true c5
    clear c5
    by_cases c6 : a1_1 < a0_1
    ·rw [if_pos c6] at H
     have c6b0 : decide (a1_1 < a0_1) = true := decide_eq_true c6
     clear c6
     by_cases c7 : a1_2 ≥ 1
     ·rw [if_pos c7] at H
      have c7b0 : decide (1 ≤ a1_2) = true := decide_eq_true c7
      clear c7
      by_cases c8 : a1_2 ≤ (wrap64 (a0_0 - a1_0))
      ·rw [if_pos c8] at H
       have c8b0 : decide (a1_2 ≤ (wrap64 (a0_0 - a1_0))) = true := decide_eq_true c8
       clear c8
       by_cases c9 : a1_3 ≥ 1
       ·rw [if_pos c9] at H
        have c9b0 : decide (1 ≤ a1_3) = true := decide_eq_true c9
        clear c9
        obtain rfl := Option.some.inj H
        go_enter Try.func84, Try.ntmps84
        go_wp2_with (first | ((with_reducible refine gate_dst (N := 2) rfl ?_); refine box_event (by rfl) (N := 2) (by rfl) (cs := #[.int .i64 a0_0, .int .i64 a0_1, .int .i64 a0_2, .slice A0_3 l0_3.length c0_3]) (t := 28) (by go_simp; done) ?_; intro gbz1 hg w10 hbox hb; replace HB := mk (below_step HB.out hb); have BKz0 := mk (hbox); clear hb hbox hg) | ((with_reducible refine gate_dst (N := 3) rfl ?_); refine box_event (by rfl) (N := 3) (by rfl) (cs := #[.int .i64 a1_0, .int .i64 a1_1, .int .i64 a1_2, .int .i64 a1_3]) (t := 60) (by go_simp; done) ?_; intro gbz0 hg w11 hbox hb; replace BKz0 := mk (blk_below BKz0.out hb); replace HB := mk (below_step HB.out hb); have BKz1 := mk (hbox); clear hb hbox hg; obtain ⟨hcz13_0, hcz13_1, hcz13_2, hcz13_3, -⟩ := c4 BKz1.out; obtain ⟨hcz14_0, hcz14_1, -⟩ := c4 BKz0.out))
        go_ret
        exact ⟨by rfl, by exact HB.out⟩
       rw [if_neg c9] at H
       have c9b0 : decide (1 ≤ a1_3) = false := decide_eq_false c9
       clear c9
       obtain rfl := Option.some.inj H
       go_enter Try.func84, Try.ntmps84
       go_wp2_with (first | ((with_reducible refine gate_dst (N := 2) rfl ?_); refine box_event (by rfl) (N := 2) (by rfl) (cs := #[.int .i64 a0_0, .int .i64 a0_1, .int .i64 a0_2, .slice A0_3 l0_3.length c0_3]) (t := 28) (by go_simp; done) ?_; intro gbz1 hg w15 hbox hb; replace HB := mk (below_step HB.out hb); have BKz0 := mk (hbox); clear hb hbox hg) | ((with_reducible refine gate_dst (N := 3) rfl ?_); refine box_event (by rfl) (N := 3) (by rfl) (cs := #[.int .i64 a1_0, .int .i64 a1_1, .int .i64 a1_2, .int .i64 a1_3]) (t := 60) (by go_simp; done) ?_; intro gbz0 hg w16 hbox hb; replace BKz0 := mk (blk_below BKz0.out hb); replace HB := mk (below_step HB.out hb); have BKz1 := mk (hbox); clear hb hbox hg; obtain ⟨hcz18_0, hcz18_1, hcz18_2, hcz18_3, -⟩ := c4 BKz1.out; obtain ⟨hcz19_0, hcz19_1, -⟩ := c4 BKz0.out))
       go_ret
       exact ⟨by rfl, by exact HB.out⟩
      rw [if_neg c8] at H
      have c8b0 : decide (a1_2 ≤ (wrap64 (a0_0 - a1_0))) = false := decide_eq_false c8
      clear c8
      obtain rfl := Option.some.inj H
      go_enter Try.func84, Try.ntmps84
      go_wp2_with (first | ((with_reducible refine gate_dst (N := 2) rfl ?_); refine box_event (by rfl) (N := 2) (by rfl) (cs := #[.int .i64 a0_0, .int .i64 a0_1, .int .i64 a0_2, .slice A0_3 l0_3.length c0_3]) (t := 28) (by go_simp; done) ?_; intro gbz1 hg w20 hbox hb; replace HB := mk (below_step HB.out hb); have BKz0 := mk (hbox); clear hb hbox hg) | ((with_reducible refine gate_dst (N := 3) rfl ?_); refine box_event (by rfl) (N := 3) (by rfl) (cs := #[.int .i64 a1_0, .int .i64 a1_1, .int .i64 a1_2, .int .i64 a1_3]) (t := 60) (by go_simp; done) ?_; intro gbz0 hg w21 hbox hb; replace BKz0 := mk (blk_below BKz0.out hb); replace HB := mk (below_step HB.out hb); have BKz1 := mk (hbox); clear hb hbox hg; obtain ⟨hcz23_0, hcz23_1, hcz23_2, -⟩ := c4 BKz1.out; obtain ⟨hcz24_0, hcz24_1, -⟩ := c4 BKz0.out))
      go_ret
      exact ⟨by rfl, by exact HB.out⟩
     rw [if_neg c7] at H
     have c7b0 : decide (1 ≤ a1_2) = false := decide_eq_false c7
     clear c7
     obtain rfl := Option.some.inj H
     go_enter Try.func84, Try.ntmps84
     go_wp2_with (first | ((with_reducible refine gate_dst (N := 2) rfl ?_); refine box_event (by rfl) (N := 2) (by rfl) (cs := #[.int .i64 a0_0, .int .i64 a0_1, .int .i64 a0_2, .slice A0_3 l0_3.length c0_3]) (t := 28) (by go_simp; done) ?_; intro gbz1 hg w25 hbox hb; replace HB := mk (below_step HB.out hb); have BKz0 := mk (hbox); clear hb hbox hg) | ((with_reducible refine gate_dst (N := 3) rfl ?_); refine box_event (by rfl) (N := 3) (by rfl) (cs := #[.int .i64 a1_0, .int .i64 a1_1, .int .i64 a1_2, .int .i64 a1_3]) (t := 60) (by go_simp; done) ?_; intro gbz0 hg w26 hbox hb; replace BKz0 := mk (blk_below BKz0.out hb); replace HB := mk (below_step HB.out hb); have BKz1 := mk (hbox); clear hb hbox hg; obtain ⟨hcz28_0, hcz28_1, hcz28_2, -⟩ := c4 BKz1.out; obtain ⟨hcz29_0, hcz29_1, -⟩ := c4 BKz0.out))
     go_ret
     exact ⟨by rfl, by exact HB.out⟩
    rw [if_neg c6] at H
    have c6b0 : decide (a1_1 < a0_1) = false := decide_eq_false c6
    clear c6
    obtain rfl := Option.some.inj H
    go_enter Try.func84, Try.ntmps84
    go_wp2_with (first | ((with_reducible refine gate_dst (N := 2) rfl ?_); refine box_event (by rfl) (N := 2) (by rfl) (cs := #[.int .i64 a0_0, .int .i64 a0_1, .int .i64 a0_2, .slice A0_3 l0_3.length c0_3]) (t := 28) (by go_simp; done) ?_; intro gbz1 hg w30 hbox hb; replace HB := mk (below_step HB.out hb); have BKz0 := mk (hbox); clear hb hbox hg) | ((with_reducible refine gate_dst (N := 3) rfl ?_); refine box_event (by rfl) (N := 3) (by rfl) (cs := #[.int .i64 a1_0, .int .i64 a1_1, .int .i64 a1_2, .int .i64 a1_3]) (t := 60) (by go_simp; done) ?_; intro gbz0 hg w31 hbox hb; replace BKz0 := mk (blk_below BKz0.out hb); replace HB := mk (below_step HB.out hb); have BKz1 := mk (hbox); clear hb hbox hg; obtain ⟨hcz33_0, hcz33_1, -⟩ := c4 BKz1.out; obtain ⟨hcz34_0, hcz34_1, -⟩ := c4 BKz0.out))
    go_ret
    exact ⟨by rfl, by exact HB.out⟩
   rw [if_neg c5] at H
   have c5b0 : decide (0 ≤ a1_1) = false := decide_eq_false c5
   clear c5
   obtain rfl := Option.some.inj H
   go_enter Try.func84, Try.ntmps84
   go_wp2_with (first | ((with_reducible refine gate_dst (N := 2) rfl ?_); refine box_event (by rfl) (N := 2) (by rfl) (cs := #[.int .i64 a0_0, .int .i64 a0_1, .int .i64 a0_2, .slice A0_3 l0_3.length c0_3]) (t := 28) (by go_simp; done) ?_; intro gbz1 hg w35 hbox hb; replace HB := mk (below_step HB.out hb); have BKz0 := mk (hbox); clear hb hbox hg) | ((with_reducible refine gate_dst (N := 3) rfl ?_); refine box_event (by rfl) (N := 3) (by rfl) (cs := #[.int .i64 a1_0, .int .i64 a1_1, .int .i64 a1_2, .int .i64 a1_3]) (t := 60) (by go_simp; done) ?_; intro gbz0 hg w36 hbox hb; replace BKz0 := mk (blk_below BKz0.out hb); replace HB := mk (below_step HB.out hb); have BKz1 := mk (hbox); clear hb hbox hg; obtain ⟨hcz38_0, hcz38_1, -⟩ := c4 BKz1.out; have hcz39_0 : w36.cell? ⟨gbz1, 0, none⟩ = some (.int .i64 a0_0) := (blk_cell BKz0.out 0).trans rfl))
   go_ret
   exact ⟨by rfl, by exact HB.out⟩
  rw [if_neg c4] at H
  have c4b0 : decide (a1_0 < a0_0) = false := decide_eq_false c4
  clear c4
  obtain rfl := Option.some.inj H
  go_enter Try.func84, Try.ntmps84
  go_wp2_with (first | ((with_reducible refine gate_dst (N := 2) rfl ?_); refine box_event (by rfl) (N := 2) (by rfl) (cs := #[.int .i64 a0_0, .int .i64 a0_1, .int .i64 a0_2, .slice A0_3 l0_3.length c0_3]) (t := 28) (by go_simp; done) ?_; intro gbz1 hg w40 hbox hb; replace HB := mk (below_step HB.out hb); have BKz0 := mk (hbox); clear hb hbox hg) | ((with_reducible refine gate_dst (N := 3) rfl ?_); refine box_event (by rfl) (N := 3) (by rfl) (cs := #[.int .i64 a1_0, .int .i64 a1_1, .int .i64 a1_2, .int .i64 a1_3]) (t := 60) (by go_simp; done) ?_; intro gbz0 hg w41 hbox hb; replace BKz0 := mk (blk_below BKz0.out hb); replace HB := mk (below_step HB.out hb); have BKz1 := mk (hbox); clear hb hbox hg; have hcz43_0 : w41.cell? ⟨gbz0, 0, none⟩ = some (.int .i64 a1_0) := (blk_cell BKz1.out 0).trans rfl; have hcz44_0 : w41.cell? ⟨gbz1, 0, none⟩ = some (.int .i64 a0_0) := (blk_cell BKz0.out 0).trans rfl))
  go_ret
  exact ⟨by rfl, by exact HB.out⟩
 rw [if_neg c3] at H
 have c3b0 : decide (0 ≤ a1_0) = false := decide_eq_false c3
 clear c3
 obtain rfl := Option.some.inj H
 go_enter Try.func84, Try.ntmps84
 go_wp2_with (first | ((with_reducible refine gate_dst (N := 2) rfl ?_); refine box_event (by rfl) (N := 2) (by rfl) (cs := #[.int .i64 a0_0, .int .i64 a0_1, .int .i64 a0_2, .slice A0_3 l0_3.length c0_3]) (t := 28) (by go_simp; done) ?_; intro gbz1 hg w45 hbox hb; replace HB := mk (below_step HB.out hb); have BKz0 := mk (hbox); clear hb hbox hg) | ((with_reducible refine gate_dst (N := 3) rfl ?_); refine box_event (by rfl) (N := 3) (by rfl) (cs := #[.int .i64 a1_0, .int .i64 a1_1, .int .i64 a1_2, .int .i64 a1_3]) (t := 60) (by go_simp; done) ?_; intro gbz0 hg w46 hbox hb; have n1_ := mk (below_step HB.out hb); have n2_ := mk (hbox); clear BKz0; clear HB; have HB := n1_; have BKz1 := n2_; clear hb hbox hg; have hcz48_0 : w46.cell? ⟨gbz0, 0, none⟩ = some (.int .i64 a1_0) := (blk_cell BKz1.out 0).trans rfl))
 go_ret
 exact ⟨by rfl, by exact HB.out⟩


def impl_copyImage.f (a0_0 : Int) (a0_1 : Int) (a0_2 : Int) (l0_3 : List Int) : Option (Int × Int × Int × List Int) := (some (([] : List Int) : List Int)).bind fun y106003 => (if y106003.length + l0_3.length < 17592186044416 then (some (a0_0, a0_1, a0_2, (y106003 ++ l0_3))) else none)
theorem impl_copyImage.calls (a0_0 : Int) (a0_1 : Int) (a0_2 : Int) (A0_3 : Option Addr) (c0_3 : Nat) (l0_3 : List Int) (r1 : Int) (r2 : Int) (r3 : Int) (r4 : List Int) (w : World) (hr0_3 : Kd.C (Kd.int .i64) w A0_3 l0_3.length l0_3) (hc0_3 : l0_3.length ≤ c0_3) (h : impl_copyImage.f a0_0 a0_1 a0_2 l0_3 = some (r1, r2, r3, r4)) :
  Calls Try.prog 105 #[.agg #[.int .i64 a0_0, .int .i64 a0_1, .int .i64 a0_2, .slice A0_3 l0_3.length c0_3]] w fun e w' => ∃ v3_ : Value, e = .returned (.agg #[.int .i64 r1, .int .i64 r2, .int .i64 r3, v3_]) ∧ Kd.R (Kd.int .i64) 3 w' w.heap.size (fun _ => True) v3_ r4 ∧ Below w.heap.size w w' := by
 have hu28 := Try.underlying28
 have HR0_3 := mk hr0_3
 have HC0_3 := mk hc0_3
 clear hr0_3 hc0_3
 have HB := mk (Below.refl w.heap.size w)
 have H : ((some (([] : List Int) : List Int)).bind fun y106003 => (if y106003.length + l0_3.length < 17592186044416 then (some (a0_0, a0_1, a0_2, (y106003 ++ l0_3))) else none)) = some (r1, r2, r3, r4) := h
 clear h
 obtain ⟨y106003, hy106003⟩ : ∃ y_ : List Int, y_ = ([] : List Int) := ⟨_, rfl⟩
 replace H : (if y106003.length + l0_3.length < 17592186044416 then (some (a0_0, a0_1, a0_2, (y106003 ++ l0_3))) else none) = some (r1, r2, r3, r4) := by (have H2_ := (Option.bind_some _ _).symm.trans H; rw [hy106003]; with_reducible exact H2_)
 have Ny106003 := mk hy106003
 clear hy106003
 by_cases c2 : y106003.length + l0_3.length < 17592186044416
 ·rw [if_pos c2] at H
  have LMc2 := mk c2
  clear c2
  obtain ⟨y106006, hy106006⟩ : ∃ y_ : List Int, y_ = (y106003 ++ l0_3) := ⟨_, rfl⟩
  replace H : (some (a0_0, a0_1, a0_2, y106006)) = some (r1, r2, r3, r4) := by (rw [hy106006]; with_reducible exact H)
  have Ny106006 := mk hy106006
  clear hy106006
  simp only [Option.some.injEq, Prod.mk.injEq] at H
  obtain ⟨rfl, rfl, rfl, rfl⟩ := H
  go_enter Try.func105, Try.ntmps105
  go_wp2_with (first | ((with_reducible refine gate_dst (N := 1) rfl ?_); refine box_event ?hg (N := 1) ?hd (cs := #[.int .i64 a0_0, .int .i64 a0_1, .int .i64 a0_2, .slice A0_3 l0_3.length c0_3]) (t := 28) ?hr ?_; (case hd => rfl); (case hg => rfl); (case hr => (go_simp; done)); intro gb106001 hg w3 hbox hb; have n0_ := mk (below_step HB.out hb); have n1_ := mk (hbox); have n2_ := mk ((by rw [hg]; exact (below_size HB.out) : w.heap.size ≤ gb106001)); have n3_ := mk ((by rw [hg]; exact (below_size HB.out) : w.heap.size ≤ gb106001)); clear HB; have HB := n0_; have BK106001 := n1_; have GW106001 := n2_; have GE106001 := n3_; clear n0_ n1_ n2_ n3_; clear hb hbox hg) | ((with_reducible refine gate_dst (N := 2) rfl ?_); refine box_event ?hg (N := 2) ?hd (cs := #[.int .i64 0, .int .i64 0, .int .i64 0, .slice none 0 0]) (t := 28) ?hr ?_; (case hd => rfl); (case hg => rfl); (case hr => (go_simp; done)); intro gb106002 hg w4 hbox hb; have n0_ := mk (blk_below BK106001.out hb); have n1_ := mk (below_step HB.out hb); have n2_ := mk (hbox); have n3_ := mk ((by rw [hg]; exact (below_size HB.out) : w.heap.size ≤ gb106002)); have n4_ := mk ((by rw [hg]; exact (below_size HB.out) : w.heap.size ≤ gb106002)); have n5_ := mk ((by rw [hg]; exact Nat.ne_of_lt (blk_lt BK106001.out) : gb106001 ≠ gb106002)); have n6_ := mk ((by rw [hg]; exact Nat.ne_of_gt (blk_lt BK106001.out) : gb106002 ≠ gb106001)); clear BK106001; clear HB; have BK106001 := n0_; have HB := n1_; have BK106002 := n2_; have GW106002 := n3_; have GE106002 := n4_; have NB106001_106002 := n5_; have NB106002_106001 := n6_; clear n0_ n1_ n2_ n3_ n4_ n5_ n6_; clear hb hbox hg) | ((with_reducible refine gate_dst (N := 3) rfl ?_); refine Kd.R_lit (Kd.int .i64) _ 3 ?hg (N := 3) ?hd (xs := ([] : List Int)) (inner := []) (ok := fun _ => True) (okp := fun _ => True) ?hr ?hp (fun _ hk => hk) trivial (Below.refl _ _) (Nat.le_refl _) (by simp) ?_; (case hd => rfl); (case hg => rfl); (case hr => (go_simp; done)); (case hp => exact (Reps.none _ _)); intro v106004 w5 ho6 hb hg_ hnew_; clear hg_ hnew_; (rw [← Ny106003.out] at ho6); have n0_ := mk (Kd.R_lower ho6 (below_size HB.out)); have n1_ := mk (blk_below BK106001.out hb); have n2_ := mk (blk_below BK106002.out hb); have n3_ := mk (below_step HB.out hb); clear BK106001; clear BK106002; clear HB; have HO106005 := n0_; have BK106001 := n1_; have BK106002 := n2_; have HB := n3_; clear n0_ n1_ n2_ n3_; clear hb ho6; have hnb7 := NB106001_106002.out; have hnc7 := NB106002_106001.out; obtain ⟨hcz8_0, hcz8_1, hcz8_2, hcz8_3, hfz8_0, hfz8_1, hfz8_2, -⟩ := c4 BK106001.out; have hfz8_3 := blk_frozen BK106001.out 3) | ((with_reducible refine gate_builtin (b := .append) (xs := #[.tmp 3, .tmp 5]) rfl ?_); at_builtin; refine Kd.R_append_rows (Kd.int .i64) (w0 := w) w.heap.size rfl (.tmp 3) (.tmp 5) 22 3 (.int .i64 0) 8 rfl Try.underlying22 info3 rfl (by decide) (by omega) v106004 y106003 l0_3 _ _ _ (fun _ => True) (fun _ => False) rfl rfl ?aO ?aR (fun _ _ h => h) (fun _ h => h.elim) ?aF ?aB ?aS ?aL ?_; (case aR => repeat (exact (Kd.C_below HR0_3.out HB.out))); (case aB => exact HB.out); (case aF => exact (fun _ _ => trivial)); (case aO => exact HO106005.out); (case aS => exact (below_size HB.out)); (case aL => have := LMc2.out; omega); intro v106007 w9 ho hb hg hat; rw [← Ny106006.out] at ho; have n0_ := mk (blk_grown (g := gb106001) (o := .cells #[.int .i64 a0_0, .int .i64 a0_1, .int .i64 a0_2, .slice A0_3 l0_3.length c0_3] 28 (0, 0)) BK106001.out hg (Kd.R_ne HO106005.out BK106001.out (by decide))); have n1_ := mk (blk_grown (g := gb106002) (o := .cells #[.int .i64 0, .int .i64 0, .int .i64 0, .slice none 0 0] 28 (0, 0)) BK106002.out hg (Kd.R_ne HO106005.out BK106002.out (by decide))); have n2_ := mk (hb); have n3_ := mk (ho); clear BK106001; clear BK106002; clear HB; clear HO106005; have BK106001 := n0_; have BK106002 := n1_; have HB := n2_; have HO106008 := n3_; clear n0_ n1_ n2_ n3_; clear ho hb hg hat; obtain ⟨Ao10, co10, eo10⟩ := Kd.R_slice HO106008.out; subst eo10; obtain ⟨hcz11_0, hcz11_1, hcz11_2, hcz11_3, hfz11_0, hfz11_1, hfz11_2, hfz11_3⟩ := c4 BK106001.out; obtain ⟨hcz12_0, hcz12_1, hcz12_2, hcz12_3, hfz12_0, hfz12_1, hfz12_2, hfz12_3⟩ := c4 BK106002.out))
  refine bodyPost_ret (results_cell_row rfl _ _ gb106002 28 #[.int .i64 a0_0, .int .i64 a0_1, .int .i64 a0_2, .slice Ao10 y106006.length co10] (0, 0) _ rfl (by refine blk_put (cs := #[.int .i64 a0_0, .int .i64 a0_1, .int .i64 a0_2, .slice none 0 0]) ?_ 3 _ rfl; refine blk_put (cs := #[.int .i64 a0_0, .int .i64 a0_1, .int .i64 0, .slice none 0 0]) ?_ 2 _ rfl; refine blk_put (cs := #[.int .i64 a0_0, .int .i64 0, .int .i64 0, .slice none 0 0]) ?_ 1 _ rfl; refine blk_put (cs := #[.int .i64 0, .int .i64 0, .int .i64 0, .slice none 0 0]) ?_ 0 _ rfl; refine blk_far ?_ NB106002_106001.out _; exact BK106002.out) Try.underlying28 rfl (by kernel_rfl)) rfl ?_
  exact ⟨_, by rfl, by exact Kd.R_mono (R4 (Kd.R_far (p := ⟨gb106001, 3, none⟩) (Kd.R_types (Kd.R_types HO106008.out BK106001.out (by decide)) BK106002.out (by decide)) (fun _ hk => hk.1.2) (.slice Ao10 y106006.length co10)) (.int .i64 a0_0) (.int .i64 a0_1) (.int .i64 a0_2) (.slice Ao10 y106006.length co10)) (fun _ hk => trivial), by repeat (with_reducible first | exact HB.out | refine below_set ?_ GE106001.out | refine below_set ?_ GE106002.out)⟩
 ·rw [if_neg c2] at H
  exact absurd H (by simp)


/- A part of a row of one's own is overwritten by a copy; loads of images and numbers in a region that draws its order. -/

theorem yields_img {ops : Array Oper} {S : World → Prop} {op : Oper} {a : Act} (hw : Region.wanted op (yielded ops a.tmps) = true) (x : Operand) (ho : op.op = .load 28 x)
    (B : Nat) (hx : a.eval x = .pointer (some ⟨B, 0, none⟩)) (cs : Array Value) (hS : ∀ w, S w → w.heap[B]? = some (.cells cs 28 (0, 0))) (hn : cs.size = 4) : YieldsIf Try.prog ops S op (.agg cs) a :=
  .inl ⟨hw, fun w hw' => by
    unfold execOp
    simp only [ho, hx, Instr.loadAt, Instr.sureAddr, Sem.run_bind, Sem.run_pure, Result.andThen_ok, run_loadVar_row w B 28 28 cs (0, 0) _ (hS w hw') Try.underlying28 rfl (by rw [hn]; kernel_rfl)]⟩
/-- a row of numbers, a part of it overwritten -/
def laidOver (d : List Int) (j : Nat) (ys : List Int) : List Int := d.take j ++ (ys ++ d.drop (j + ys.length))
theorem laidOver_length (d : List Int) (j : Nat) (ys : List Int) (h : j + ys.length ≤ d.length) : (laidOver d j ys).length = d.length := by
  unfold laidOver
  rw [List.length_append, List.length_append, List.length_take, List.length_drop]
  omega
theorem take_three {α : Type} (A B C : List α) (L : Nat) (h : A.length + B.length ≤ L) : (A ++ (B ++ C)).take L = A ++ (B ++ C.take (L - (A.length + B.length))) := by
  rw [List.take_append, List.take_of_length_le (by omega), List.take_append, List.take_of_length_le (by omega), Nat.sub_sub]
theorem copyAt_wp {o : Oper} {a : Act} {W : World} {K : Act → World → Prop} {Q : Exit → Act → World → Prop} (s x : Operand) (t t' : TypeId)
    (ho : o.op = .call { callee := .builtin .copy, args := #[s, x], argTypes := #[t, t'] }) (ht : Try.prog.underlying t = some (.slice 3))
    (g cap off : Nat) (xs ys : List Int) (A : Option Addr) (m c n c1 base : Nat) (ok : Nat → Prop) (hs : a.eval s = .slice (some ⟨g, off, none⟩) m c1) (hx : a.eval x = .slice A m c) (hn : n = xs.length)
    (HO : Kd.R (Kd.int .i64) 3 W base ok (.slice (some ⟨g, 0, none⟩) n cap) xs) (HR : Kd.C (Kd.int .i64) W A m ys) (hfit : off + m ≤ n)
    (h : ∀ w1, Kd.R (Kd.int .i64) 3 w1 base ok (.slice (some ⟨g, 0, none⟩) n cap) (laidOver xs off ys) → base ≤ g → W.grownBy w1 (some g) → K (a.put o.dst (.int .i64 (m : Int))) w1) :
    Oper.wp Try.prog o a W K Q := by
  subst hn
  have hR := Kd.reads_of_C (enc := Value.int .i64) (d := (0 : Int)) HR
  have hm : ys.length = m := hR.1
  have hown := Kd.own_of_R HO
  have hinfo : (Try.prog.info? 3).map (·.size) = some 1 := by kernel_rfl
  have fin : ∀ w1, (Builtin.copy_ #[t, t'] o.type #[.slice (some ⟨g, off, none⟩) m c1, .slice A m c]).run Try.prog W = .ok (goInt (m : Int)) w1 → Kd.R (Kd.int .i64) 3 w1 base ok (.slice (some ⟨g, 0, none⟩) xs.length cap) (laidOver xs off ys) → base ≤ g → W.grownBy w1 (some g) → Oper.wp Try.prog o a W K Q := by
    intro w1 hr hrow hbg hg
    unfold Oper.wp execOp
    simp only [ho, resolve, invoke, builtin, Sem.run_bind, Sem.run_pure, Result.andThen_ok, List.map_toArray, List.map_cons, List.map_nil, hs, hx, hr]
    exact h w1 hrow hbg hg
  rcases hown.2 with ⟨e0, _⟩ | ⟨g', cap', cur, hv, hb, hh, hnc, hcm, hcs, htake⟩
  · cases e0
  · injection hv with hv1 hv2 hv3
    injection hv1 with hv1
    injection hv1 with hv1 _ _
    subst hv1
    subst hv3
    rcases Nat.eq_zero_or_pos m with h0 | hp
    · obtain rfl : ys = [] := List.eq_nil_of_length_eq_zero (by omega)
      refine fin W ?_ (by unfold laidOver; rw [List.length_nil, Nat.add_zero, List.nil_append, List.take_append_drop]; exact HO) hb (World.grownBy.refl W _)
      rw [h0]
      exact run_copy_none W t t' o.type 3 (some ⟨g, off, none⟩) A 0 c1 0 c ht hinfo rfl
    · obtain ⟨ad, hA, hc⟩ := hR.2.2 (by omega)
      have hcs1 : cur.size = cap := by omega
      have hkl : (encs (Value.int .i64) ys).length = m := by rw [encs_length, hm]
      have hsrc : ∀ j u, (encs (Value.int .i64) ys)[j]? = some u → W.cell? (ad.add j) = some u := by
        intro j u hu
        have hj : j < ys.length := by
          rcases Nat.lt_or_ge j ys.length with h | h
          · exact h
          · rw [List.getElem?_eq_none (by rw [encs_length]; exact h)] at hu
            cases hu
        rw [encs_get (d := (0 : Int)) _ j hj] at hu
        rw [hc j (by omega), ← hu]
      have hr := run_copy_cells (P := Try.prog) W t t' o.type 3 g off m c1 ad m c (encs (Value.int .i64) ys) ht hinfo (by rw [hkl]; simp) hsrc
        (fun j hj => by rw [cell_of_row W g _ cur 3 (0, 0) hh]; simp; omega) (fun j _ => blk_frozen hh _) (by intro u hu; simp only [encs, List.mem_map] at hu; obtain ⟨q, _, rfl⟩ := hu; rfl)
      obtain ⟨cur', h3, h4, h5⟩ := setCells_row (encs (Value.int .i64) ys) off W cur hh (by rw [hkl]; omega)
      obtain ⟨s1, s2, s3, s4⟩ := setCells_same g (encs (Value.int .i64) ys) off W
      refine fin _ (by rw [hA, hr, hkl]) (Kd.R_of_own ?_ HO.1) hb ⟨s1, s2, s3, by rw [s4]; exact Nat.le_refl _, fun k _ hk => setCells_far _ _ k (fun he => hk (by rw [he]))⟩
      have hln := laidOver_length xs off ys (by omega)
      rw [hln]
      refine ⟨by rw [encs_length, hln, Nat.mul_one], .inr ⟨g, cap, cur', rfl, hb, h3, hnc, hcm, by rw [h4, hcs], ?_⟩⟩
      have htk : cur.toList.take xs.length = encs (Value.int .i64) xs := by rw [← htake, Nat.mul_one]
      rw [h5, hkl, Nat.mul_one]
      unfold laidOver
      rw [encs_append, encs_append]
      have e1 : encs (Value.int .i64) (xs.take off) = (cur.toList.take off) := by
        have : encs (Value.int .i64) (xs.take off) = (encs (Value.int .i64) xs).take off := by simp [encs, List.map_take]
        rw [this, ← htk, List.take_take, Nat.min_eq_left (by omega)]
      have e2 : encs (Value.int .i64) (xs.drop (off + ys.length)) = (cur.toList.drop (off + m)).take (xs.length - (off + m)) := by
        have : encs (Value.int .i64) (xs.drop (off + ys.length)) = (encs (Value.int .i64) xs).drop (off + ys.length) := by simp [encs, List.map_drop]
        rw [this, ← htk, hm, List.drop_take]
      rw [e1, e2]
      have e3 : (cur.toList.take off).length = off := by rw [List.length_take, Array.length_toList, Nat.min_eq_left (by omega)]
      first | rw [List.append_assoc, take_three _ _ _ _ (by rw [e3, hkl]; omega), e3, hkl] | rw [take_three _ _ _ _ (by rw [e3, hkl]; omega), e3, hkl]
def rowD (px : Nat → Nat → List Int) (a y : Nat) : List Int := (List.range a).flatMap (fun x => px x y)
def imgD (px : Nat → Nat → List Int) (a b : Nat) : List Int := (List.range b).flatMap (fun y => rowD px a y)

def spec_copyImage.f (a0_0 : Int) (a0_1 : Int) (a0_2 : Int) (l0_3 : List Int) : Option (Int × Int × Int × List Int) := (spec_copyInts.f l0_3).bind fun tz0 => (some (a0_0, a0_1, a0_2, tz0))
def spec_copyImage.T1 : Bool × List (List Nat × List Nat) := (true, [([], []), ([0], [0]), ([], []), ([2], [2]), ([], []), ([4], [4]), ([], []), ([6], [6]), ([7], [7]), ([1, 3, 5, 8], [1, 3, 5, 8]), ([9, 8, 0, 1, 2, 3, 4, 5, 6, 7, 8, 9], [9])])
def spec_copyImage.B1 : List Nat := [0, 1, 0, 4, 0, 16, 0, 64, 192, 511, 1023]
theorem spec_copyImage.tab1 : rtab .any (opsOf Try.f86 1) = spec_copyImage.T1 := by kernel_rfl
theorem spec_copyImage.bits1 : waitsOk spec_copyImage.T1.2 spec_copyImage.B1 = true := by kernel_rfl
theorem spec_copyImage.calls (a0_0 : Int) (a0_1 : Int) (a0_2 : Int) (A0_3 : Option Addr) (c0_3 : Nat) (l0_3 : List Int) (r1 : Int) (r2 : Int) (r3 : Int) (r4 : List Int) (w : World) (hr0_3 : Kd.C (Kd.int .i64) w A0_3 l0_3.length l0_3) (hc0_3 : l0_3.length ≤ c0_3) (h : spec_copyImage.f a0_0 a0_1 a0_2 l0_3 = some (r1, r2, r3, r4)) :
  Calls Try.prog 86 #[.agg #[.int .i64 a0_0, .int .i64 a0_1, .int .i64 a0_2, .slice A0_3 l0_3.length c0_3]] w fun e w' => ∃ v3_ : Value, e = .returned (.agg #[.int .i64 r1, .int .i64 r2, .int .i64 r3, v3_]) ∧ Kd.R (Kd.int .i64) 3 w' w.heap.size (fun _ => True) v3_ r4 ∧ Below w.heap.size w w' := by
 have HR0_3 := mk hr0_3
 have HC0_3 := mk hc0_3
 clear hr0_3 hc0_3
 have HB := mk (Below.refl w.heap.size w)
 have H : ((spec_copyInts.f l0_3).bind fun tz0 => (some (a0_0, a0_1, a0_2, tz0))) = some (r1, r2, r3, r4) := h
 clear h
 replace H := Option.bind_eq_some_iff.mp H
 obtain ⟨tz0, A20, H⟩ := H
 replace H : (some (a0_0, a0_1, a0_2, tz0)) = some (r1, r2, r3, r4) := H
 have A2 := mk A20
 clear A20
 simp only [Option.some.injEq, Prod.mk.injEq] at H
 obtain ⟨rfl, rfl, rfl, rfl⟩ := H
 go_enter Try.func86, Try.ntmps86
 try go_wp2_with (first | ((with_reducible refine gate_dst (N := 1) rfl ?_); refine box_event (by rfl) (N := 1) (by rfl) (cs := #[.int .i64 a0_0, .int .i64 a0_1, .int .i64 a0_2, .slice A0_3 l0_3.length c0_3]) (t := 28) (by go_simp; done) ?_; intro gbz1 hg w3 hbox hb; replace HB := mk (below_step HB.out hb); have BKz0 := mk (hbox); clear hb hbox hg) | ((with_reducible refine gate_dst (N := 2) rfl ?_); refine box_event (by rfl) (N := 2) (by rfl) (cs := #[.int .i64 0, .int .i64 0, .int .i64 0, .slice none 0 0]) (t := 28) (by go_simp; done) ?_; intro gbz0 hg w4 hbox hb; have BKz1 := mk (hbox); have GEz0 := mk ((by rw [hg]; exact (below_size HB.out) : w.heap.size ≤ gbz0)); replace HB := mk (below_step HB.out hb); have NBz0 := mk ((by rw [hg]; exact Nat.ne_of_lt (blk_lt BKz0.out) : gbz1 ≠ gbz0)); replace BKz0 := mk (blk_below BKz0.out hb); clear hb hbox hg))
 replace BKz0 := mk (blk_drew BKz0.out)
 replace BKz1 := mk (blk_drew BKz1.out)
 replace HB := mk (below_drew1 HB.out)
 refine start_ (n := 11) (S := fun w' => w'.cell? ⟨gbz1, 0, none⟩ = some (.int .i64 a0_0) ∧ w'.cell? ⟨gbz1, 1, none⟩ = some (.int .i64 a0_1) ∧ w'.cell? ⟨gbz1, 2, none⟩ = some (.int .i64 a0_2) ∧ w'.cell? ⟨gbz1, 3, none⟩ = some (.slice A0_3 l0_3.length c0_3)) (ds := []) #[false, false, false, false, false, false, false, false, false, false, false] (by kernel_rfl) rfl rfl ⟨blk_cell BKz0.out 0, blk_cell BKz0.out 1, blk_cell BKz0.out 2, blk_cell BKz0.out 3⟩ (fun hHeld => ?_); refine with_tabW spec_copyImage.tab1 spec_copyImage.bits1 (fun HT_ HW_ => ?_)
 generalize w4.drew = w5 at BKz0 BKz1 HB hHeld ⊢
 refine pu 0 3 ?_ ?_ rfl rfl (any_of HT_.out (by kernel_rfl)) (Or.inl ⟨by rfl, ?_⟩) ?_ ?_
 rotate_left 2
 ·intro w'
  go_simp
  with_reducible rfl
 ·simp only [seval]
  rfl
 refine pu 2 5 ?_ ?_ rfl rfl (any_of HT_.out (by kernel_rfl)) (Or.inl ⟨by rfl, ?_⟩) ?_ ?_
 rotate_left 2
 ·intro w'
  go_simp
  with_reducible rfl
 ·simp only [seval]
  rfl
 refine pu 4 7 ?_ ?_ rfl rfl (any_of HT_.out (by kernel_rfl)) (Or.inl ⟨by rfl, ?_⟩) ?_ ?_
 rotate_left 2
 ·intro w'
  go_simp
  with_reducible rfl
 ·simp only [seval]
  rfl
 refine pu 6 9 ?_ ?_ rfl rfl (any_of HT_.out (by kernel_rfl)) (Or.inl ⟨by rfl, ?_⟩) ?_ ?_
 rotate_left 2
 ·intro w'
  go_simp
  with_reducible rfl
 ·simp only [seval]
  rfl
 refine tk 1 4 ?_ ?_ rfl rfl (take_ofW HT_.out HW_.out (by kernel_rfl)) (Or.inl ⟨by rfl, ?_⟩) hHeld ?_ ?_
 rotate_left 2
 ·rintro w' ⟨s0, s1, s2, s3⟩
  go_simp
  with_reducible rfl
 ·simp only [seval]
  rfl
 refine tk 3 6 ?_ ?_ rfl rfl (take_ofW HT_.out HW_.out (by kernel_rfl)) (Or.inl ⟨by rfl, ?_⟩) hHeld ?_ ?_
 rotate_left 2
 ·rintro w' ⟨s0, s1, s2, s3⟩
  go_simp
  with_reducible rfl
 ·simp only [seval]
  rfl
 refine tk 5 8 ?_ ?_ rfl rfl (take_ofW HT_.out HW_.out (by kernel_rfl)) (Or.inl ⟨by rfl, ?_⟩) hHeld ?_ ?_
 rotate_left 2
 ·rintro w' ⟨s0, s1, s2, s3⟩
  go_simp
  with_reducible rfl
 ·simp only [seval]
  rfl
 refine tk 7 10 ?_ ?_ rfl rfl (take_ofW HT_.out HW_.out (by kernel_rfl)) (Or.inl ⟨by rfl, ?_⟩) hHeld ?_ ?_
 rotate_left 2
 ·rintro w' ⟨s0, s1, s2, s3⟩
  go_simp
  with_reducible rfl
 ·simp only [seval]
  rfl
 refine one_ (i := 8) (N := some 11) #[true, true, true, true, true, true, true, true, true, false, false] rfl rfl (one_of HT_.out (by kernel_rfl)) (by decide) (fun K hK => ?_)
 refine goes_ Try.func95 (by kernel_rfl) rfl #[.slice A0_3 l0_3.length c0_3] (by rfl) rfl rfl (by (try simp only [bitvec_to_nat]); rfl) ?_
 with_reducible refine (spec_copyInts.calls _ _ l0_3 tz0 _ ?side1 ?side2 A2.out).mono ?_
 (case side1 => repeat (exact (Kd.C_below HR0_3.out HB.out)))
 (case side2 => exact HC0_3.out)
 rintro e w6 ⟨vz0, rfl, ho0, hb⟩
 refine ⟨_, rfl, ?_⟩
 have HOz0 := mk (Kd.R_lower ho0 (below_size HB.out))
 replace BKz0 := mk (blk_below BKz0.out hb)
 replace BKz1 := mk (blk_below BKz1.out hb)
 replace HB := mk (below_step HB.out hb)
 (try clear hb)
 (try clear ho0)
 obtain ⟨Ao7, co7, eo7⟩ := Kd.R_slice HOz0.out
 (subst eo7)
 refine hK.out _ _ ⟨blk_cell BKz0.out 0, blk_cell BKz0.out 1, blk_cell BKz0.out 2, blk_cell BKz0.out 3⟩ (fun hHeld => ?_)
 clear hK K
 refine norm_ (a' := ?_) ?_ ?_
 rotate_left
 ·show Act.put _ (some 11) _ = _
  simp only [seval]
  rfl
 refine pu 9 12 ?_ ?_ rfl rfl (any_of HT_.out (by kernel_rfl)) (Or.inl ⟨by rfl, ?_⟩) ?_ ?_
 rotate_left 2
 ·intro w'
  go_simp
  with_reducible rfl
 ·simp only [seval]
  rfl
 refine one_ (i := 10) (N := none) #[true, true, true, true, true, true, true, true, true, true, true] rfl rfl (one_of HT_.out (by kernel_rfl)) (by decide) (fun K hK => ?_)
 obtain ⟨hs8, hs9, hs10, hs11, hfs8, hfs9, hfs10, hfs11⟩ := c4 BKz1.out
 refine skip_ (w1 := ?_) (by rfl) rfl ?_ ?_
 rotate_left
 ·go_simp
  rfl
 refine hK.out _ _ ⟨(e4 NBz0.out hHeld.1), (e4 NBz0.out hHeld.2.1), (e4 NBz0.out hHeld.2.2.1), (e4 NBz0.out hHeld.2.2.2)⟩ (fun hHeld => ?_)
 clear hK K
 refine done_ (done_of HT_.out (by kernel_rfl)) ?_
 try go_wp2
 refine bodyPost_ret (results_cell_row rfl _ _ gbz0 28 #[.int .i64 a0_0, .int .i64 a0_1, .int .i64 a0_2, .slice Ao7 tz0.length co7] (0, 0) _ rfl (by refine p4 (.int .i64 0) (.int .i64 0) (.int .i64 0) (.slice none 0 0) ?_; exact BKz1.out) Try.underlying28 rfl (by kernel_rfl)) rfl ?_
 exact ⟨_, by rfl, by exact Kd.R_mono (R4 (Kd.R_types HOz0.out BKz1.out (by decide)) (.int .i64 a0_0) (.int .i64 a0_1) (.int .i64 a0_2) (.slice Ao7 tz0.length co7)) (fun _ hk => trivial), by repeat (with_reducible first | exact HB.out | refine below_set ?_ GEz0.out)⟩

end Go.Proofs.Ytbgohbinonkhfaa.Q
