/- A part of the proof that the statement FnDirtyTilesSaid holds, under no condition of its own: Clean tiles are unchanged: the law FnDirtyTiles over lists of numbers alone. -/
import Derived.Test.YtnofkbbcbpjhfaaCFnDirtyTiles3
import Derived.Test.YtnofkbbcbpjhfaaCFnDirtyTiles1
import Derived.Test.YtnofkbbcbpjhfaaCFnDirtyTiles2
import Derived.Test.YtnofkbbcbpjhfaaCFnDirtyTiles4
import Derived.Test.YtnofkbbcbpjhfaaCFnDirtyTiles5
import Derived.Test.YtnofkbbcbpjhfaaRows
import Derived.JoinedOf
import Derived.KernelRfl
import Derived.WalkKit
import Derived.ProofKit
import Derived.OpenShut
import Derived.ShutString
import Derived.ChangeOld
import Derived.Below
import Derived.SizedLaws
import Derived.Test.YtnofkbbcbpjhfaaCFnDirtyTilesW1
/- Copies of a list of Box: they are the list. -/
namespace Go.Proofs.Ytnofkbbcbpjhfaa.Pure
open Go.RowKit Go.Proofs.Ytnofkbbcbpjhfaa.Q Go.Proofs.YtnofkbbcbpjhfaaW.PrintWords Go.Proofs.YtnofkbbcbpjhfaaW.PrintLast Go.Proofs.YtnofkbbcbpjhfaaW.PrintMore
set_option linter.unusedVariables false
set_option linter.unusedSimpArgs false

abbrev Box := S47
theorem rdBox (l : List Box) (i : Nat) (h : i < l.length) : rd_T47 l (i : Int) = l[i] := by simp [rd_T47, h]

/- The boxes of an image's tiles, as the program and the reference have them. -/

def colsOf (w : Nat) : Nat := (w + 3) / 4
def tileN (w h : Nat) (t : Nat) : Box := ⟨((t % colsOf w * 4 : Nat) : Int), ((t / colsOf w * 4 : Nat) : Int), mn 4 ((w : Int) - ((t % colsOf w * 4 : Nat) : Int)), mn 4 ((h : Int) - ((t / colsOf w * 4 : Nat) : Int))⟩
def tilesN (w h : Nat) (n : Nat) : List Box := (List.range n).map (tileN w h)
def tilesV (w h : Nat) : List Box := tilesN w h (colsOf w * colsOf h)
theorem tilesN_length (w h n : Nat) : (tilesN w h n).length = n := by simp [tilesN]
theorem tilesN_succ (w h n : Nat) : tilesN w h (n + 1) = tilesN w h n ++ [tileN w h n] := by simp [tilesN, List.range_succ]
theorem cols_bounds (w : Nat) (h1 : 1 ≤ w) (h2 : w ≤ 16) : 1 ≤ colsOf w ∧ colsOf w ≤ 4 := by unfold colsOf; omega
theorem tiles_count (w h : Nat) (h1 : 1 ≤ w) (h2 : w ≤ 16) (h3 : 1 ≤ h) (h4 : h ≤ 16) : 1 ≤ colsOf w * colsOf h ∧ colsOf w * colsOf h ≤ 16 := by
 have a := cols_bounds w h1 h2
 have b := cols_bounds h h3 h4
 have := Nat.mul_le_mul a.2 b.2
 have := Nat.mul_le_mul a.1 b.1
 omega
theorem tileN_at (w h r c : Nat) (hc : c < colsOf w) : tileN w h (r * colsOf w + c) = ⟨((c * 4 : Nat) : Int), ((r * 4 : Nat) : Int), mn 4 ((w : Int) - ((c * 4 : Nat) : Int)), mn 4 ((h : Int) - ((r * 4 : Nat) : Int))⟩ := by
 have e1 : (r * colsOf w + c) % colsOf w = c := by rw [Nat.mul_comm, Nat.mul_add_mod, Nat.mod_eq_of_lt hc]
 have e2 : (r * colsOf w + c) / colsOf w = r := by rw [Nat.mul_comm, Nat.mul_add_div (by omega), Nat.div_eq_of_lt hc, Nat.add_zero]
 unfold tileN
 rw [e1, e2]
theorem impl_tileBoxes_ev (w h : Nat) (p : Int) (d : List Int) (h1 : 1 ≤ w) (h2 : w ≤ 16) (h3 : 1 ≤ h) (h4 : h ≤ 16) : Ev (fun k => impl_tileBoxes.f k w h p d) (tilesV w h) := by
 have hc := cols_bounds w h1 h2
 have hr := cols_bounds h h3 h4
 have key := ev_up2 (colsOf h) (fun k r (s : List Box) => impl_tileBoxes.l0 k s ((r * 4 : Nat) : Int) w h p d) (fun r s => s = tilesN w h (r * colsOf w)) (fun _ _ => tilesV w h)
  (by
   intro r s hrr hs
   right
   refine ⟨tilesN w h ((r + 1) * colsOf w), fun R hR => ?_, rfl, rfl⟩
   have inner := ev_up2 (colsOf w) (fun k c (s : List Box) => impl_tileBoxes.l1 k s ((r * 4 : Nat) : Int) ((c * 4 : Nat) : Int) w h p d) (fun c s => s = tilesN w h (r * colsOf w + c)) (fun _ _ => R)
    (by
     intro c s hcc hs
     right
     refine ⟨tilesN w h (r * colsOf w + (c + 1)), fun R' hR' => ?_, rfl, rfl⟩
     refine Ev.step (fun k => ?_) hR'
     have hlen : s.length = r * colsOf w + c := by rw [hs, tilesN_length]
     have hm : r * colsOf w ≤ 4 * 4 := Nat.mul_le_mul (by omega) hc.2
     have hcw : c * 4 < w := by unfold colsOf at hcc; omega
     have hrh : r * 4 < h := by unfold colsOf at hrr; omega
     simp only [impl_tileBoxes.l1]
     rw [if_pos (by omega), if_pos (by omega), w64 (x := ((c * 4 : Nat) : Int) + 4) (by omega) (by omega), w64 (x := (w : Int) - ((c * 4 : Nat) : Int)) (by omega) (by omega), w64 (x := (h : Int) - ((r * 4 : Nat) : Int)) (by omega) (by omega), ← Nat.add_assoc, tilesN_succ, tileN_at w h r c hcc, ← hs, show ((c * 4 : Nat) : Int) + 4 = (((c + 1) * 4 : Nat) : Int) by omega])
    (by
     intro s hs
     refine Ev.step (fun k => ?_) (show Ev (fun k => impl_tileBoxes.l0 k s (((r + 1) * 4 : Nat) : Int) w h p d) R from by rw [hs, ← Nat.succ_mul]; exact hR)
     have hcw : ¬ colsOf w * 4 < w := by unfold colsOf; omega
     simp only [impl_tileBoxes.l1]
     rw [if_neg (by omega), w64 (x := ((r * 4 : Nat) : Int) + 4) (by omega) (by omega), show ((r * 4 : Nat) : Int) + 4 = (((r + 1) * 4 : Nat) : Int) by omega])
    (colsOf w) 0 s (by omega) (by rw [hs, Nat.add_zero])
   have inner' : Ev (fun k => impl_tileBoxes.l1 k s ((r * 4 : Nat) : Int) 0 w h p d) R := inner
   refine Ev.step (fun k => ?_) inner'
   have hrh : r * 4 < h := by unfold colsOf at hrr; omega
   simp only [impl_tileBoxes.l0]
   rw [if_pos (by omega)])
  (by
   intro s hs
   refine Ev.step (f := fun _ => some s) (fun k => ?_) (ev_const ?_)
   ·have hrh : ¬ colsOf h * 4 < h := by unfold colsOf; omega
    simp only [impl_tileBoxes.l0]
    rw [if_neg (by omega)]
   ·rw [hs, Nat.mul_comm]; rfl)
  (colsOf h) 0 [] (by omega) (by simp [tilesN])
 unfold impl_tileBoxes.f
 simpa using key
theorem colsI (w : Nat) (h2 : w ≤ 16) : wrap64 (Int.tdiv (wrap64 ((wrap64 ((w : Int) + 4)) - 1)) 4) = ((colsOf w : Nat) : Int) := by
 rw [w64 (x := (w : Int) + 4) (by omega) (by omega), w64 (x := (w : Int) + 4 - 1) (by omega) (by omega), tdiv_nn _ _ (by omega), w64 (by omega) (by omega)]
 unfold colsOf
 omega
theorem spec_tileCount_eq (w h : Nat) (p : Int) (d : List Int) (h1 : 1 ≤ w) (h2 : w ≤ 16) (h3 : 1 ≤ h) (h4 : h ≤ 16) : spec_tileCount.f w h p d = some ((colsOf w * colsOf h : Nat) : Int) := by
 have := tiles_count w h h1 h2 h3 h4
 unfold spec_tileCount.f
 rw [colsI w h2, colsI h h4, ← Int.natCast_mul, w64 (by omega) (by omega)]
theorem spec_tileBox_eq (w h : Nat) (p : Int) (d : List Int) (t : Nat) (h1 : 1 ≤ w) (h2 : w ≤ 16) (h3 : 1 ≤ h) (h4 : h ≤ 16) (ht : t < 1000) : spec_tileBox.f w h p d t = some ((tileN w h t).f0, (tileN w h t).f1, (tileN w h t).f2, (tileN w h t).f3) := by
 have hc := cols_bounds w h1 h2
 have hm : t % colsOf w < colsOf w := Nat.mod_lt _ (by omega)
 have hd : t / colsOf w ≤ t := Nat.div_le_self _ _
 have e1 : Int.tmod (t : Int) ((colsOf w : Nat) : Int) = ((t % colsOf w : Nat) : Int) := by rw [tmod_nn _ _ (by omega)]; rfl
 have e2 : Int.tdiv (t : Int) ((colsOf w : Nat) : Int) = ((t / colsOf w : Nat) : Int) := by rw [tdiv_nn _ _ (by omega)]; rfl
 unfold spec_tileBox.f tileN
 rw [colsI w h2, if_neg (by omega), e1, e2]
 generalize t % colsOf w = a at *
 generalize t / colsOf w = b at *
 rw [w64 (x := ((b : Nat) : Int)) (by omega) (by omega), w64 (x := ((b : Nat) : Int) * 4) (by omega) (by omega), w64 (x := ((a : Nat) : Int) * 4) (by omega) (by omega), w64 (x := (w : Int) - ((a : Nat) : Int) * 4) (by omega) (by omega), w64 (x := (h : Int) - ((b : Nat) : Int) * 4) (by omega) (by omega)]
 simp
def tilesOf (w h p : Int) (d : List Int) : List Box := if validI w h p d = true then tilesV w.toNat h.toNat else []

/- Layers: valid ones, as the program and the reference have it; copies of a layer. -/

def layerV (w h p : Int) (d : List Int) (x y m a : Int) (pl : Int) : Bool := validI w h p d && decide (p = pl ∧ -16 ≤ x ∧ x ≤ 16 ∧ -16 ≤ y ∧ y ≤ 16 ∧ 0 ≤ m ∧ m ≤ 4 ∧ 0 ≤ a ∧ a ≤ 255)
theorem layerV_iff (w h p : Int) (d : List Int) (x y m a : Int) (pl : Int) : layerV w h p d x y m a pl = true ↔ validI w h p d = true ∧ p = pl ∧ -16 ≤ x ∧ x ≤ 16 ∧ -16 ≤ y ∧ y ≤ 16 ∧ 0 ≤ m ∧ m ≤ 4 ∧ 0 ≤ a ∧ a ≤ 255 := by simp [layerV]
theorem impl_isModeI_eq (m : Int) : impl_isMode.f m = some (decide (0 ≤ m ∧ m ≤ 4)) := by
 unfold impl_isMode.f
 by_cases c : m ≥ 0
 ·rw [if_pos c]; congr 1; rw [decide_eq_decide]; omega
 ·rw [if_neg c, decide_eq_false (by omega)]
theorem impl_isLayer_eq (w h p : Int) (d : List Int) (x y m a : Int) (b : Bool) (pl : Int) : impl_isLayer.f w h p d x y m a b pl = some (layerV w h p d x y m a pl) := by
 unfold impl_isLayer.f layerV
 rw [impl_isImage_eq, impl_isModeI_eq]
 simp only [Option.bind_some]
 by_cases c : validI w h p d = true
 ·rw [if_pos c, c, Bool.true_and]
  by_cases c1 : p = pl
  ·rw [if_pos c1]
   by_cases c2 : x ≥ -16
   ·rw [if_pos c2]
    by_cases c3 : x ≤ 16
    ·rw [if_pos c3]
     by_cases c4 : y ≥ -16
     ·rw [if_pos c4]
      by_cases c5 : y ≤ 16
      ·rw [if_pos c5]
       by_cases c6 : 0 ≤ m ∧ m ≤ 4
       ·rw [if_pos (by simpa using c6)]
        by_cases c7 : a ≥ 0
        ·rw [if_pos c7]; congr 1; rw [decide_eq_decide]; omega
        ·rw [if_neg c7, decide_eq_false (by omega)]
       ·rw [if_neg (by simpa using c6), decide_eq_false (by omega)]
      ·rw [if_neg c5, decide_eq_false (by omega)]
     ·rw [if_neg c4, decide_eq_false (by omega)]
    ·rw [if_neg c3, decide_eq_false (by omega)]
   ·rw [if_neg c2, decide_eq_false (by omega)]
  ·rw [if_neg c1, decide_eq_false (by omega)]
 ·rw [if_neg c, Bool.eq_false_iff.2 c, Bool.false_and]
theorem spec_validLayer_ev (w h p : Int) (d : List Int) (x y m a : Int) (b : Bool) (pl : Int) (hl : d.length ≤ 1000000000000) : Ev (fun k => spec_validLayer.f k w h p d x y m a b pl) (layerV w h p d x y m a pl) := by
 unfold spec_validLayer.f layerV
 refine ev_bind (spec_validImage_ev w h p d hl) ?_
 by_cases c : validI w h p d = true
 ·refine ev_pos c ?_
  rw [c, Bool.true_and]
  refine ev_const ?_
  rw [spec_inRangeI_eq, spec_inRangeI_eq, spec_inRangeI_eq, spec_inRangeI_eq]
  simp only [Option.bind_some]
  by_cases c1 : p = pl
  ·rw [if_pos c1]
   by_cases c2 : -16 ≤ x ∧ x ≤ 16
   ·rw [if_pos (by simpa using c2)]
    by_cases c3 : -16 ≤ y ∧ y ≤ 16
    ·rw [if_pos (by simpa using c3)]
     by_cases c4 : 0 ≤ m ∧ m ≤ 4
     ·rw [if_pos (by simpa using c4)]; congr 1; rw [Bool.eq_iff_iff]; simp; omega
     ·rw [if_neg (by simpa using c4), decide_eq_false (by omega)]
    ·rw [if_neg (by simpa using c3), decide_eq_false (by omega)]
   ·rw [if_neg (by simpa using c2), decide_eq_false (by omega)]
  ·rw [if_neg c1, decide_eq_false (by omega)]
 ·refine ev_neg c ?_
  rw [Bool.eq_false_iff.2 c, Bool.false_and]
  exact Ev.now _

/- DirtyTiles, as the program and the reference have it. -/

def touchB (w h x y : Int) (b : Box) : Bool := decide (x < wrap64 (b.f0 + b.f2)) && (decide (b.f0 < wrap64 (x + w)) && (decide (y < wrap64 (b.f1 + b.f3)) && decide (b.f1 < wrap64 (y + h))))
def dirtyN (W H : Nat) (w h x y : Int) (n : Nat) : List Int := ((List.range n).filter fun t => touchB w h x y (tileN W H t)).map fun (t : Nat) => (t : Int)
theorem dirtyN_len (W H : Nat) (w h x y : Int) (n : Nat) : (dirtyN W H w h x y n).length ≤ n := by
 unfold dirtyN
 rw [List.length_map]
 have := List.length_filter_le (fun t => touchB w h x y (tileN W H t)) (List.range n)
 simpa using this
theorem dirtyN_succ (W H : Nat) (w h x y : Int) (n : Nat) : dirtyN W H w h x y (n + 1) = if touchB w h x y (tileN W H n) = true then dirtyN W H w h x y n ++ [(n : Int)] else dirtyN W H w h x y n := by
 unfold dirtyN
 rw [List.range_succ, List.filter_append, List.map_append]
 by_cases c : touchB w h x y (tileN W H n) = true
 ·rw [if_pos c]; simp [c]
 ·rw [if_neg c]; simp [c]
def dirtyV (w h p : Int) (d : List Int) (lw lh lp : Int) (ld : List Int) (x y m a : Int) : List Int :=
 if validI w h p d = true ∧ layerV lw lh lp ld x y m a p = true then dirtyN w.toNat h.toNat lw lh x y (colsOf w.toNat * colsOf h.toNat) else []
theorem dirtyV_len (w h p : Int) (d : List Int) (lw lh lp : Int) (ld : List Int) (x y m a : Int) : (dirtyV w h p d lw lh lp ld x y m a).length ≤ 16 := by
 unfold dirtyV
 split
 ·rename_i c
  have hv := (validI_iff w h p d).1 c.1
  have h1 := tiles_count w.toNat h.toNat (by omega) (by omega) (by omega) (by omega)
  have h2 := dirtyN_len w.toNat h.toNat lw lh x y (colsOf w.toNat * colsOf h.toNat)
  omega
 ·simp
theorem spec_touching_eq (w h p : Int) (d : List Int) (x y m a : Int) (b : Bool) (t : Box) : spec_touching.f w h p d x y m a b t.f0 t.f1 t.f2 t.f3 = some (touchB w h x y t) := by
 unfold spec_touching.f touchB
 by_cases c1 : x < wrap64 (t.f0 + t.f2)
 ·rw [if_pos c1, decide_eq_true c1]
  by_cases c2 : t.f0 < wrap64 (x + w)
  ·rw [if_pos c2, decide_eq_true c2]
   by_cases c3 : y < wrap64 (t.f1 + t.f3)
   ·rw [if_pos c3, decide_eq_true c3]; rfl
   ·rw [if_neg c3, decide_eq_false c3]; rfl
  ·rw [if_neg c2, decide_eq_false c2]; rfl
 ·rw [if_neg c1, decide_eq_false c1]; rfl
theorem spec_DirtyTiles_ev (w h p : Int) (d : List Int) (lw lh lp : Int) (ld : List Int) (x y m a : Int) (b : Bool) (hl : d.length ≤ 1000000000000) (hl' : ld.length ≤ 1000000000000) :
  Ev (fun k => spec_DirtyTiles.f k w h p d lw lh lp ld x y m a b) (dirtyV w h p d lw lh lp ld x y m a) := by
 have hn : Ev (fun k => spec_DirtyTiles.j0 k [] true w h p d lw lh lp ld x y m a b) [] := by
  refine Ev.step (f := fun _ => some []) (fun k => ?_) (Ev.now _)
  simp only [spec_DirtyTiles.j0]
  rw [if_pos trivial]
 unfold spec_DirtyTiles.f dirtyV
 refine ev_now rfl (ev_bind (spec_validImage_ev w h p d hl) ?_)
 by_cases c : validI w h p d = true
 ·refine ev_pos c (ev_bind (spec_validLayer_ev lw lh lp ld x y m a b p hl') ?_)
  by_cases c' : layerV lw lh lp ld x y m a p = true
  ·rw [if_pos ⟨c, c'⟩, c']
   have hv := (validI_iff w h p d).1 c
   obtain ⟨W, rfl⟩ := Int.eq_ofNat_of_zero_le (show 0 ≤ w by omega)
   obtain ⟨H, rfl⟩ := Int.eq_ofNat_of_zero_le (show 0 ≤ h by omega)
   have h1 : 1 ≤ W := by omega
   have h2 : W ≤ 16 := by omega
   have h3 : 1 ≤ H := by omega
   have h4 : H ≤ 16 := by omega
   have hn := tiles_count W H h1 h2 h3 h4
   have key := ev_up (colsOf W * colsOf H) (fun k t (s : List Int) => spec_DirtyTiles.l0 k s (t : Int) W H p d lw lh lp ld x y m a b) (fun t s => s = dirtyN W H lw lh x y t) (fun _ _ => dirtyN W H lw lh x y (colsOf W * colsOf H))
    (by
     intro t s ht hs
     right
     refine ⟨dirtyN W H lw lh x y (t + 1), fun k => ?_, rfl, rfl⟩
     have hlen : s.length ≤ t := by rw [hs]; exact dirtyN_len W H lw lh x y t
     simp only [spec_DirtyTiles.l0]
     rw [spec_tileCount_eq W H p d h1 h2 h3 h4]
     simp only [Option.bind_some]
     rw [if_pos (by omega), spec_tileBox_eq W H p d t h1 h2 h3 h4 (by omega)]
     simp only [Option.bind_some]
     rw [spec_touching_eq, w64n t (by omega), dirtyN_succ]
     simp only [Option.bind_some]
     by_cases ct : touchB lw lh x y (tileN W H t) = true
     ·rw [if_pos ct, if_pos ct, if_pos (by omega), hs]
     ·rw [if_neg ct, if_neg ct, hs])
    (by
     intro s hs
     refine Ev.step (f := fun _ => some s) (fun k => ?_) (ev_const (by rw [hs]))
     simp only [spec_DirtyTiles.l0]
     rw [spec_tileCount_eq W H p d h1 h2 h3 h4]
     simp only [Option.bind_some]
     rw [if_neg (by omega)])
    (colsOf W * colsOf H) 0 [] (by omega) (by simp [dirtyN])
   refine Ev.step (fun k => ?_) key
   simp only [spec_DirtyTiles.j0]
   rw [if_neg (by simp)]
   rfl
  ·rw [if_neg (fun e => c' e.2), Bool.eq_false_iff.2 c']
   exact hn
 ·rw [if_neg (fun e => c e.1)]
  exact ev_neg c hn
theorem impl_DirtyTiles_ev (w h p : Int) (d : List Int) (lw lh lp : Int) (ld : List Int) (x y m a : Int) (b : Bool) :
  Ev (fun k => impl_DirtyTiles.f k w h p d lw lh lp ld x y m a b) (dirtyV w h p d lw lh lp ld x y m a) := by
 have hn : Ev (fun k => impl_DirtyTiles.j0 k true w h p d lw lh lp ld x y m a b) [] := by
  refine Ev.step (f := fun _ => some []) (fun k => ?_) (Ev.now _)
  simp only [impl_DirtyTiles.j0]
  rw [if_pos trivial]
 unfold impl_DirtyTiles.f dirtyV
 refine ev_now (impl_isImage_eq w h p d) ?_
 by_cases c : validI w h p d = true
 ·refine ev_pos c (ev_now (impl_isLayer_eq lw lh lp ld x y m a b p) ?_)
  by_cases c' : layerV lw lh lp ld x y m a p = true
  ·rw [if_pos ⟨c, c'⟩, c']
   have hv := (validI_iff w h p d).1 c
   obtain ⟨W, rfl⟩ := Int.eq_ofNat_of_zero_le (show 0 ≤ w by omega)
   obtain ⟨H, rfl⟩ := Int.eq_ofNat_of_zero_le (show 0 ≤ h by omega)
   have h1 : 1 ≤ W := by omega
   have h2 : W ≤ 16 := by omega
   have h3 : 1 ≤ H := by omega
   have h4 : H ≤ 16 := by omega
   have hn := tiles_count W H h1 h2 h3 h4
   have hT : (tilesV W H).length = colsOf W * colsOf H := tilesN_length W H _
   have hget : ∀ t, t < colsOf W * colsOf H → rd_T47 (tilesV W H) (t : Int) = tileN W H t := by
    intro t ht
    rw [rdBox (tilesV W H) t (by omega)]
    simp [tilesV, tilesN]
   have key := ev_up2 (colsOf W * colsOf H) (fun k t (s : List Int) => impl_DirtyTiles.l0 k s (tilesV W H) ((tilesV W H).length : Int) (t : Int) x y lw lh) (fun t s => s = dirtyN W H lw lh x y t) (fun _ _ => dirtyN W H lw lh x y (colsOf W * colsOf H))
    (by
     intro t s ht hs
     right
     refine ⟨dirtyN W H lw lh x y (t + 1), fun r hr => ?_, rfl, rfl⟩
     have hlen : s.length ≤ t := by rw [hs]; exact dirtyN_len W H lw lh x y t
     rw [dirtyN_succ, ← hs] at hr
     have hj : ∀ c : Bool, c = touchB lw lh x y (tileN W H t) → Ev (fun k => impl_DirtyTiles.j2 k s (t : Int) (tilesV W H) ((tilesV W H).length : Int) (t : Int) c x y lw lh) r := by
      intro c hc
      rw [← hc] at hr
      refine Ev.step (fun k => ?_) hr
      simp only [impl_DirtyTiles.j2]
      rw [w64n t (by omega)]
      cases c with
      | true => rw [if_pos rfl, if_pos rfl, if_pos (by omega)]
      | false => rw [if_neg (by simp), if_neg (by simp)]
     by_cases c1 : x < wrap64 ((tileN W H t).f0 + (tileN W H t).f2)
     ·by_cases c2 : (tileN W H t).f0 < wrap64 (x + lw)
      ·by_cases c3 : y < wrap64 ((tileN W H t).f1 + (tileN W H t).f3)
       ·refine Ev.step (fun k => ?_) (hj (decide ((tileN W H t).f1 < wrap64 (y + lh))) (by unfold touchB; rw [decide_eq_true c1, decide_eq_true c2, decide_eq_true c3]; rfl))
        simp only [impl_DirtyTiles.l0]
        rw [if_pos (by omega), if_pos (by omega), if_pos (by omega), hget t ht, if_pos c1, if_pos c2, if_pos c3]
       ·refine Ev.step (fun k => ?_) (hj false (by unfold touchB; rw [decide_eq_false c3, Bool.false_and, Bool.and_false, Bool.and_false]))
        simp only [impl_DirtyTiles.l0]
        rw [if_pos (by omega), if_pos (by omega), if_pos (by omega), hget t ht, if_pos c1, if_pos c2, if_neg c3]
      ·refine Ev.step (fun k => ?_) (hj false (by unfold touchB; rw [decide_eq_false c2, Bool.false_and, Bool.and_false]))
       simp only [impl_DirtyTiles.l0]
       rw [if_pos (by omega), if_pos (by omega), if_pos (by omega), hget t ht, if_pos c1, if_neg c2]
     ·refine Ev.step (fun k => ?_) (hj false (by unfold touchB; rw [decide_eq_false c1, Bool.false_and]))
      simp only [impl_DirtyTiles.l0]
      rw [if_pos (by omega), if_pos (by omega), if_pos (by omega), hget t ht, if_neg c1])
    (by
     intro s hs
     refine Ev.step (f := fun _ => some s) (fun k => ?_) (ev_const (by rw [hs]))
     simp only [impl_DirtyTiles.l0]
     rw [if_neg (by omega)])
    (colsOf W * colsOf H) 0 [] (by omega) (by simp [dirtyN])
   refine Ev.step (f := fun k => (impl_Layer_box.f lw lh lp ld x y m a b).bind fun bt => (impl_tileBoxes.f k W H p d).bind fun t => impl_DirtyTiles.l0 k [] t (t.length : Int) 0 bt.1 bt.2.1 bt.2.2.1 bt.2.2.2) (fun k => ?_) ?_
   ·simp only [impl_DirtyTiles.j0]
    rw [if_neg (by simp)]
   ·exact ev_now (a := (x, y, lw, lh)) rfl (ev_bind (impl_tileBoxes_ev W H p d h1 h2 h3 h4) key)
  ·rw [if_neg (fun e => c' e.2), Bool.eq_false_iff.2 c']
   exact hn
 ·rw [if_neg (fun e => c e.1)]
  exact ev_neg c hn

/- Images as pixels: lists of numbers cut into equal parts. -/

def nx (n : Nat) (d : List Int) (i : Nat) : List Int := (d.drop (i * n)).take n
theorem nx_length {n m : Nat} {d : List Int} (hd : d.length = m * n) {i : Nat} (hi : i < m) : (nx n d i).length = n := by
 unfold nx
 have h : (i + 1) * n ≤ m * n := Nat.mul_le_mul_right n hi
 rw [Nat.add_mul, Nat.one_mul] at h
 rw [List.length_take, List.length_drop, hd]
 omega
theorem fm_length (f : Nat → List Int) (n : Nat) : ∀ m, (∀ i, i < m → (f i).length = n) → ((List.range m).flatMap f).length = m * n := by
 intro m
 induction m with
 | zero => intro _; simp
 | succ m ih =>
  intro h
  rw [List.range_succ, List.flatMap_append, List.length_append, ih (fun i hi => h i (by omega))]
  simp [h m (by omega), Nat.add_mul]
theorem fm_get (f : Nat → List Int) (n : Nat) : ∀ m, (∀ i, i < m → (f i).length = n) → ∀ i, i < m → nx n ((List.range m).flatMap f) i = f i := by
 intro m
 induction m with
 | zero => intro _ i hi; omega
 | succ m ih =>
  intro h i hi
  have hl := fm_length f n m (fun i hi => h i (by omega))
  rw [List.range_succ, List.flatMap_append]
  unfold nx
  by_cases c : i < m
  ·have h1 : (i + 1) * n ≤ m * n := Nat.mul_le_mul_right n c
   rw [Nat.add_mul, Nat.one_mul] at h1
   rw [List.drop_append_of_le_length (by omega), List.take_append_of_le_length (by rw [List.length_drop]; omega)]
   exact ih (fun i hi => h i (by omega)) i c
  ·have : i = m := by omega
   subst this
   rw [← hl, List.drop_left]
   simp only [List.flatMap_cons, List.flatMap_nil, List.append_nil]
   exact List.take_of_length_le (by rw [h i (by omega)]; exact Nat.le_refl _)
theorem imgD_congr {f g : Nat → Nat → List Int} {a b : Nat} (h : ∀ x y, x < a → y < b → f x y = g x y) : imgD f a b = imgD g a b := by
 unfold imgD rowD
 rw [List.flatMap_def, List.flatMap_def]
 congr 1
 refine List.map_congr_left (fun y hy => ?_)
 rw [List.flatMap_def, List.flatMap_def]
 congr 1
 exact List.map_congr_left (fun x hx => h x y (List.mem_range.1 hx) (List.mem_range.1 hy))
theorem rowD_length {px : Nat → Nat → List Int} {a n y : Nat} (h : ∀ x, x < a → (px x y).length = n) : (rowD px a y).length = a * n := fm_length _ n a h
theorem imgD_length {px : Nat → Nat → List Int} {a b n : Nat} (h : ∀ x y, x < a → y < b → (px x y).length = n) : (imgD px a b).length = (b * a) * n := by
 rw [Nat.mul_assoc]
 exact fm_length _ (a * n) b (fun y hy => rowD_length (fun x hx => h x y hx hy))
theorem nx_imgD {px : Nat → Nat → List Int} {a b n : Nat} (h : ∀ x y, x < a → y < b → (px x y).length = n) {x y : Nat} (hx : x < a) (hy : y < b) : nx n (imgD px a b) (y * a + x) = px x y := by
 have h1 := fm_get (rowD px a) (a * n) b (fun y hy => rowD_length (fun x hx => h x y hx hy)) y hy
 have h2 := fm_get (fun x => px x y) n a (fun x hx => h x y hx hy) x hx
 have h3 : (x + 1) * n ≤ a * n := Nat.mul_le_mul_right n hx
 rw [Nat.add_mul, Nat.one_mul] at h3
 show nx n ((List.range b).flatMap (rowD px a)) (y * a + x) = px x y
 rw [← h2]
 show _ = nx n (rowD px a y) x
 rw [← h1]
 unfold nx
 rw [List.drop_take, List.take_take, Nat.min_eq_left (by omega), List.drop_drop, Nat.add_mul, Nat.mul_assoc]
theorem lin_lt {a b x y : Nat} (hx : x < a) (hy : y < b) : y * a + x < b * a := by
 have : (y + 1) * a ≤ b * a := Nat.mul_le_mul_right a hy
 rw [Nat.add_mul, Nat.one_mul] at this
 omega
theorem nat_of {a b p : Int} {d : List Int} (hv : validI a b p d = true) : ∃ an bn pn : Nat, a = an ∧ b = bn ∧ p = pn ∧ 1 ≤ an ∧ an ≤ 16 ∧ 1 ≤ bn ∧ bn ≤ 16 ∧ 1 ≤ pn ∧ pn ≤ 4 ∧ d.length = (bn * an) * pn := by
 obtain ⟨hs, hl, _⟩ := (validI_iff a b p d).1 hv
 obtain ⟨an, rfl⟩ := Int.eq_ofNat_of_zero_le (show 0 ≤ a by omega)
 obtain ⟨bn, rfl⟩ := Int.eq_ofNat_of_zero_le (show 0 ≤ b by omega)
 obtain ⟨pn, rfl⟩ := Int.eq_ofNat_of_zero_le (show 0 ≤ p by omega)
 refine ⟨an, bn, pn, rfl, rfl, rfl, by omega, by omega, by omega, by omega, by omega, by omega, ?_⟩
 have : (d.length : Int) = ((an * bn * pn : Nat) : Int) := by rw [hl]; push_cast; rfl
 rw [Nat.mul_comm bn an]
 exact Int.ofNat.inj this
theorem small {an bn pn : Nat} (h1 : an ≤ 16) (h2 : bn ≤ 16) (h3 : pn ≤ 4) : (bn * an) * pn ≤ 1024 := by
 have := Nat.mul_le_mul (Nat.mul_le_mul h2 h1) h3
 omega
theorem pixJ_nat {an bn pn x y : Nat} (h1 : an ≤ 16) (h2 : bn ≤ 16) (h3 : pn ≤ 4) (hx : x < an) (hy : y < bn) : pixJ an pn x y = (((y * an + x) * pn : Nat) : Int) ∧ (y * an + x) * pn + pn ≤ (bn * an) * pn := by
 have hl := lin_lt hx hy
 have hm : (y * an + x + 1) * pn ≤ (bn * an) * pn := Nat.mul_le_mul_right pn hl
 rw [Nat.add_mul, Nat.one_mul] at hm
 have hs := small h1 h2 h3
 have hya : y * an ≤ 16 * 16 := Nat.mul_le_mul (by omega) (by omega)
 refine ⟨?_, hm⟩
 unfold pixJ
 have e1 : ((y : Int) * (an : Int)) = ((y * an : Nat) : Int) := by push_cast; rfl
 rw [e1, w64 (x := ((y * an : Nat) : Int)) (by omega) (by omega)]
 have e2 : ((y * an : Nat) : Int) + (x : Int) = ((y * an + x : Nat) : Int) := by push_cast; rfl
 rw [e2, w64 (x := ((y * an + x : Nat) : Int)) (by omega) (by omega)]
 have e3 : ((y * an + x : Nat) : Int) * (pn : Int) = (((y * an + x) * pn : Nat) : Int) := by push_cast; rfl
 rw [e3, w64 (by omega) (by omega)]
theorem pxAt_nat {an bn pn x y : Nat} (h1 : an ≤ 16) (h2 : bn ≤ 16) (h3 : pn ≤ 4) (hx : x < an) (hy : y < bn) (d : List Int) : pxAt an pn d x y = nx pn d (y * an + x) := by
 obtain ⟨hj, hm⟩ := pixJ_nat h1 h2 h3 hx hy
 have hs := small h1 h2 h3
 unfold pxAt pixT nx
 rw [hj, w64 (by omega) (by omega)]
 have : ((((y * an + x) * pn : Nat) : Int) + (pn : Int)).toNat = (y * an + x) * pn + pn := by omega
 rw [this, Int.toNat_natCast, List.drop_take]
 congr 1
 omega

/- What the reference does with pixels: reads, writes, parts and pastes. -/

theorem ev_run {σ ρ : Type} (n : Nat) (L : Nat → Nat → σ → Option ρ) (E : σ → Nat → Option ρ) (Inv : Nat → σ → Prop)
  (step : ∀ i s, i < n → Inv i s → ∃ s', Inv (i + 1) s' ∧ ∀ r, Ev (fun k => L k (i + 1) s') r → Ev (fun k => L k i s) r)
  (last : ∀ s, Inv n s → ∀ r, Ev (E s) r → Ev (fun k => L k n s) r) :
  ∀ d i s, i + d = n → Inv i s → ∃ s', Inv n s' ∧ ∀ r, Ev (E s') r → Ev (fun k => L k i s) r := by
 intro d
 induction d with
 | zero =>
  intro i s hi hinv
  have : i = n := by omega
  subst this
  exact ⟨s, hinv, last s hinv⟩
 | succ d ih =>
  intro i s hi hinv
  obtain ⟨s1, h1, h2⟩ := step i s (by omega) hinv
  obtain ⟨s2, h3, h4⟩ := ih (i + 1) s1 (by omega) h1
  exact ⟨s2, h3, fun r hr => h2 r (h4 r hr)⟩

/- What the program's and the reference's BlendNumber come to, over whole numbers alone. -/

def P255 (n : Int) : Int := (2 * n + 255) / 510
theorem part255_eq (n : Int) (h0 : 0 ≤ n) (h1 : n ≤ 10000000) : impl_part255.f n = some (P255 n) := by
 unfold impl_part255.f P255
 rw [w64 (x := 2 * n) (by omega) (by omega), w64 (x := 2 * n + 255) (by omega) (by omega), tdiv_nn _ _ (by omega), w64 (by omega) (by omega)]
theorem P255_range (n : Int) (h0 : 0 ≤ n) (h1 : n ≤ 65025) : 0 ≤ P255 n ∧ P255 n ≤ 255 := by unfold P255; omega
theorem prod_range (a b : Int) (ha : 0 ≤ a) (ha' : a ≤ 255) (hb : 0 ≤ b) (hb' : b ≤ 255) : 0 ≤ a * b ∧ a * b ≤ 65025 := by
 refine ⟨Int.mul_nonneg ha hb, ?_⟩
 have := Int.mul_le_mul ha' hb' hb (by omega : (0 : Int) ≤ 255)
 omega
def mixN (mode a b : Int) : Int :=
 if mode = 1 then P255 (a * b) else if mode = 2 then 255 - P255 ((255 - a) * (255 - b)) else if mode = 3 then min a b else if mode = 4 then max a b else b
theorem mixN_range (mode a b : Int) (ha : 0 ≤ a) (ha' : a ≤ 255) (hb : 0 ≤ b) (hb' : b ≤ 255) : 0 ≤ mixN mode a b ∧ mixN mode a b ≤ 255 := by
 have h1 := prod_range a b ha ha' hb hb'
 have h2 := prod_range (255 - a) (255 - b) (by omega) (by omega) (by omega) (by omega)
 have h3 := P255_range _ h1.1 h1.2
 have h4 := P255_range _ h2.1 h2.2
 unfold mixN
 split
 ·exact h3
 split
 ·omega
 split
 ·omega
 split
 ·omega
 ·omega
def coverN (mode a b alpha : Int) : Int := P255 (alpha * mixN mode a b + (255 - alpha) * a)
theorem cover_sum (m a alpha : Int) (ha : 0 ≤ a) (ha' : a ≤ 255) (hm : 0 ≤ m) (hm' : m ≤ 255) (h : 0 ≤ alpha) (h' : alpha ≤ 255) :
  255 * min a m ≤ alpha * m + (255 - alpha) * a ∧ alpha * m + (255 - alpha) * a ≤ 255 * max a m := by
 have e : (255 - alpha) * a = 255 * a - alpha * a := by rw [Int.sub_mul]
 rw [e]
 have k1 : alpha * m - alpha * a = alpha * (m - a) := by rw [Int.mul_sub]
 by_cases c : a ≤ m
 ·have i1 : 0 ≤ alpha * (m - a) := Int.mul_nonneg h (by omega)
  have i2 : alpha * (m - a) ≤ 255 * (m - a) := Int.mul_le_mul_of_nonneg_right h' (by omega)
  omega
 ·have i1 : 0 ≤ alpha * (a - m) := Int.mul_nonneg h (by omega)
  have i2 : alpha * (a - m) ≤ 255 * (a - m) := Int.mul_le_mul_of_nonneg_right h' (by omega)
  have k2 : alpha * m - alpha * a = -(alpha * (a - m)) := by rw [Int.mul_sub]; omega
  omega
theorem cover_between (mode a b alpha : Int) (ha : 0 ≤ a) (ha' : a ≤ 255) (hb : 0 ≤ b) (hb' : b ≤ 255) (h : 0 ≤ alpha) (h' : alpha ≤ 255) :
  min a (mixN mode a b) ≤ coverN mode a b alpha ∧ coverN mode a b alpha ≤ max a (mixN mode a b) := by
 have hm := mixN_range mode a b ha ha' hb hb'
 have hs := cover_sum (mixN mode a b) a alpha ha ha' hm.1 hm.2 h h'
 unfold coverN
 generalize mixN mode a b = m at *
 generalize alpha * m + (255 - alpha) * a = s at *
 unfold P255
 omega
theorem impl_sum (m a alpha : Int) (ha : 0 ≤ a) (ha' : a ≤ 255) (hm : 0 ≤ m) (hm' : m ≤ 255) (h : 0 ≤ alpha) (h' : alpha ≤ 255) :
  wrap64 (wrap64 (alpha * m) + wrap64 (wrap64 (255 - alpha) * a)) = alpha * m + (255 - alpha) * a ∧ 0 ≤ alpha * m + (255 - alpha) * a ∧ alpha * m + (255 - alpha) * a ≤ 65025 := by
 have h1 := prod_range alpha m h h' hm hm'
 have h2 := prod_range (255 - alpha) a (by omega) (by omega) ha ha'
 have h3 := cover_sum m a alpha ha ha' hm hm' h h'
 rw [w64 (x := 255 - alpha) (by omega) (by omega), w64 (x := alpha * m) (by omega) (by omega), w64 (x := (255 - alpha) * a) (by omega) (by omega), w64 (by omega) (by omega)]
 exact ⟨rfl, by omega, by omega⟩
theorem blended_eq (mode a b alpha : Int) (ha : 0 ≤ a) (ha' : a ≤ 255) (hb : 0 ≤ b) (hb' : b ≤ 255) (h : 0 ≤ alpha) (h' : alpha ≤ 255) :
  impl_blended.f mode a b alpha = some (coverN mode a b alpha) := by
 have p1 := prod_range a b ha ha' hb hb'
 have p2 := prod_range (255 - a) (255 - b) (by omega) (by omega) (by omega) (by omega)
 have hm := mixN_range mode a b ha ha' hb hb'
 have q1 := P255_range _ p1.1 p1.2
 have q2 := P255_range _ p2.1 p2.2
 unfold impl_blended.f coverN
 by_cases c1 : mode = 1
 ·rw [if_pos c1, w64 (by omega) (by omega), part255_eq _ p1.1 (by omega)]
  simp only [Option.bind_some]
  have e : mixN mode a b = P255 (a * b) := by simp [mixN, c1]
  rw [e]
  obtain ⟨s1, s2, s3⟩ := impl_sum (P255 (a * b)) a alpha ha ha' q1.1 q1.2 h h'
  rw [s1, part255_eq _ s2 (by omega)]; rfl
 rw [if_neg c1]
 by_cases c2 : mode = 2
 ·rw [if_pos c2, w64 (x := 255 - a) (by omega) (by omega), w64 (x := 255 - b) (by omega) (by omega), w64 (by omega) (by omega), part255_eq _ p2.1 (by omega)]
  simp only [Option.bind_some]
  have e : mixN mode a b = 255 - P255 ((255 - a) * (255 - b)) := by simp [mixN, c2]
  rw [e, w64 (x := 255 - P255 ((255 - a) * (255 - b))) (by omega) (by omega)]
  obtain ⟨s1, s2, s3⟩ := impl_sum (255 - P255 ((255 - a) * (255 - b))) a alpha ha ha' (by omega) (by omega) h h'
  rw [s1, part255_eq _ s2 (by omega)]; rfl
 rw [if_neg c2]
 by_cases c3 : mode = 3
 ·rw [if_pos c3]
  have e : mixN mode a b = mn a b := by simp [mixN, c3, mn_def]
  rw [e] at hm ⊢
  obtain ⟨s1, s2, s3⟩ := impl_sum (mn a b) a alpha ha ha' hm.1 hm.2 h h'
  rw [s1, part255_eq _ s2 (by omega)]; rfl
 rw [if_neg c3]
 by_cases c4 : mode = 4
 ·rw [if_pos c4]
  have e : mixN mode a b = mx a b := by simp [mixN, c4, mx_def]
  rw [e] at hm ⊢
  obtain ⟨s1, s2, s3⟩ := impl_sum (mx a b) a alpha ha ha' hm.1 hm.2 h h'
  rw [s1, part255_eq _ s2 (by omega)]; rfl
 rw [if_neg c4]
 have e : mixN mode a b = b := by simp [mixN, c1, c2, c3, c4]
 rw [e] at hm ⊢
 obtain ⟨s1, s2, s3⟩ := impl_sum b a alpha ha ha' hm.1 hm.2 h h'
 rw [s1, part255_eq _ s2 (by omega)]; rfl

/- CoverImage, as the program and the reference have it. -/

theorem cover_byte (mode a b alpha : Int) (ha : 0 ≤ a) (ha' : a ≤ 255) (hb : 0 ≤ b) (hb' : b ≤ 255) (h : 0 ≤ alpha) (h' : alpha ≤ 255) : 0 ≤ coverN mode a b alpha ∧ coverN mode a b alpha ≤ 255 := by
 have h1 := cover_between mode a b alpha ha ha' hb hb' h h'
 have h2 := mixN_range mode a b ha ha' hb hb'
 omega
def AllB (d : List Int) : Prop := ∀ n ∈ d, 0 ≤ n ∧ n ≤ 255
theorem allB_at {d : List Int} (h : AllB d) (i : Nat) (hi : i < d.length) : 0 ≤ d[i] ∧ d[i] ≤ 255 := h _ (List.getElem_mem hi)
theorem allB_nx {d : List Int} (h : AllB d) (n i : Nat) : AllB (nx n d i) := fun x hx => h x (List.mem_of_mem_drop (List.mem_of_mem_take hx))
theorem blV_cover {mode alpha n u : Int} (h1 : 0 ≤ alpha ∧ alpha ≤ 255) (h2 : 0 ≤ n ∧ n ≤ 255) (h3 : 0 ≤ u ∧ u ≤ 255) : blV mode alpha n u = coverN mode n u alpha := by
 unfold blV
 rw [blended_eq mode n u alpha h2.1 h2.2 h3.1 h3.2 h1.1 h1.2]
 rfl
def covL (mode alpha : Int) (l u : List Int) : List Int := List.zipWith (fun n m => coverN mode n m alpha) l u
theorem zip_cover {mode alpha : Int} (h1 : 0 ≤ alpha ∧ alpha ≤ 255) : ∀ {l u : List Int}, AllB l → AllB u → List.zipWith (blV mode alpha) l u = covL mode alpha l u := by
 intro l
 induction l with
 | nil => intro u _ _; rfl
 | cons x l ih =>
  intro u hl hu
  cases u with
  | nil => rfl
  | cons y u =>
   unfold covL at ih ⊢
   rw [List.zipWith_cons_cons, List.zipWith_cons_cons, blV_cover h1 (hl x (by simp)) (hu y (by simp)), ih (fun z hz => hl z (by simp [hz])) (fun z hz => hu z (by simp [hz]))]
theorem covL_len {mode alpha : Int} {l u : List Int} {n : Nat} (h1 : l.length = n) (h2 : u.length = n) : (covL mode alpha l u).length = n := by unfold covL; rw [List.length_zipWith]; omega
theorem covL_bytes {mode alpha : Int} (h1 : 0 ≤ alpha ∧ alpha ≤ 255) {l u : List Int} (hl : AllB l) (hu : AllB u) : AllB (covL mode alpha l u) := by
 intro z hz
 unfold covL at hz
 obtain ⟨i, hi, rfl⟩ := List.getElem_of_mem hz
 rw [List.length_zipWith] at hi
 rw [List.getElem_zipWith]
 have a := allB_at hl i (by omega)
 have b := allB_at hu i (by omega)
 exact cover_byte _ _ _ _ a.1 a.2 b.1 b.2 h1.1 h1.2
def covPx (an pn : Nat) (d : List Int) (X Y : Int) (wn hn : Nat) (e : List Int) (mode alpha : Int) (x y : Nat) : List Int :=
 if X ≤ (x : Int) ∧ (x : Int) < X + wn ∧ Y ≤ (y : Int) ∧ (y : Int) < Y + hn then covL mode alpha (nx pn d (y * an + x)) (nx pn e (((y : Int) - Y).toNat * wn + ((x : Int) - X).toNat)) else nx pn d (y * an + x)
theorem covPx_len {an bn pn wn hn : Nat} {d e : List Int} {X Y : Int} (mode alpha : Int) (hd : d.length = (bn * an) * pn) (he : e.length = (hn * wn) * pn) : ∀ x y, x < an → y < bn → (covPx an pn d X Y wn hn e mode alpha x y).length = pn := by
 intro x y hx hy
 unfold covPx
 split
 ·exact covL_len (nx_length hd (lin_lt hx hy)) (nx_length he (lin_lt (by omega) (by omega)))
 ·exact nx_length hd (lin_lt hx hy)
theorem coverPx_cov {an bn pn wn hn : Nat} (h1 : an ≤ 16) (h2 : bn ≤ 16) (h3 : pn ≤ 4) (h4 : wn ≤ 16) (h5 : hn ≤ 16) {d e : List Int} {X Y mode alpha : Int} (ha : 0 ≤ alpha ∧ alpha ≤ 255) (hd : AllB d) (he : AllB e) {x y : Nat} (hx : x < an) (hy : y < bn) :
  coverPx an pn d wn hn e X Y mode alpha x y = covPx an pn d X Y wn hn e mode alpha x y := by
 unfold coverPx covPx inBoxZ
 by_cases c : X ≤ (x : Int) ∧ (x : Int) < X + wn ∧ Y ≤ (y : Int) ∧ (y : Int) < Y + hn
 ·rw [if_pos c, if_pos (decide_eq_true c), pxAt_nat h1 h2 h3 hx hy, pxAt_nat h4 h5 h3 (by omega) (by omega)]
  exact zip_cover ha (allB_nx hd _ _) (allB_nx he _ _)
 ·rw [if_neg c, if_neg (by simpa using c), pxAt_nat h1 h2 h3 hx hy]
def coverV (a b p : Int) (d : List Int) (lw lh lp : Int) (ld : List Int) (X Y mode alpha : Int) : Int × Int × Int × List Int × Bool :=
 if validI a b p d = true ∧ layerV lw lh lp ld X Y mode alpha p = true then (a, b, p, imgD (covPx a.toNat p.toNat d X Y lw.toNat lh.toNat ld mode alpha) a.toNat b.toNat, true) else (0, 0, 0, [], false)
theorem impl_CoverImage_eq (a b p : Int) (d : List Int) (lw lh lp : Int) (ld : List Int) (X Y mode alpha : Int) (hid : Bool) : impl_CoverImage.f a b p d lw lh lp ld X Y mode alpha hid = some (coverV a b p d lw lh lp ld X Y mode alpha) := by
 unfold impl_CoverImage.f coverV
 rw [impl_isImage_eq, impl_isLayer_eq]
 simp only [Option.bind_some]
 by_cases c1 : validI a b p d = true
 ·rw [if_pos c1]
  by_cases c2 : layerV lw lh lp ld X Y mode alpha p = true
  ·rw [if_pos c2, if_pos ⟨c1, c2⟩]
   obtain ⟨hvl, rfl, hx1, hx2, hy1, hy2, _, _, ha1, ha2⟩ := (layerV_iff _ _ _ _ _ _ _ _ _).1 c2
   unfold impl_coverImage.f
   rw [if_pos ⟨c1, hvl, rfl, ⟨hx1, hx2⟩, hy1, hy2⟩]
   have hb1 := ((validI_iff _ _ _ _).1 c1).2.2
   have hb2 := ((validI_iff _ _ _ _).1 hvl).2.2
   obtain ⟨an, bn, pn, rfl, rfl, rfl, q1, q2, q3, q4, q5, q6, q7⟩ := nat_of c1
   obtain ⟨wn, hn, _, rfl, rfl, _, q11, q12, q13, q14, _, _, _⟩ := nat_of hvl
   simp only [Int.toNat_natCast, Option.bind_some]
   rw [imgD_congr (fun x y hx hy => coverPx_cov q2 q4 q6 q12 q14 ⟨ha1, ha2⟩ hb1 hb2 hx hy)]
  ·rw [if_neg c2, if_neg (fun h => c2 h.2)]
 ·rw [if_neg c1, if_neg (fun h => c1 h.1)]

/- A tile that a layer does not touch is the same in the covered image. -/

theorem cov_clean {an pn wn hn x0 y0 w0 h0 : Nat} {d e : List Int} {x y m a : Int} (hb : x0 ≤ 16 ∧ w0 ≤ 16 ∧ y0 ≤ 16 ∧ h0 ≤ 16 ∧ wn ≤ 16 ∧ hn ≤ 16) (hx : -16 ≤ x ∧ x ≤ 16) (hy : -16 ≤ y ∧ y ≤ 16) (ht : touchB wn hn x y ⟨(x0 : Int), (y0 : Int), (w0 : Int), (h0 : Int)⟩ = false) {i j : Nat} (hi : i < w0) (hj : j < h0) :
  covPx an pn d x y wn hn e m a (x0 + i) (y0 + j) = nx pn d ((y0 + j) * an + (x0 + i)) := by
 unfold covPx
 rw [if_neg]
 intro z
 unfold touchB at ht
 rw [w64 (x := (x0 : Int) + (w0 : Int)) (by omega) (by omega), w64 (x := x + (wn : Int)) (by omega) (by omega), w64 (x := (y0 : Int) + (h0 : Int)) (by omega) (by omega), w64 (x := y + (hn : Int)) (by omega) (by omega)] at ht
 rw [decide_eq_true (show x < (x0 : Int) + (w0 : Int) by omega), decide_eq_true (show (x0 : Int) < x + (wn : Int) by omega), decide_eq_true (show y < (y0 : Int) + (h0 : Int) by omega), decide_eq_true (show (y0 : Int) < y + (hn : Int) by omega)] at ht
 cases ht
theorem tile_box {an bn t : Nat} (h1 : 1 ≤ an ∧ an ≤ 16) (h2 : 1 ≤ bn ∧ bn ≤ 16) (ht : t < colsOf an * colsOf bn) : ∃ x0 y0 w0 h0 : Nat, tileN an bn t = ⟨(x0 : Int), (y0 : Int), (w0 : Int), (h0 : Int)⟩ ∧ 1 ≤ w0 ∧ 1 ≤ h0 ∧ x0 + w0 ≤ an ∧ y0 + h0 ≤ bn := by
 have hc := cols_bounds an h1.1 h1.2
 have hr := cols_bounds bn h2.1 h2.2
 have hx : t % colsOf an < colsOf an := Nat.mod_lt _ (by omega)
 have hy : t / colsOf an < colsOf bn := (Nat.div_lt_iff_lt_mul (by omega)).2 (by rw [Nat.mul_comm]; exact ht)
 refine ⟨t % colsOf an * 4, t / colsOf an * 4, (mn 4 ((an : Int) - ((t % colsOf an * 4 : Nat) : Int))).toNat, (mn 4 ((bn : Int) - ((t / colsOf an * 4 : Nat) : Int))).toNat, ?_⟩
 generalize hq' : t % colsOf an = q at *
 generalize ht' : t / colsOf an = r at *
 have hq4 : q * 4 < an := by unfold colsOf at hx; omega
 have hr4 : r * 4 < bn := by unfold colsOf at hy; omega
 have m1 : 1 ≤ mn 4 ((an : Int) - ((q * 4 : Nat) : Int)) ∧ mn 4 ((an : Int) - ((q * 4 : Nat) : Int)) ≤ (an : Int) - ((q * 4 : Nat) : Int) := by unfold mn; split <;> omega
 have m2 : 1 ≤ mn 4 ((bn : Int) - ((r * 4 : Nat) : Int)) ∧ mn 4 ((bn : Int) - ((r * 4 : Nat) : Int)) ≤ (bn : Int) - ((r * 4 : Nat) : Int) := by unfold mn; split <;> omega
 refine ⟨?_, by omega, by omega, by omega, by omega⟩
 rw [Int.toNat_of_nonneg (by omega), Int.toNat_of_nonneg (by omega)]
 unfold tileN
 rw [hq', ht']

/- TileBoxes, as the program and the reference have it. -/

theorem impl_TileBoxes_ev (w h p : Int) (d : List Int) : Ev (fun k => impl_TileBoxes.f k w h p d) (tilesOf w h p d) := by
 unfold impl_TileBoxes.f tilesOf
 refine ev_now (impl_isImage_eq w h p d) ?_
 by_cases c : validI w h p d = true
 ·rw [if_pos c]
  refine ev_pos c ?_
  have hv := (validI_iff w h p d).1 c
  obtain ⟨W, rfl⟩ := Int.eq_ofNat_of_zero_le (show 0 ≤ w by omega)
  obtain ⟨H, rfl⟩ := Int.eq_ofNat_of_zero_le (show 0 ≤ h by omega)
  exact ev_bind (impl_tileBoxes_ev W H p d (by omega) (by omega) (by omega) (by omega)) (Ev.now _)
 ·rw [if_neg c]
  exact ev_neg c (Ev.now _)

/- The reader of draws: whatever the code's bytes are, it answers, in range. -/

/-- What a reader reads from: at most 2000 bytes. -/
def Bytes (b : List Int) : Prop := b.length ≤ 2000 ∧ ∀ x ∈ b, 0 ≤ x ∧ x ≤ 255
theorem Bytes.rd_ {b : List Int} (h : Bytes b) (i : Int) : 0 ≤ rd b i ∧ rd b i ≤ 255 := by
  unfold rd
  by_cases c : i.toNat < b.length
  · rw [List.getD_eq_getElem?_getD, List.getElem?_eq_getElem c]; exact h.2 _ (List.getElem_mem c)
  · rw [List.getD_eq_getElem?_getD, List.getElem?_eq_none (by omega)]; simp
theorem xor_nn (a b : Int) (ha : 0 ≤ a) (ha' : a < 4611686018427387904) (hb : 0 ≤ b) (hb' : b < 4611686018427387904) : 0 ≤ Go.bits .xor .i64 a b := by
  obtain ⟨a, rfl⟩ := Int.eq_ofNat_of_zero_le ha
  obtain ⟨b, rfl⟩ := Int.eq_ofNat_of_zero_le hb
  have ha2 : a < 2 ^ 62 := by have : (2 : Nat) ^ 62 = 4611686018427387904 := by decide +kernel
                              omega
  have hb2 : b < 2 ^ 62 := by have : (2 : Nat) ^ 62 = 4611686018427387904 := by decide +kernel
                              omega
  have e64 : IntKind.bits .i64 = 64 := rfl
  have hx := Nat.xor_lt_two_pow ha2 hb2
  have h62 : (2 : Nat) ^ 62 = 4611686018427387904 := by decide +kernel
  have h64 : (2 : Nat) ^ 64 = 18446744073709551616 := by decide +kernel
  simp only [Go.bits, BitVec.ofInt_natCast, BitVec.toNat_xor, BitVec.toNat_ofNat, e64]
  rw [Nat.mod_eq_of_lt (by omega), Nat.mod_eq_of_lt (by omega), IntKind.wrap_i64]
  generalize a ^^^ b = z at *
  omega
theorem tmod_range (x n : Int) (hx : 0 ≤ x) (hn : 1 ≤ n) : 0 ≤ Int.tmod x n ∧ Int.tmod x n < n := by
  rw [tmod_nn _ _ hx]
  exact ⟨Int.emod_nonneg _ (by omega), Int.emod_lt_of_pos _ (by omega)⟩
theorem pick_at (b : List Int) (p n : Int) (hb : Bytes b) (hp0 : 0 ≤ p) (hp : p ≤ 1000000000000) :
    ∃ v, (∀ k, 0 < k → spec_reader_pick.f k b p n = some (v, p + 1)) ∧ 0 ≤ v ∧ (1 ≤ n → v < n) ∧ (n < 1 → v = 0) := by
  by_cases hn : n < 1
  · refine ⟨0, fun k hk => ?_, by omega, by omega, fun _ => rfl⟩
    obtain ⟨k, rfl⟩ : ∃ m, k = m + 1 := ⟨k - 1, by omega⟩
    unfold spec_reader_pick.f
    rw [if_pos hn, w64 (by omega) (by omega)]
    simp only [spec_reader_pick.j0, if_true]
  by_cases he : b.length = 0
  · refine ⟨0, fun k hk => ?_, by omega, by omega, fun _ => rfl⟩
    obtain ⟨k, rfl⟩ : ∃ m, k = m + 1 := ⟨k - 1, by omega⟩
    unfold spec_reader_pick.f
    rw [if_neg hn, w64 (by omega) (by omega)]
    simp only [spec_reader_pick.j0, he]; simp
  have hlen := hb.1
  by_cases hlt : p < (b.length : Int)
  · have hr := hb.rd_ p
    have ht := tmod_range (rd b p) n hr.1 (by omega)
    refine ⟨Int.tmod (rd b p) n, fun k hk => ?_, ht.1, fun _ => ht.2, by omega⟩
    obtain ⟨k, rfl⟩ : ∃ m, k = m + 1 := ⟨k - 1, by omega⟩
    unfold spec_reader_pick.f
    rw [if_neg hn, w64 (x := p + 1) (by omega) (by omega)]
    simp only [spec_reader_pick.j0]
    rw [if_neg (by simp only [beq_iff_eq]; omega), w64 (x := p + 1 - 1) (by omega) (by omega), show p + 1 - 1 = p by omega, if_pos hlt, if_pos hp0, if_neg (by omega), w64 (x := rd b p) (by omega) (by omega)]
  · have h1 := tmod_range p (b.length : Int) hp0 (by omega)
    have h2 := tmod_range (p * 7 + 3) (b.length : Int) (by omega) (by omega)
    have r1 := hb.rd_ (Int.tmod p (b.length : Int))
    have r2 := hb.rd_ (Int.tmod (p * 7 + 3) (b.length : Int))
    have hd : 0 ≤ Int.tdiv p (b.length : Int) ∧ Int.tdiv p (b.length : Int) ≤ p := by
      rw [tdiv_nn _ _ hp0]
      exact ⟨Int.ediv_nonneg hp0 (by omega), Int.ediv_le_self _ hp0⟩
    generalize h1e : Int.tmod p (b.length : Int) = t1 at *
    generalize h2e : Int.tmod (p * 7 + 3) (b.length : Int) = t2 at *
    generalize hde : Int.tdiv p (b.length : Int) = d at *
    generalize hr1e : rd b t1 = x1 at *
    generalize hr2e : rd b t2 = x2 at *
    have hx := xor_nn (x1 * 131 + x2 * 1117 + p * 29 + d * 53) ((x1 * 131 + x2 * 1117 + p * 29 + d * 53) / 64) (by omega) (by omega) (by omega) (by omega)
    have ht := tmod_range _ n hx (by omega)
    refine ⟨Int.tmod (Go.bits .xor .i64 (x1 * 131 + x2 * 1117 + p * 29 + d * 53) ((x1 * 131 + x2 * 1117 + p * 29 + d * 53) / 64)) n, fun k hk => ?_, ht.1, fun _ => ht.2, by omega⟩
    obtain ⟨k, rfl⟩ : ∃ m, k = m + 1 := ⟨k - 1, by omega⟩
    unfold spec_reader_pick.f
    rw [if_neg hn, w64 (x := p + 1) (by omega) (by omega)]
    simp only [spec_reader_pick.j0]
    rw [if_neg (by simp only [beq_iff_eq]; omega), w64 (x := p + 1 - 1) (by omega) (by omega), show p + 1 - 1 = p by omega, if_neg hlt, if_neg (by omega),
      w64 (x := p * 7) (by omega) (by omega), w64 (x := p * 7 + 3) (by omega) (by omega), h1e, h2e, hde, hr1e, hr2e, if_pos (by omega), if_pos (by omega), if_pos (by omega), if_pos (by omega), if_neg (by omega),
      w64 (x := x1) (by omega) (by omega), w64 (x := x2) (by omega) (by omega), w64 (x := d) (by omega) (by omega), w64 (x := x1 * 131) (by omega) (by omega), w64 (x := x2 * 1117) (by omega) (by omega), w64 (x := p * 29) (by omega) (by omega), w64 (x := d * 53) (by omega) (by omega),
      w64 (x := x1 * 131 + x2 * 1117) (by omega) (by omega), w64 (x := x1 * 131 + x2 * 1117 + p * 29) (by omega) (by omega), w64 (x := x1 * 131 + x2 * 1117 + p * 29 + d * 53) (by omega) (by omega), tdiv_nn _ 64 (by omega),
      w64 (x := (x1 * 131 + x2 * 1117 + p * 29 + d * 53) / 64) (by omega) (by omega)]
theorem one_at (b : List Int) (p : Int) (l : List Int) (hl : 0 < l.length) (hl' : l.length ≤ 1000) (hb : Bytes b) (hp0 : 0 ≤ p) (hp : p ≤ 1000000000000) :
    ∃ v, (∀ k, 0 < k → spec_reader_one.f k b p l = some (v, p + 1)) ∧ v ∈ l := by
  obtain ⟨v, hv, h0, h1, _⟩ := pick_at b p (l.length : Int) hb hp0 hp
  have h1' := h1 (by omega)
  obtain ⟨v, rfl⟩ := Int.eq_ofNat_of_zero_le h0
  refine ⟨l[v]'(by omega), fun k hk => ?_, List.getElem_mem _⟩
  unfold spec_reader_one.f
  rw [hv k hk]
  simp only [Option.bind_some]
  rw [if_pos (by omega), if_pos (by omega), rd_nat l v (by omega)]
theorem newReader_at (l : List Int) (h : ∀ x ∈ l, 0 ≤ x ∧ x ≤ 255) : ∃ b, spec_newReader.f l = some (b, 0) ∧ Bytes b := by
  unfold spec_newReader.f
  by_cases c : (l.length : Int) > 2000
  · rw [if_pos c, if_pos (by omega)]
    exact ⟨_, rfl, by rw [List.length_take]; omega, fun x hx => h x (List.mem_of_mem_take hx)⟩
  · rw [if_neg c]
    exact ⟨_, rfl, by omega, h⟩
/-- What a law is told of its code: bytes. -/
theorem code_bytes (l : List Int) (h : ∀ x ∈ l, (Lit.int .u8 x).wf = true) : ∀ x ∈ l, 0 ≤ x ∧ x ≤ 255 := by
  intro x hx
  have := h x hx
  simp only [Lit.wf, Bool.and_eq_true, decide_eq_true_eq] at this
  have e1 : IntKind.min .u8 = 0 := by decide
  have e2 : IntKind.max .u8 = 255 := by decide
  omega

/- Images that are drawn from bytes. -/

theorem one_in (b : List Int) (p : Int) (l : List Int) (hl : 0 < l.length) (hl' : l.length ≤ 1000) (hb : Bytes b) (hp0 : 0 ≤ p) (hp : p ≤ 1000000000000) : ∃ v, Ev (fun k => spec_reader_one.f k b p l) (v, p + 1) ∧ v ∈ l := by
 obtain ⟨v, h, hv⟩ := one_at b p l hl hl' hb hp0 hp
 exact ⟨v, ev_of 0 h, hv⟩
theorem pick_in (b : List Int) (p n : Int) (hn : 1 ≤ n) (hb : Bytes b) (hp0 : 0 ≤ p) (hp : p ≤ 1000000000000) : ∃ v, Ev (fun k => spec_reader_pick.f k b p n) (v, p + 1) ∧ 0 ≤ v ∧ v < n := by
 obtain ⟨v, h, h0, h1, _⟩ := pick_at b p n hb hp0 hp
 exact ⟨v, ev_of 0 h, h0, h1 hn⟩
theorem newImage_eq (w h p : Int) (hs : 1 ≤ w ∧ w ≤ 16 ∧ 1 ≤ h ∧ h ≤ 16 ∧ 1 ≤ p ∧ p ≤ 4) : spec_newImage.f w h p = some (w, h, p, List.replicate (w * h * p).toNat 0) := by
 have := shape_prod hs
 unfold spec_newImage.f
 rw [shape_wrap hs, if_pos (by omega), if_pos (by omega)]
theorem randomLoop (b : List Int) (hb : Bytes b) (m : Int) (w h p : Int) : ∀ (n i : Nat) (x pos : Int) (d : List Int), i + n = d.length → 0 ≤ pos → pos + n ≤ 1000000000000 → d.length ≤ 1000000 →
  ∃ (d' : List Int) (q : Int), d'.length = d.length ∧ pos ≤ q ∧ q ≤ pos + n ∧ Ev (fun k => spec_randomImage.l0 k m x (i : Int) b pos w h p d) (w, h, p, d', q) := by
 intro n
 induction n with
 | zero =>
  intro i x pos d hi h0 h1 h2
  refine ⟨d, pos, rfl, by omega, by omega, ?_⟩
  refine Ev.step (f := fun _ => some (w, h, p, d, pos)) (fun k => ?_) (Ev.now _)
  simp only [spec_randomImage.l0]
  rw [if_neg (by omega)]
 | succ n ih =>
  intro i x pos d hi h0 h1 h2
  have go : ∀ (v x' pos' : Int), pos ≤ pos' → pos' ≤ pos + 1 → ∃ (d' : List Int) (q : Int), d'.length = d.length ∧ pos ≤ q ∧ q ≤ pos + ((n + 1 : Nat) : Int) ∧ Ev (fun k => spec_randomImage.l0 k m x' ((i + 1 : Nat) : Int) b pos' w h p (d.set i v)) (w, h, p, d', q) := by
   intro v x' pos' a1 a2
   obtain ⟨d', q, e1, e2, e3, e4⟩ := ih (i + 1) x' pos' (d.set i v) (by rw [List.length_set]; omega) (by omega) (by omega) (by rw [List.length_set]; omega)
   exact ⟨d', q, by rw [e1, List.length_set], by omega, by omega, e4⟩
  by_cases c0 : m = 0
  ·obtain ⟨v, hv, _, _⟩ := pick_in b pos 256 (by omega) hb h0 (by omega)
   obtain ⟨d', q, e1, e2, e3, e4⟩ := go v v (pos + 1) (by omega) (by omega)
   refine ⟨d', q, e1, e2, e3, ?_⟩
   refine Ev.step (f := fun k => (spec_reader_pick.f k b pos 256).bind fun bt => if 0 ≤ (i : Int) then spec_randomImage.l0 k m bt.1 (wrap64 ((i : Int) + 1)) b bt.2 w h p (d.set (i : Int).toNat bt.1) else none) (fun k => ?_) ?_
   ·simp only [spec_randomImage.l0]
    rw [if_pos (by omega), if_pos c0]
   ·refine ev_bind hv (ev_pos (by omega) ?_)
    simp only [Int.toNat_natCast, w64n i (by omega)]
    exact e4
  ·by_cases c1 : m = 1
   ·obtain ⟨v, hv, _, _⟩ := pick_in b pos 5 (by omega) hb h0 (by omega)
    obtain ⟨d', q, e1, e2, e3, e4⟩ := go (Int.tmod (wrap64 ((wrap64 (x + v)) + 254)) 256) (Int.tmod (wrap64 ((wrap64 (x + v)) + 254)) 256) (pos + 1) (by omega) (by omega)
    refine ⟨d', q, e1, e2, e3, ?_⟩
    refine Ev.step (f := fun k => (spec_reader_pick.f k b pos 5).bind fun bt => if 0 ≤ (i : Int) then spec_randomImage.l0 k m (Int.tmod (wrap64 ((wrap64 (x + bt.1)) + 254)) 256) (wrap64 ((i : Int) + 1)) b bt.2 w h p (d.set (i : Int).toNat (Int.tmod (wrap64 ((wrap64 (x + bt.1)) + 254)) 256)) else none) (fun k => ?_) ?_
    ·simp only [spec_randomImage.l0]
     rw [if_pos (by omega), if_neg c0, if_pos c1]
    ·refine ev_bind hv (ev_pos (by omega) ?_)
     simp only [Int.toNat_natCast, w64n i (by omega)]
     exact e4
   ·by_cases c2 : m = 2
    ·obtain ⟨v, hv, _, _⟩ := pick_in b pos 4 (by omega) hb h0 (by omega)
     obtain ⟨d', q, e1, e2, e3, e4⟩ := go (wrap64 (60 * v)) (wrap64 (60 * v)) (pos + 1) (by omega) (by omega)
     refine ⟨d', q, e1, e2, e3, ?_⟩
     refine Ev.step (f := fun k => (spec_reader_pick.f k b pos 4).bind fun bt => if 0 ≤ (i : Int) then spec_randomImage.l0 k m (wrap64 (60 * bt.1)) (wrap64 ((i : Int) + 1)) b bt.2 w h p (d.set (i : Int).toNat (wrap64 (60 * bt.1))) else none) (fun k => ?_) ?_
     ·simp only [spec_randomImage.l0]
      rw [if_pos (by omega), if_neg c0, if_neg c1, if_pos c2]
     ·refine ev_bind hv (ev_pos (by omega) ?_)
      simp only [Int.toNat_natCast, w64n i (by omega)]
      exact e4
    ·obtain ⟨d', q, e1, e2, e3, e4⟩ := go x x pos (by omega) (by omega)
     refine ⟨d', q, e1, e2, e3, Ev.step (fun k => ?_) e4⟩
     simp only [spec_randomImage.l0]
     rw [if_pos (by omega), if_neg c0, if_neg c1, if_neg c2, if_pos (by omega), Int.toNat_natCast, w64n i (by omega)]
theorem randomImage_ev (b : List Int) (pos p : Int) (hb : Bytes b) (h0 : 0 ≤ pos) (h1 : pos ≤ 100000000) (hp : 1 ≤ p ∧ p ≤ 4) :
  ∃ (w h : Int) (d : List Int) (q : Int), 1 ≤ w ∧ w ≤ 8 ∧ 1 ≤ h ∧ h ≤ 8 ∧ (d.length : Int) = w * h * p ∧ 1 ≤ d.length ∧ d.length ≤ 1024 ∧ pos ≤ q ∧ q ≤ pos + 2000 ∧ Ev (fun k => spec_randomImage.f k b pos p) (w, h, p, d, q) := by
 obtain ⟨w, hw, mw⟩ := one_in b pos [3, 4, 2, 5, 1, 8, 6] (by simp) (by simp) hb h0 (by omega)
 obtain ⟨h, hh, mh⟩ := one_in b (pos + 1) [3, 2, 4, 1, 5, 8] (by simp) (by simp) hb (by omega) (by omega)
 obtain ⟨m, hm, _, _⟩ := pick_in b (pos + 1 + 1) 4 (by omega) hb (by omega) (by omega)
 obtain ⟨x, hx, _, _⟩ := pick_in b (pos + 1 + 1 + 1) 256 (by omega) hb (by omega) (by omega)
 have bw : 1 ≤ w ∧ w ≤ 8 := by simp only [List.mem_cons, List.not_mem_nil, or_false] at mw; omega
 have bh : 1 ≤ h ∧ h ≤ 8 := by simp only [List.mem_cons, List.not_mem_nil, or_false] at mh; omega
 have hs : 1 ≤ w ∧ w ≤ 16 ∧ 1 ≤ h ∧ h ≤ 16 ∧ 1 ≤ p ∧ p ≤ 4 := by omega
 have hpr := shape_prod hs
 have hpos : 1 ≤ w * h * p := by
  have e1 : 1 * 1 ≤ w * h := Int.mul_le_mul (by omega) (by omega) (by omega) (by omega)
  have e2 : 1 * 1 ≤ w * h * p := Int.mul_le_mul (by omega) (by omega) (by omega) (by omega)
  omega
 have hlen : (List.replicate (w * h * p).toNat (0 : Int)).length = (w * h * p).toNat := List.length_replicate
 obtain ⟨d', q, e1, e2, e3, e4⟩ := randomLoop b hb m w h p (w * h * p).toNat 0 x (pos + 1 + 1 + 1 + 1) (List.replicate (w * h * p).toNat 0) (by omega) (by omega) (by omega) (by omega)
 refine ⟨w, h, d', q, bw.1, bw.2, bh.1, bh.2, by omega, by omega, by omega, by omega, by omega, ?_⟩
 unfold spec_randomImage.f
 exact ev_bind hw (ev_bind hh (ev_now (newImage_eq w h p hs) (ev_bind hm (ev_bind hx e4))))
theorem anyPlanes_ev (b : List Int) (pos : Int) (hb : Bytes b) (h0 : 0 ≤ pos) (h1 : pos ≤ 100000000) : ∃ p, 1 ≤ p ∧ p ≤ 4 ∧ Ev (fun k => spec_anyPlanes.f k b pos) (p, pos + 1) := by
 obtain ⟨p, hp, mp⟩ := one_in b pos [1, 3, 1, 4, 2] (by simp) (by simp) hb h0 (by omega)
 simp only [List.mem_cons, List.not_mem_nil, or_false] at mp
 refine ⟨p, by omega, by omega, ?_⟩
 unfold spec_anyPlanes.f
 exact ev_bind hp (Ev.now _)
theorem spoilImage_ev (b : List Int) (pos : Int) (w h p : Int) (d : List Int) (hb : Bytes b) (h0 : 0 ≤ pos) (h1 : pos ≤ 100000000) (hd : 1 ≤ d.length) :
  ∃ (w' h' p' : Int) (d' : List Int) (q : Int), d'.length ≤ d.length ∧ pos ≤ q ∧ q ≤ pos + 2 ∧ Ev (fun k => spec_spoilImage.f k b pos w h p d) (w', h', p', d', q) := by
 obtain ⟨v, hv, _, _⟩ := pick_in b pos 40 (by omega) hb h0 (by omega)
 unfold spec_spoilImage.f
 by_cases c0 : v = 0
 ·obtain ⟨x, hx, _⟩ := one_in b (pos + 1) [0, 17, wrap64 (w + 1)] (by simp) (by simp) hb (by omega) (by omega)
  exact ⟨x, h, p, d, pos + 1 + 1, by omega, by omega, by omega, ev_bind hv (ev_pos c0 (ev_bind hx (Ev.now _)))⟩
 ·by_cases c1 : v = 1
  ·exact ⟨w, h, p, d.drop (1 : Int).toNat, pos + 1, by rw [List.length_drop]; omega, by omega, by omega, ev_bind hv (ev_neg c0 (ev_pos c1 (ev_pos (by omega) (Ev.now _))))⟩
  ·by_cases c2 : v = 2
   ·obtain ⟨x, hx, _⟩ := one_in b (pos + 1) [(-1), 256] (by simp) (by simp) hb (by omega) (by omega)
    exact ⟨w, h, p, d.set (0 : Int).toNat x, pos + 1 + 1, by rw [List.length_set]; omega, by omega, by omega, ev_bind hv (ev_neg c0 (ev_neg c1 (ev_pos c2 (ev_bind hx (ev_pos (by omega) (Ev.now _))))))⟩
   ·by_cases c3 : v = 3
    ·obtain ⟨x, hx, _⟩ := one_in b (pos + 1) [0, 5] (by simp) (by simp) hb (by omega) (by omega)
     exact ⟨w, h, x, d, pos + 1 + 1, by omega, by omega, by omega, ev_bind hv (ev_neg c0 (ev_neg c1 (ev_neg c2 (ev_pos c3 (ev_bind hx (Ev.now _))))))⟩
    ·exact ⟨w, h, p, d, pos + 1, by omega, by omega, by omega, ev_bind hv (ev_neg c0 (ev_neg c1 (ev_neg c2 (ev_neg c3 (Ev.now _)))))⟩
theorem anyImage_ev (b : List Int) (pos : Int) (hb : Bytes b) (h0 : 0 ≤ pos) (h1 : pos ≤ 90000000) :
  ∃ (w h p : Int) (d : List Int) (q : Int), d.length ≤ 1024 ∧ pos ≤ q ∧ q ≤ pos + 3000 ∧ Ev (fun k => spec_anyImage.f k b pos) (w, h, p, d, q) := by
 obtain ⟨p, p1, p2, hp⟩ := anyPlanes_ev b pos hb h0 (by omega)
 obtain ⟨w, h, d, q, _, _, _, _, _, d1, d2, q1, q2, hr⟩ := randomImage_ev b (pos + 1) p hb (by omega) (by omega) ⟨p1, p2⟩
 obtain ⟨w', h', p', d', q', d3, q3, q4, hs⟩ := spoilImage_ev b q w h p d hb (by omega) (by omega) d1
 refine ⟨w', h', p', d', q', by omega, by omega, by omega, ?_⟩
 unfold spec_anyImage.f
 exact ev_bind hp (ev_bind hr (ev_bind hs (Ev.now _)))

/- Layers that are drawn from bytes. -/

theorem randomLayer_ev (b : List Int) (pos p : Int) (hb : Bytes b) (h0 : 0 ≤ pos) (h1 : pos ≤ 50000000) (hp : 1 ≤ p ∧ p ≤ 4) :
  ∃ (w h : Int) (d : List Int) (x y m a : Int) (hid : Bool) (q : Int), d.length ≤ 1024 ∧ pos ≤ q ∧ q ≤ pos + 3000 ∧ Ev (fun k => spec_randomLayer.f k b pos p) (w, h, p, d, x, y, m, a, hid, q) := by
 obtain ⟨w, h, d, q, _, _, _, _, _, _, hd, q1, q2, hr⟩ := randomImage_ev b pos p hb h0 (by omega) hp
 obtain ⟨v1, g1, _⟩ := pick_in b q 7 (by omega) hb (by omega) (by omega)
 obtain ⟨v2, g2, _⟩ := pick_in b (q + 1) 5 (by omega) hb (by omega) (by omega)
 obtain ⟨v3, g3, _⟩ := pick_in b (q + 1 + 1) 5 (by omega) hb (by omega) (by omega)
 obtain ⟨v4, g4, _⟩ := pick_in b (q + 1 + 1 + 1) 5 (by omega) hb (by omega) (by omega)
 obtain ⟨v5, g5, _⟩ := one_in b (q + 1 + 1 + 1 + 1) [255, 128, 0, 200] (by simp) (by simp) hb (by omega) (by omega)
 refine ⟨w, h, d, wrap64 (v1 - 3), wrap64 (v2 - 2), v3, v5, v4 == 0, q + 1 + 1 + 1 + 1 + 1, hd, by omega, by omega, ?_⟩
 unfold spec_randomLayer.f
 exact ev_bind hr (ev_bind g1 (ev_bind g2 (ev_bind g3 (ev_bind g4 (ev_bind g5 (Ev.now _))))))
theorem anyLayer_ev (b : List Int) (pos p : Int) (hb : Bytes b) (h0 : 0 ≤ pos) (h1 : pos ≤ 40000000) :
  ∃ (w h p' : Int) (d : List Int) (x y m a : Int) (hid : Bool) (q : Int), d.length ≤ 1024 ∧ pos ≤ q ∧ q ≤ pos + 10000 ∧ Ev (fun k => spec_anyLayer.f k b pos p) (w, h, p', d, x, y, m, a, hid, q) := by
 have hp : 1 ≤ mx 1 (mn p 4) ∧ mx 1 (mn p 4) ≤ 4 := by
  unfold mx mn
  split <;> split <;> omega
 obtain ⟨w, h, d, x, y, m, a, hid, q, hd, q1, q2, hr⟩ := randomLayer_ev b pos (mx 1 (mn p 4)) hb h0 (by omega) hp
 obtain ⟨v, g, _⟩ := pick_in b q 24 (by omega) hb (by omega) (by omega)
 unfold spec_anyLayer.f
 by_cases c0 : v = 0
 ·obtain ⟨z, gz, _⟩ := one_in b (q + 1) [(-1), 5] (by simp) (by simp) hb (by omega) (by omega)
  exact ⟨w, h, _, d, x, y, z, a, hid, q + 1 + 1, hd, by omega, by omega, ev_bind hr (ev_bind g (ev_pos c0 (ev_bind gz (Ev.now _))))⟩
 ·by_cases c1 : v = 1
  ·obtain ⟨z, gz, _⟩ := one_in b (q + 1) [(-1), 256] (by simp) (by simp) hb (by omega) (by omega)
   exact ⟨w, h, _, d, x, y, m, z, hid, q + 1 + 1, hd, by omega, by omega, ev_bind hr (ev_bind g (ev_neg c0 (ev_pos c1 (ev_bind gz (Ev.now _)))))⟩
  ·by_cases c2 : v = 2
   ·obtain ⟨z, gz, _⟩ := one_in b (q + 1) [(-16), (-17), 16, 17] (by simp) (by simp) hb (by omega) (by omega)
    exact ⟨w, h, _, d, z, y, m, a, hid, q + 1 + 1, hd, by omega, by omega, ev_bind hr (ev_bind g (ev_neg c0 (ev_neg c1 (ev_pos c2 (ev_bind gz (Ev.now _))))))⟩
   ·by_cases c3 : v = 3
    ·obtain ⟨w2, h2, p2, d2, q', hd2, q3, q4, hi⟩ := anyImage_ev b (q + 1) hb (by omega) (by omega)
     exact ⟨w2, h2, p2, d2, x, y, m, a, hid, q', hd2, by omega, by omega, ev_bind hr (ev_bind g (ev_neg c0 (ev_neg c1 (ev_neg c2 (ev_pos c3 (ev_bind hi (Ev.now _)))))))⟩
    ·exact ⟨w, h, _, d, x, y, m, a, hid, q + 1, hd, by omega, by omega, ev_bind hr (ev_bind g (ev_neg c0 (ev_neg c1 (ev_neg c2 (ev_neg c3 (Ev.now _))))))⟩

/- Lists of numbers and images, compared one by one. -/

theorem equalIntsC (l m : List Int) (hl : l.length ≤ 1000000) : Ev (fun k => laws_equalInts.f k l m) (decide (l = m)) := by
 unfold laws_equalInts.f
 by_cases hn : l.length = m.length
 ·have key := ev_up l.length (fun k i (_ : Unit) => laws_equalInts.l0 k l m (i : Int)) (fun _ _ => True) (fun i _ => decide (l.drop i = m.drop i))
   (by
    intro i s hi _
    have e1 := List.drop_eq_getElem_cons hi
    have e2 := List.drop_eq_getElem_cons (show i < m.length by omega)
    by_cases c : l[i] = m[i]'(by omega)
    ·refine .inr ⟨(), fun k => ?_, trivial, ?_⟩
     ·simp only [laws_equalInts.l0]
      rw [if_pos (by omega), if_pos (by omega), if_pos (by omega), rd_nat l i hi, rd_nat m i (by omega), if_pos c, w64n i (by omega)]
     ·rw [e1, e2, decide_eq_decide, List.cons.injEq]
      exact ⟨fun h => ⟨c, h⟩, fun h => h.2⟩
    ·left
     rw [e1, e2, decide_eq_false (by rw [List.cons.injEq]; exact fun h => c h.1)]
     refine Ev.step (f := fun _ => some false) (fun k => ?_) (Ev.now _)
     simp only [laws_equalInts.l0]
     rw [if_pos (by omega), if_pos (by omega), if_pos (by omega), rd_nat l i hi, rd_nat m i (by omega), if_neg c])
   (by
    intro s _
    refine Ev.step (f := fun _ => some true) (fun k => ?_) (ev_const (by rw [List.drop_length, hn, List.drop_length]; rfl))
    simp only [laws_equalInts.l0]
    rw [if_neg (by omega)])
   l.length 0 () (by omega) trivial
  exact ev_pos (by omega) (by simpa using key)
 ·refine ev_neg (by omega) ?_
  rw [decide_eq_false (fun h => hn (by rw [h]))]
  exact Ev.now _
theorem equalImage_ev (a b p : Int) (d : List Int) (a' b' p' : Int) (d' : List Int) (hl : d.length ≤ 1000000) : Ev (fun k => laws_equalImage.f k a b p d a' b' p' d') (decide (a = a' ∧ b = b' ∧ p = p' ∧ d = d')) := by
 unfold laws_equalImage.f
 by_cases c1 : a = a'
 ·refine ev_pos c1 ?_
  by_cases c2 : b = b'
  ·refine ev_pos c2 ?_
   by_cases c3 : p = p'
   ·refine ev_pos c3 ?_
    rw [decide_eq_decide.2 (show (a = a' ∧ b = b' ∧ p = p' ∧ d = d') ↔ d = d' from ⟨fun h => h.2.2.2, fun h => ⟨c1, c2, c3, h⟩⟩)]
    exact ev_bind (equalIntsC d d' hl) (Ev.now _)
   ·refine ev_neg c3 ?_
    rw [decide_eq_false (fun h => c3 h.2.2.1)]
    exact Ev.now _
  ·refine ev_neg c2 ?_
   rw [decide_eq_false (fun h => c2 h.2.1)]
   exact Ev.now _
 ·refine ev_neg c1 ?_
  rw [decide_eq_false (fun h => c1 h.1)]
  exact Ev.now _

/- Clean tiles are unchanged: what the law FnDirtyTiles wants. -/

theorem drawCover (code : List Int) (hw : ∀ x ∈ code, (Lit.int .u8 x).wf = true) : ∃ (w h p : Int) (d : List Int) (w' h' p' : Int) (d' : List Int) (x y m a : Int) (hid : Bool), d.length ≤ 1024 ∧ d'.length ≤ 1024 ∧ Ev (fun k => spec_DrawCoverImage.f k code) (w, h, p, d, w', h', p', d', x, y, m, a, hid) := by
 obtain ⟨b, hb, hB⟩ := newReader_at code (code_bytes code hw)
 obtain ⟨w, h, p, d, q, hd, q1, q2, he⟩ := anyImage_ev b 0 hB (by omega) (by omega)
 obtain ⟨w', h', p', d', x, y, m, a, hid, q', hd', q3, q4, hl⟩ := anyLayer_ev b q p hB (by omega) (by omega)
 refine ⟨w, h, p, d, w', h', p', d', x, y, m, a, hid, hd, hd', ?_⟩
 unfold spec_DrawCoverImage.f
 exact ev_now hb (ev_bind he (ev_bind hl (Ev.now _)))
theorem valid_img {an bn pn : Nat} {px : Nat → Nat → List Int} (h1 : 1 ≤ an ∧ an ≤ 16) (h2 : 1 ≤ bn ∧ bn ≤ 16) (h3 : 1 ≤ pn ∧ pn ≤ 4) (hl : ∀ x y, x < an → y < bn → (px x y).length = pn) (hb : ∀ x y, x < an → y < bn → AllB (px x y)) : validI an bn pn (imgD px an bn) = true := by
 refine (validI_iff _ _ _ _).2 ⟨by omega, by rw [imgD_length hl, Nat.mul_comm bn an]; push_cast; rfl, fun n hn => ?_⟩
 unfold imgD rowD at hn
 obtain ⟨y, hy, hn⟩ := List.mem_flatMap.1 hn
 obtain ⟨x, hx, hn⟩ := List.mem_flatMap.1 hn
 exact hb x y (List.mem_range.1 hx) (List.mem_range.1 hy) n hn
theorem drawDirty (code : List Int) (hw : ∀ x ∈ code, (Lit.int .u8 x).wf = true) : ∃ (w h p : Int) (d : List Int) (w' h' p' : Int) (d' : List Int) (x y m a : Int) (hid : Bool), d.length ≤ 1024 ∧ d'.length ≤ 1024 ∧ Ev (fun k => spec_DrawDirtyTiles.f k code) (w, h, p, d, w', h', p', d', x, y, m, a, hid) := by
 obtain ⟨w, h, p, d, w', h', p', d', x, y, m, a, hid, h1, h2, h3⟩ := drawCover code hw
 refine ⟨w, h, p, d, w', h', p', d', x, y, m, a, hid, h1, h2, ?_⟩
 unfold spec_DrawDirtyTiles.f
 exact ev_bind h3 (Ev.now _)
theorem isIn_ev (l : List Int) (x : Int) (hl : l.length ≤ 1000000) : Ev (fun k => laws_isIn.f k l x) (decide (x ∈ l)) := by
 have key := ev_up l.length (fun k i (_ : Unit) => laws_isIn.l0 k l x (i : Int)) (fun _ _ => True) (fun i _ => decide (x ∈ l.drop i))
  (by
   intro i s hi _
   have e1 := List.drop_eq_getElem_cons hi
   by_cases c : l[i] = x
   ·left
    rw [e1, decide_eq_true (by rw [← c]; exact List.mem_cons_self)]
    refine Ev.step (f := fun _ => some true) (fun k => ?_) (Ev.now _)
    simp only [laws_isIn.l0]
    rw [if_pos (by omega), if_pos (by omega), rd_nat l i hi, if_pos c]
   ·refine .inr ⟨(), fun k => ?_, trivial, ?_⟩
    ·simp only [laws_isIn.l0]
     rw [if_pos (by omega), if_pos (by omega), rd_nat l i hi, if_neg c, w64n i (by omega)]
    ·rw [e1, decide_eq_decide, List.mem_cons]
     exact ⟨Or.inr, fun h => h.elim (fun z => absurd z.symm c) id⟩)
  (by
   intro s _
   refine Ev.step (f := fun _ => some false) (fun k => ?_) (ev_const (by rw [List.drop_length]; simp))
   simp only [laws_isIn.l0]
   rw [if_neg (by omega)])
  l.length 0 () (by omega) trivial
 unfold laws_isIn.f
 simpa using key
theorem dirty_mem (W H : Nat) (w h x y : Int) (n t : Nat) (ht : t < n) : ((t : Int) ∈ dirtyN W H w h x y n) ↔ touchB w h x y (tileN W H t) = true := by
 unfold dirtyN
 rw [List.mem_map]
 constructor
 ·rintro ⟨z, hz, e⟩
  have e := Int.ofNat.inj e
  subst e
  exact (List.mem_filter.1 hz).2
 ·exact fun h => ⟨t, List.mem_filter.2 ⟨List.mem_range.2 ht, h⟩, rfl⟩

/- Clean tiles are unchanged: the law FnDirtyTiles over lists of numbers alone. -/

theorem FnDirtyTiles : laws_FnDirtyTiles.Pure := by
 intro code _ _ hw
 apply Ev.rounds
 unfold laws_FnDirtyTiles.f
 by_cases c : (code.length : Int) > 1048576
 ·exact ev_pos c (Ev.now true)
 refine ev_neg c ?_
 obtain ⟨w, h, p, d, w', h', p', d', x, y, m, a, hid, hdl, hdl', hd⟩ := drawDirty code hw
 have hI := impl_DirtyTiles_ev w h p d w' h' p' d' x y m a hid
 have hC := impl_CoverImage_eq w h p d w' h' p' d' x y m a hid
 have hS := spec_DirtyTiles_ev w h p d w' h' p' d' x y m a hid (by omega) (by omega)
 have hl := dirtyV_len w h p d w' h' p' d' x y m a
 have hq := ev_val (equalIntsC (dirtyV w h p d w' h' p' d' x y m a) (dirtyV w h p d w' h' p' d' x y m a) (by omega)) (decide_eq_true rfl)
 refine ev_bind hd (ev_bind hI (ev_now hC (ev_bind hS (ev_bind hq (ev_pos rfl ?_)))))
 by_cases hc : validI w h p d = true ∧ layerV w' h' p' d' x y m a p = true
 ·have hV : coverV w h p d w' h' p' d' x y m a = (w, h, p, imgD (covPx w.toNat p.toNat d x y w'.toNat h'.toNat d' m a) w.toNat h.toNat, true) := by unfold coverV; rw [if_pos hc]
  have hT : dirtyV w h p d w' h' p' d' x y m a = dirtyN w.toNat h.toNat w' h' x y (colsOf w.toNat * colsOf h.toNat) := by unfold dirtyV; rw [if_pos hc]
  have hB := impl_TileBoxes_ev w h p d
  have hB' : tilesOf w h p d = tilesV w.toNat h.toNat := by unfold tilesOf; rw [if_pos hc.1]
  rw [hB'] at hB
  rw [hV]
  rw [hT] at hl ⊢
  clear hI hC hS hq hT hV hB'
  obtain ⟨c1, c2⟩ := hc
  obtain ⟨hvl, rfl, hx1, hx2, hy1, hy2, hm1, hm2, ha1, ha2⟩ := (layerV_iff _ _ _ _ _ _ _ _ _).1 c2
  have hb1 := ((validI_iff _ _ _ _).1 c1).2.2
  have hb2 := ((validI_iff _ _ _ _).1 hvl).2.2
  obtain ⟨an, bn, pn, rfl, rfl, rfl, q1, q2, q3, q4, q5, q6, q7⟩ := nat_of c1
  obtain ⟨wn, hn, pm, rfl, rfl, hpm, q11, q12, q13, q14, _, _, q17⟩ := nat_of hvl
  have hpm := Int.ofNat.inj hpm
  subst hpm
  simp only [Int.toNat_natCast] at hl hB ⊢
  have hval : validI an bn pn (imgD (covPx an pn d x y wn hn d' m a) an bn) = true := valid_img ⟨q1, q2⟩ ⟨q3, q4⟩ ⟨q5, q6⟩ (covPx_len m a q7 q17) (fun i j hi hj => by
   unfold covPx
   split
   ·exact covL_bytes ⟨ha1, ha2⟩ (allB_nx hb1 _ _) (allB_nx hb2 _ _)
   ·exact allB_nx hb1 _ _)
  have hDn := fun i j (hi : i < an) (hj : j < bn) => nx_imgD (px := covPx an pn d x y wn hn d' m a) (covPx_len m a q7 q17) hi hj
  generalize imgD (covPx an pn d x y wn hn d' m a) an bn = D at *
  refine Ev.step (f := fun k => (impl_TileBoxes.f k an bn pn d).bind fun t => laws_FnDirtyTiles.l0 k (dirtyN an bn wn hn x y (colsOf an * colsOf bn)) t 0 an bn pn d an bn pn D) (fun k => ?_) (ev_bind hB ?_)
  ·simp only [laws_FnDirtyTiles.j0, Bool.not_true]
   rw [if_neg (by simp)]
  have hlen : (tilesV an bn).length = colsOf an * colsOf bn := tilesN_length _ _ _
  have hcnt := tiles_count an bn q1 q2 q3 q4
  obtain ⟨_, _, hk⟩ := ev_run (colsOf an * colsOf bn) (fun k i (_ : Unit) => laws_FnDirtyTiles.l0 k (dirtyN an bn wn hn x y (colsOf an * colsOf bn)) (tilesV an bn) (i : Int) an bn pn d an bn pn D) (fun _ _ => some true) (fun _ _ => True)
   (by
    intro i s hi _
    refine ⟨(), trivial, fun res hres => ?_⟩
    obtain ⟨x0, y0, w0, h0, et, t1, t2, t3, t4⟩ := tile_box ⟨q1, q2⟩ ⟨q3, q4⟩ hi
    have hrd : rd_T47 (tilesV an bn) (i : Int) = ⟨(x0 : Int), (y0 : Int), (w0 : Int), (h0 : Int)⟩ := by
     rw [← et]
     unfold rd_T47 tilesV tilesN
     simp [hi]
    have hbx : boxOn an bn x0 y0 w0 h0 = true := (boxOn_iff _ _ _ _ _ _).2 (by omega)
    have hA : impl_CropImage.f an bn pn d x0 y0 w0 h0 = some ((w0 : Int), (h0 : Int), (pn : Int), imgD (cropPx an pn d x0 y0) w0 h0, true) := by
     unfold impl_CropImage.f
     rw [if_pos ⟨c1, hbx⟩]
     rfl
    have hB2 : impl_CropImage.f an bn pn D x0 y0 w0 h0 = some ((w0 : Int), (h0 : Int), (pn : Int), imgD (cropPx an pn D x0 y0) w0 h0, true) := by
     unfold impl_CropImage.f
     rw [if_pos ⟨hval, hbx⟩]
     rfl
    have hin := isIn_ev (dirtyN an bn wn hn x y (colsOf an * colsOf bn)) (i : Int) (by omega)
    refine Ev.step (f := fun k => (impl_CropImage.f an bn pn d x0 y0 w0 h0).bind fun t => (impl_CropImage.f an bn pn D x0 y0 w0 h0).bind fun u => if t.2.2.2.2 = true then (if u.2.2.2.2 = true then ((laws_isIn.f k (dirtyN an bn wn hn x y (colsOf an * colsOf bn)) (i : Int)).bind fun z => if z = true then laws_FnDirtyTiles.l0 k (dirtyN an bn wn hn x y (colsOf an * colsOf bn)) (tilesV an bn) ((i + 1 : Nat) : Int) an bn pn d an bn pn D else ((laws_equalImage.f k t.1 t.2.1 t.2.2.1 t.2.2.2.1 u.1 u.2.1 u.2.2.1 u.2.2.2.1).bind fun z => if z = true then laws_FnDirtyTiles.l0 k (dirtyN an bn wn hn x y (colsOf an * colsOf bn)) (tilesV an bn) ((i + 1 : Nat) : Int) an bn pn d an bn pn D else some false)) else some false) else some false) (fun k => ?_) (ev_now hA (ev_now hB2 (ev_pos rfl (ev_pos rfl (ev_bind hin ?_)))))
    ·simp only [laws_FnDirtyTiles.l0]
     rw [if_pos (by omega), if_pos (by omega), hrd, w64n i (by omega)]
    ·by_cases z : (i : Int) ∈ dirtyN an bn wn hn x y (colsOf an * colsOf bn)
     ·exact ev_pos (decide_eq_true z) hres
     ·refine ev_neg (by simpa using z) ?_
      have ht : touchB wn hn x y ⟨(x0 : Int), (y0 : Int), (w0 : Int), (h0 : Int)⟩ = false := by
       rw [← et]
       exact Bool.eq_false_iff.2 (fun e => z ((dirty_mem an bn wn hn x y _ i hi).2 e))
      have he : imgD (cropPx an pn d x0 y0) w0 h0 = imgD (cropPx an pn D x0 y0) w0 h0 := imgD_congr (fun i' j' hi' hj' => by
       unfold cropPx
       rw [pxAt_nat q2 q4 q6 (by omega) (by omega), pxAt_nat q2 q4 q6 (by omega) (by omega), hDn _ _ (by omega) (by omega), cov_clean ⟨by omega, by omega, by omega, by omega, q12, q14⟩ ⟨hx1, hx2⟩ ⟨hy1, hy2⟩ ht hi' hj'])
      have hle : (imgD (cropPx an pn d x0 y0) w0 h0).length ≤ 1000000 := by
       rw [imgD_length (n := pn) (fun i' j' hi' hj' => by
        unfold cropPx
        rw [pxAt_nat q2 q4 q6 (by omega) (by omega)]
        exact nx_length q7 (lin_lt (by omega) (by omega)))]
       have := small (show w0 ≤ 16 by omega) (show h0 ≤ 16 by omega) q6
       omega
      exact ev_bind (ev_val (equalImage_ev _ _ _ _ _ _ _ _ hle) (decide_eq_true ⟨rfl, rfl, rfl, he⟩)) (ev_pos rfl hres))
   (by
    intro s _ res hres
    refine Ev.step (fun k => ?_) hres
    simp only [laws_FnDirtyTiles.l0]
    rw [if_neg (by omega)])
   (colsOf an * colsOf bn) 0 () (by omega) trivial
  exact hk _ (Ev.now _)
 ·have hV : coverV w h p d w' h' p' d' x y m a = (0, 0, 0, [], false) := by unfold coverV; rw [if_neg hc]
  rw [hV]
  refine Ev.step (f := fun k => (spec_DirtyTiles.f k w h p d w' h' p' d' x y m a hid).bind fun t => (laws_equalInts.f k (dirtyV w h p d w' h' p' d' x y m a) t).bind fun z => some z) (fun k => ?_) (ev_bind hS (ev_bind hq (Ev.now _)))
  simp only [laws_FnDirtyTiles.j0, Bool.not_false]
  rw [if_pos trivial]
end Go.Proofs.Ytnofkbbcbpjhfaa.Pure

/- The head of the translation reads as a plain cut. -/
namespace Go.Proofs.Ytnofkbbcbpjhfaa.Head
set_option maxRecDepth 100000
theorem wordsSigns_word (w r : List Char) (h : w.all (fun c => !(c == Char.ofNat 32)) = true) : wordsSigns (w ++ Char.ofNat 32 :: r) = w :: wordsSigns r := by
  induction w with
  | nil => rfl
  | cons c w ih =>
    simp only [List.all_cons, Bool.and_eq_true, Bool.not_eq_true', beq_eq_false_iff_ne, ne_eq] at h
    have h1 := ih (by simpa using h.2)
    rw [List.cons_append, wordsSigns.eq_3 c _ h.1, h1]
def w1 : List Char := [104, 97, 114, 110, 101, 115, 115].map Char.ofNat
def w2 : List Char := [98, 98, 56, 56, 48, 50, 51, 48, 99, 56, 98, 97, 54, 51, 51, 51, 48, 101, 54, 53, 56, 97, 98, 51, 97, 51, 99, 100, 54, 102, 98, 98, 55, 101, 51, 50, 99, 48, 56, 52, 55, 54, 49, 49, 100, 50, 51, 56, 55, 100, 54, 48, 49, 99, 100, 97, 51, 102, 50, 98, 48, 57, 53, 101].map Char.ofNat
def w3 : List Char := [99, 117, 116].map Char.ofNat
def w4 : List Char := [97, 116, 32, 108, 111, 111, 112, 46, 101, 120, 97, 109, 112, 108, 101, 47, 112, 105, 120, 101, 108, 119, 111, 114, 107, 115, 47, 108, 97, 119, 115, 46, 70, 110, 69, 120, 97, 99, 116, 71, 97, 112, 79, 102, 32, 108, 111, 111, 112, 46, 101, 120, 97, 109, 112, 108, 101, 47, 112, 105, 120, 101, 108, 119, 111, 114, 107, 115, 47, 108, 97, 119, 115, 46, 70, 110, 71, 97, 112, 79, 102, 32, 108, 111, 111, 112, 46, 101, 120, 97, 109, 112, 108, 101, 47, 112, 105, 120, 101, 108, 119, 111, 114, 107, 115, 47, 108, 97, 119, 115, 46, 70, 110, 69, 120, 97, 99, 116, 84, 105, 108, 101, 66, 111, 120, 101, 115, 32, 108, 111, 111, 112, 46, 101, 120, 97, 109, 112, 108, 101, 47, 112, 105, 120, 101, 108, 119, 111, 114, 107, 115, 47, 108, 97, 119, 115, 46, 70, 110, 84, 105, 108, 101, 66, 111, 120, 101, 115, 32, 108, 111, 111, 112, 46, 101, 120, 97, 109, 112, 108, 101, 47, 112, 105, 120, 101, 108, 119, 111, 114, 107, 115, 47, 108, 97, 119, 115, 46, 70, 110, 69, 120, 97, 99, 116, 68, 105, 114, 116, 121, 84, 105, 108, 101, 115, 32, 108, 111, 111, 112, 46, 101, 120, 97, 109, 112, 108, 101, 47, 112, 105, 120, 101, 108, 119, 111, 114, 107, 115, 47, 108, 97, 119, 115, 46, 70, 110, 68, 105, 114, 116, 121, 84, 105, 108, 101, 115, 32, 108, 111, 111, 112, 46, 101, 120, 97, 109, 112, 108, 101, 47, 112, 105, 120, 101, 108, 119, 111, 114, 107, 115, 47, 108, 97, 119, 115, 46, 70, 110, 69, 120, 97, 99, 116, 77, 101, 114, 103, 101, 80, 108, 97, 110, 101, 115, 32, 108, 111, 111, 112, 46, 101, 120, 97, 109, 112, 108, 101, 47, 112, 105, 120, 101, 108, 119, 111, 114, 107, 115, 47, 108, 97, 119, 115, 46, 70, 110, 69, 120, 97, 99, 116, 67, 111, 118, 101, 114, 73, 109, 97, 103, 101, 32, 108, 111, 111, 112, 46, 101, 120, 97, 109, 112, 108, 101, 47, 112, 105, 120, 101, 108, 119, 111, 114, 107, 115, 47, 108, 97, 119, 115, 46, 70, 110, 67, 111, 118, 101, 114, 73, 109, 97, 103, 101, 32, 108, 111, 111, 112, 46, 101, 120, 97, 109, 112, 108, 101, 47, 112, 105, 120, 101, 108, 119, 111, 114, 107, 115, 47, 108, 97, 119, 115, 46, 70, 110, 69, 120, 97, 99, 116, 70, 108, 97, 116, 116, 101, 110, 76, 97, 121, 101, 114, 115, 32, 108, 111, 111, 112, 46, 101, 120, 97, 109, 112, 108, 101, 47, 112, 105, 120, 101, 108, 119, 111, 114, 107, 115, 47, 108, 97, 119, 115, 46, 70, 110, 70, 108, 97, 116, 116, 101, 110, 76, 97, 121, 101, 114, 115, 32, 108, 111, 111, 112, 46, 101, 120, 97, 109, 112, 108, 101, 47, 112, 105, 120, 101, 108, 119, 111, 114, 107, 115, 47, 108, 97, 119, 115, 46, 70, 110, 70, 108, 97, 116, 116, 101, 110, 76, 97, 121, 101, 114, 115, 72, 105, 100, 100, 101, 110, 32, 108, 111, 111, 112, 46, 101, 120, 97, 109, 112, 108, 101, 47, 112, 105, 120, 101, 108, 119, 111, 114, 107, 115, 47, 108, 97, 119, 115, 46, 70, 110, 69, 120, 97, 99, 116, 80, 97, 116, 99, 104, 73, 109, 97, 103, 101, 32, 108, 111, 111, 112, 46, 101, 120, 97, 109, 112, 108, 101, 47, 112, 105, 120, 101, 108, 119, 111, 114, 107, 115, 47, 108, 97, 119, 115, 46, 70, 110, 80, 97, 116, 99, 104, 73, 109, 97, 103, 101, 84, 119, 105, 99, 101, 32, 108, 111, 111, 112, 46, 101, 120, 97, 109, 112, 108, 101, 47, 112, 105, 120, 101, 108, 119, 111, 114, 107, 115, 47, 108, 97, 119, 115, 46, 70, 110, 69, 120, 97, 99, 116, 82, 101, 100, 114, 97, 119, 84, 105, 108, 101, 115, 32, 108, 111, 111, 112, 46, 101, 120, 97, 109, 112, 108, 101, 47, 112, 105, 120, 101, 108, 119, 111, 114, 107, 115, 47, 108, 97, 119, 115, 46, 70, 110, 82, 101, 100, 114, 97, 119, 68, 105, 114, 116, 121, 32, 108, 111, 111, 112, 46, 101, 120, 97, 109, 112, 108, 101, 47, 112, 105, 120, 101, 108, 119, 111, 114, 107, 115, 47, 108, 97, 119, 115, 46, 70, 110, 82, 101, 100, 114, 97, 119, 84, 105, 108, 101, 115].map Char.ofNat
theorem signs0 : Try.prog.initOrder = String.ofList (w1 ++ Char.ofNat 32 :: (w2 ++ Char.ofNat 32 :: (w3 ++ Char.ofNat 32 :: w4))) := by kernel_rfl
theorem behind : behindMainWord (wordsSigns Try.prog.initOrder.toList) = w3 :: wordsSigns w4 := by
  rw [signs0, String.toList_ofList, wordsSigns_word w1 _ (by kernel_rfl), wordsSigns_word w2 _ (by kernel_rfl), wordsSigns_word w3 _ (by kernel_rfl)]
  unfold behindMainWord
  dsimp only
  rw [if_pos (by kernel_rfl)]
theorem strip_cut (R : List (List Char)) : stripLifts liftWords (w3 :: R) = ([], w3 :: R) := by kernel_rfl
theorem mayEnter_of (P : Program) (R : List (List Char)) (h : behindMainWord (wordsSigns P.initOrder.toList) = w3 :: R) (h1 : P.laysLater = false) (h2 : P.bearsReflect = false) (h3 : P.doorFits [] = true) : P.mayEnter = true := by
  unfold Program.mayEnter
  rw [h]
  dsimp only
  rw [strip_cut, h1, h2, h3]
  kernel_rfl
theorem liftsFinal_of (P : Program) (R : List (List Char)) (h : behindMainWord (wordsSigns P.initOrder.toList) = w3 :: R) : P.liftsFinal = false := by
  unfold Program.liftsFinal Program.headLifts
  rw [h]
  dsimp only
  rw [strip_cut]
  kernel_rfl
theorem make_of (P : Program) (R : List (List Char)) (h : behindMainWord (wordsSigns P.initOrder.toList) = w3 :: R) : P.make = some .cut := by
  unfold Program.make
  rw [h]
  kernel_rfl
theorem mayEnter : Try.prog.mayEnter = true := mayEnter_of _ _ behind (by kernel_rfl) (by kernel_rfl) (by kernel_rfl)
theorem liftsFinal : Try.prog.liftsFinal = false := liftsFinal_of _ _ behind
theorem make : Try.prog.make = some .cut := make_of _ _ behind
end Go.Proofs.Ytnofkbbcbpjhfaa.Head

-- PRINTED by print.py: the row of the law laws_FnDirtyTiles, out of its Pure (the session's) and the printed walk. Not trusted: Lean checks it.
namespace Go.Proofs.Ytnofkbbcbpjhfaa.fnDirtyTiles
open Go.ChangeShapes Go.WideShapes Go.ChangeAt Go.RowKit
open Go.ChangeMaps (open_string shut_string)
set_option linter.unusedVariables false
theorem own : ownKnob Try.prog.godebug = none := by kernel_rfl
theorem laidOut : laidOutB Try.prog = true := by kernel_rfl
def IsRow (k : IntKind) (w : World) (a : Option Addr) (len cap : Nat) (zs : List Int) : Prop :=
  (a = none ∧ len = 0 ∧ cap = 0 ∧ zs = []) ∨
  ∃ x, a = some x ∧ len ≤ cap ∧ cap ≤ maxLen ∧ zs.length = cap ∧ (∀ i, i < zs.length → w.cell? (x.add i) = some (.int k (zs.getD i 0))) ∧ ∀ n ∈ zs, (Lit.int k n).wf = true
set_option maxRecDepth 100000 in
theorem lifted (os : Os) (started : os.Started) (H : Type) (enc : TypeId × Value → H) :
    ReturnsInHanded {} Try.checked os 8 .any (Rows.fnDirtyTilesSpec.pre6 enc Try.prog Try.f8 Rows.fnDirtyTilesRow.domain false) (Rows.fnDirtyTilesSpec.post enc Try.prog Try.f8 false true false false) := by
  refine returnsInHanded_of_change_sized (C := Try.checked) own started (by kernel_rfl) Try.func8
    (ChangeSpec.witness6 (enc := enc) (C := Try.checked) false ⟨#[], #[.slice none 0 0], []⟩ 8 (by kernel_rfl) (by kernel_rfl) (by kernel_rfl) (by kernel_rfl)) ?_
  intro W base args ds gs before hval0 hW hcnd hsz0 _
  have hsz : (DataW.weightsEach Try.prog (Try.f8.params.toList ++ Rows.fnDirtyTilesSpec.plain.varTypes Try.prog) (ds ++ gs)).all (· ≤ reachBytes) = true := hsz0
  have hval : ∀ (j : Nat) t v, Try.f8.params[j]? = some t → args[j]? = some v → Value.okWide Try.prog W .any base t v := hval0
  have hW' := hW
  obtain ⟨p, q, hA0, hV, rfl, hfz, hnd⟩ := hW
  have hA : DataW.TrodAll enc Try.prog W 0 (fun _ => true) true Try.f8.params.toList args.toList ds p := hA0
  rw [Try.params8] at hA hval hsz
  obtain ⟨v0, vs0, d0, ds0, p0, q0, hargs, rfl, rfl, h0, r0⟩ := trodAll_cons hA
  obtain ⟨rfl, rfl, rfl⟩ := trodAll_nil r0
  obtain rfl : args = #[v0] := by cases args; simp_all
  obtain ⟨rfl, rfl⟩ := trodVars_none hV
  obtain ⟨a0, len0, cap0, rfl⟩ := okWide_slice Try.underlying31 (hval 0 31 v0 rfl rfl)
  have k0 := h0
  have lt0 : ∀ x ∈ p0, x.block < W.heap.size := by obtain ⟨m, hm⟩ := k0; exact DataW.trod_lt m _ _ _ hm
  obtain ⟨z0, w0⟩ : ∃ zs, IsRow .u8 W a0 len0 cap0 zs := by
    obtain ⟨fuel, hf⟩ := h0
    rcases open_ints Try.underlying31 Try.underlying5 (by kernel_rfl) hf with ⟨hcs, _⟩ | ⟨x, l, c, zs, hcs, _, hl, hm, hz, _, hcell, hwz⟩
    · simp [Value.cells] at hcs
      obtain ⟨rfl, rfl, rfl⟩ := hcs
      exact ⟨[], .inl ⟨rfl, rfl, rfl, rfl⟩⟩
    · simp [Value.cells] at hcs
      obtain ⟨rfl, rfl, rfl⟩ := hcs
      exact ⟨zs, .inr ⟨_, rfl, hl, hm, by simpa using hz, hcell, hwz⟩⟩
  have y0 : len0 * 1 ≤ 140737488351232 := Go.Proofs.YtnofkbbcbpjhfaaW.PrintWords.sized_ints hsz (j := 0) (t := 31) rfl rfl Try.underlying31 Try.underlying5 (by kernel_rfl) (by kernel_rfl) h0
  clear hA0 hval0 hsz0 hsz
  refine (Q.laws_FnDirtyTiles.walk Pure.FnDirtyTiles a0 len0 cap0 z0 W w0 y0).mono fun e W' ⟨he, bel⟩ => ?_
  subst he
  exact ⟨_, rfl, _, _, _, [], _, [], hW', trodAll_mk1 (shut_bool Try.underlying4 _), (trodAll_cons_mk (Below.trod laidOut (by kernel_rfl) (of_decide_eq_true (by kernel_rfl)) k0 bel lt0) trodAll_mk0), rfl, bel.frame _, fun h => by cases h⟩
set_option maxHeartbeats 4000000 in
theorem closed : joinedFacts Try.prog 8 Try.f8 Rows.fnDirtyTilesSpec Rows.fnDirtyTilesRow = true := by
  unfold joinedFacts
  rw [Head.mayEnter, Head.liftsFinal, Head.make]
  simp only [Bool.and_eq_true]
  repeat' apply And.intro
  all_goals first | exact True.intro | (as_aux_lemma => kernel_rfl)
theorem over : Rows.fnDirtyTilesRow.holds Try.pinned (OpenSpec.ofChange Rows.fnDirtyTilesSpec) :=
  OpenClaim.holds_of_wide 8 Try.f8 rfl rfl rfl rfl rfl rfl rfl ⟨rfl, rfl, rfl, rfl, rfl⟩ rfl rfl rfl rfl rfl (by kernel_rfl) Try.func8 closed
    (of_decide_eq_true (by kernel_rfl)) (by unfold Func.isWrapper; first | (rw [if_pos (by decide +kernel)]; kernel_rfl) | (rw [if_neg (by decide +kernel)]; exact ⟨rfl, rfl⟩))
    (fun os started H enc _ => lifted os started H enc)
theorem proved : Rows.FnDirtyTilesSaid := over
#print axioms proved
end Go.Proofs.Ytnofkbbcbpjhfaa.fnDirtyTiles
namespace Go.Proofs.Ytnofkbbcbpjhfaa
/-- The row, under a short name, for the claim. -/
theorem fnDirtyTiles_holds : Rows.FnDirtyTilesSaid := fnDirtyTiles.proved
end Go.Proofs.Ytnofkbbcbpjhfaa
