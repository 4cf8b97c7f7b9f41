/- A part of the proof that the statement FnExactDirtyTilesSaid holds, under no condition of its own: The program's DirtyTiles and the reference's return the same, and what is returned is held by nobody else: over lists of numbers alone. -/
import Derived.Test.YtnofkbbcbpjhfaaCFnExactDirtyTiles4
import Derived.Test.YtnofkbbcbpjhfaaCFnExactDirtyTiles1
import Derived.Test.YtnofkbbcbpjhfaaCFnExactDirtyTiles2
import Derived.Test.YtnofkbbcbpjhfaaCFnExactDirtyTiles3
import Derived.Test.YtnofkbbcbpjhfaaRows
import Derived.JoinedOf
import Derived.KernelRfl
import Derived.WalkKit
import Derived.ProofKit
import Derived.OpenShut
import Derived.ShutString
import Derived.ChangeOld
import Derived.Below
import Derived.SizedLaws
import Derived.Carry
/- Copies of an image: they are the image; marks on an image. -/
namespace Go.Proofs.Ytnofkbbcbpjhfaa.Pure
open Go.RowKit Go.Proofs.Ytnofkbbcbpjhfaa.Q Go.Proofs.YtnofkbbcbpjhfaaW.PrintWords Go.Proofs.YtnofkbbcbpjhfaaW.PrintLast Go.Proofs.YtnofkbbcbpjhfaaW.PrintMore
set_option linter.unusedVariables false
set_option linter.unusedSimpArgs false

theorem toIntS_ev (l : List Int) (hl : l.length ≤ 2000000) : Ev (fun k => laws_toIntS.f k l) l := by
  have key := ev_up l.length (fun k i s => laws_toIntS.l0 k l s (i : Int)) (fun i s => s.length = l.length ∧ s.take i = l.take i) (fun i s => l)
    (by
      intro i s hi hs
      refine .inr ⟨s.set i l[i], fun k => ?_, ⟨by simpa using hs.1, ?_⟩, rfl⟩
      · simp only [laws_toIntS.l0]
        rw [if_pos (by omega), if_pos (by omega), rd_nat l i hi, if_pos (by omega), w64n i (by omega), Int.toNat_natCast]
      · rw [take_set s i _ (by omega), hs.2, List.take_succ_eq_append_getElem hi])
    (by
      intro s hs
      refine Ev.step (f := fun _ => some s) (fun k => ?_) (ev_const ?_)
      · simp only [laws_toIntS.l0]
        rw [if_neg (by omega)]
      · rw [← List.take_length (l := s), hs.1, hs.2, List.take_length])
    l.length 0 (List.replicate l.length 0) (by omega) ⟨by simp, by simp⟩
  unfold laws_toIntS.f
  refine Ev.congr (fun k => ?_) key
  rw [if_pos (by omega), if_pos (by omega)]
  simp
theorem eqIntS_ev (l : List Int) (hl : l.length ≤ 1000000000000) : Ev (fun k => laws_eqIntS.f k l l) true := by
  have key := ev_up l.length (fun k i (_ : Unit) => laws_eqIntS.l0 k l l (i : Int)) (fun _ _ => True) (fun _ _ => true)
    (by
      intro i s hi _
      refine .inr ⟨(), fun k => ?_, trivial, rfl⟩
      simp only [laws_eqIntS.l0]
      rw [if_pos (by omega), if_pos (by omega), if_pos (by omega), if_pos trivial, w64n i (by omega)])
    (by
      intro s _
      refine Ev.step (f := fun _ => some true) (fun k => ?_) (Ev.now true)
      simp only [laws_eqIntS.l0]
      rw [if_neg (by omega)])
    l.length 0 () (by omega) trivial
  unfold laws_eqIntS.f
  exact ev_pos rfl (by simpa using key)
theorem szIntS_eq (l : List Int) (n : Int) (h0 : 0 ≤ n) (h1 : n ≤ 1048576) (hl : l.length ≤ 9223372036854775807) :
    (l.length ≤ 1048576 ∧ n - (l.length : Int) ≥ 0 ∧ laws_szIntS.f l n = some (n - (l.length : Int))) ∨ laws_szIntS.f l n = some (-1) := by
  unfold laws_szIntS.f
  by_cases c : (l.length : Int) ≤ n
  · left
    rw [w64 (by omega) (by omega), if_neg (by omega)]
    exact ⟨by omega, by omega, rfl⟩
  · right
    rw [w64 (by omega) (by omega), if_pos (by omega)]
theorem markIntS_ev (l : List Int) (n : Int) (hl : l.length ≤ 1000000000) (h0 : 0 ≤ n) (h1 : n ≤ 1000000000000) : ∃ l' : List Int, l'.length = l.length ∧ Ev (fun k => laws_markIntS.f k l n) (n + (l.length : Int), l') := by
  have key := ev_up l.length (fun k i (s : List Int) => laws_markIntS.l0 k s (n + (i : Int)) (i : Int)) (fun i s => s.length = l.length ∧ s.take i = (List.range i).map (fun j => n + ((j : Nat) : Int))) (fun _ _ => (n + (l.length : Int), (List.range l.length).map (fun j => n + ((j : Nat) : Int))))
    (by
      intro i s hi hs
      refine .inr ⟨s.set i (n + (i : Int)), fun k => ?_, ⟨by simpa using hs.1, by rw [take_set s i _ (by omega), hs.2, List.range_succ, List.map_append]; rfl⟩, rfl⟩
      simp only [laws_markIntS.l0]
      rw [if_pos (by omega), if_pos (by omega), w64n i (by omega), w64 (x := n + (i : Int) + 1) (by omega) (by omega), Int.toNat_natCast, show n + (i : Int) + 1 = n + ((i + 1 : Nat) : Int) by omega])
    (by
      intro s hs
      refine Ev.step (f := fun _ => some (n + (l.length : Int), s)) (fun k => ?_) (ev_const ?_)
      · simp only [laws_markIntS.l0]
        rw [if_neg (by omega)]
      · rw [← hs.2, ← hs.1, List.take_length])
    l.length 0 l (by omega) ⟨rfl, by simp⟩
  refine ⟨(List.range l.length).map (fun j => n + ((j : Nat) : Int)), by simp, ?_⟩
  unfold laws_markIntS.f
  simpa using key
theorem szImage_eq (w h p : Int) (d : List Int) (n : Int) (h0 : 0 ≤ n) (h1 : n ≤ 1048576) (hl : d.length ≤ 9223372036854775807) :
    (d.length ≤ 1048576 ∧ n - (d.length : Int) ≥ 0 ∧ laws_szImage.f w h p d n = some (n - (d.length : Int))) ∨ laws_szImage.f w h p d n = some (-1) := by
  unfold laws_szImage.f
  rcases szIntS_eq d n h0 h1 hl with ⟨a, b, c⟩ | c
  · left
    rw [c]
    simp only [Option.bind_some]
    rw [if_neg (by omega)]
    exact ⟨a, b, rfl⟩
  · right
    rw [c]
    simp only [Option.bind_some]
    rw [if_pos (by omega)]
theorem toImage_ev (w h p : Int) (d : List Int) (hl : d.length ≤ 2000000) : Ev (fun k => laws_toImage.f k w h p d) (w, h, p, d) := by
  unfold laws_toImage.f
  exact ev_bind (toIntS_ev d hl) (Ev.now _)
theorem eqImage_ev (w h p : Int) (d : List Int) (hl : d.length ≤ 1000000000000) : Ev (fun k => laws_eqImage.f k w h p d w h p d) true := by
  unfold laws_eqImage.f
  exact ev_pos rfl (ev_pos rfl (ev_pos rfl (ev_bind (eqIntS_ev d hl) (ev_pos rfl (Ev.now _)))))
theorem markImage_ev (w h p : Int) (d : List Int) (n : Int) (hl : d.length ≤ 1000000000) (h0 : 0 ≤ n) (h1 : n ≤ 1000000000000) : ∃ d' : List Int, d'.length = d.length ∧ Ev (fun k => laws_markImage.f k w h p d n) (n + (d.length : Int), d') := by
  obtain ⟨d', e, hd⟩ := markIntS_ev d n hl h0 h1
  refine ⟨d', e, ?_⟩
  unfold laws_markImage.f
  exact ev_bind hd (Ev.now _)
end Go.Proofs.Ytnofkbbcbpjhfaa.Pure

/- Layers: valid ones, as the program and the reference have it; copies of a layer. -/
namespace Go.Proofs.Ytnofkbbcbpjhfaa.Pure
open Go.RowKit Go.Proofs.Ytnofkbbcbpjhfaa.Q Go.Proofs.YtnofkbbcbpjhfaaW.PrintWords Go.Proofs.YtnofkbbcbpjhfaaW.PrintLast Go.Proofs.YtnofkbbcbpjhfaaW.PrintMore
set_option linter.unusedVariables false
set_option linter.unusedSimpArgs false

def layerV (w h p : Int) (d : List Int) (x y m a : Int) (pl : Int) : Bool := validI w h p d && decide (p = pl ∧ -16 ≤ x ∧ x ≤ 16 ∧ -16 ≤ y ∧ y ≤ 16 ∧ 0 ≤ m ∧ m ≤ 4 ∧ 0 ≤ a ∧ a ≤ 255)
theorem impl_isModeI_eq (m : Int) : impl_isMode.f m = some (decide (0 ≤ m ∧ m ≤ 4)) := by
  unfold impl_isMode.f
  by_cases c : m ≥ 0
  · rw [if_pos c]; congr 1; rw [decide_eq_decide]; omega
  · rw [if_neg c, decide_eq_false (by omega)]
theorem impl_isLayer_eq (w h p : Int) (d : List Int) (x y m a : Int) (b : Bool) (pl : Int) : impl_isLayer.f w h p d x y m a b pl = some (layerV w h p d x y m a pl) := by
  unfold impl_isLayer.f layerV
  rw [impl_isImage_eq, impl_isModeI_eq]
  simp only [Option.bind_some]
  by_cases c : validI w h p d = true
  · rw [if_pos c, c, Bool.true_and]
    by_cases c1 : p = pl
    · rw [if_pos c1]
      by_cases c2 : x ≥ -16
      · rw [if_pos c2]
        by_cases c3 : x ≤ 16
        · rw [if_pos c3]
          by_cases c4 : y ≥ -16
          · rw [if_pos c4]
            by_cases c5 : y ≤ 16
            · rw [if_pos c5]
              by_cases c6 : 0 ≤ m ∧ m ≤ 4
              · rw [if_pos (by simpa using c6)]
                by_cases c7 : a ≥ 0
                · rw [if_pos c7]; congr 1; rw [decide_eq_decide]; omega
                · rw [if_neg c7, decide_eq_false (by omega)]
              · rw [if_neg (by simpa using c6), decide_eq_false (by omega)]
            · rw [if_neg c5, decide_eq_false (by omega)]
          · rw [if_neg c4, decide_eq_false (by omega)]
        · rw [if_neg c3, decide_eq_false (by omega)]
      · rw [if_neg c2, decide_eq_false (by omega)]
    · rw [if_neg c1, decide_eq_false (by omega)]
  · rw [if_neg c, Bool.eq_false_iff.2 c, Bool.false_and]
theorem spec_validLayer_ev (w h p : Int) (d : List Int) (x y m a : Int) (b : Bool) (pl : Int) (hl : d.length ≤ 1000000000000) : Ev (fun k => spec_validLayer.f k w h p d x y m a b pl) (layerV w h p d x y m a pl) := by
  unfold spec_validLayer.f layerV
  refine ev_bind (spec_validImage_ev w h p d hl) ?_
  by_cases c : validI w h p d = true
  · refine ev_pos c ?_
    rw [c, Bool.true_and]
    refine ev_const ?_
    rw [spec_inRangeI_eq, spec_inRangeI_eq, spec_inRangeI_eq, spec_inRangeI_eq]
    simp only [Option.bind_some]
    by_cases c1 : p = pl
    · rw [if_pos c1]
      by_cases c2 : -16 ≤ x ∧ x ≤ 16
      · rw [if_pos (by simpa using c2)]
        by_cases c3 : -16 ≤ y ∧ y ≤ 16
        · rw [if_pos (by simpa using c3)]
          by_cases c4 : 0 ≤ m ∧ m ≤ 4
          · rw [if_pos (by simpa using c4)]; congr 1; rw [Bool.eq_iff_iff]; simp; omega
          · rw [if_neg (by simpa using c4), decide_eq_false (by omega)]
        · rw [if_neg (by simpa using c3), decide_eq_false (by omega)]
      · rw [if_neg (by simpa using c2), decide_eq_false (by omega)]
    · rw [if_neg c1, decide_eq_false (by omega)]
  · refine ev_neg c ?_
    rw [Bool.eq_false_iff.2 c, Bool.false_and]
    exact Ev.now _
theorem szLayer_eq (w h p : Int) (d : List Int) (x y m a : Int) (b : Bool) (n : Int) (h0 : 0 ≤ n) (h1 : n ≤ 1048576) (hl : d.length ≤ 9223372036854775807) :
    (d.length ≤ 1048576 ∧ n - (d.length : Int) ≥ 0 ∧ laws_szLayer.f w h p d x y m a b n = some (n - (d.length : Int))) ∨ laws_szLayer.f w h p d x y m a b n = some (-1) := by
  unfold laws_szLayer.f
  rcases szImage_eq w h p d n h0 h1 hl with ⟨e1, e2, e3⟩ | e
  · left
    rw [e3]
    simp only [Option.bind_some]
    rw [if_neg (by omega)]
    exact ⟨e1, e2, rfl⟩
  · right
    rw [e]
    simp only [Option.bind_some]
    rw [if_pos (by omega)]
theorem toLayer_ev (w h p : Int) (d : List Int) (x y m a : Int) (b : Bool) (hl : d.length ≤ 2000000) : Ev (fun k => laws_toLayer.f k w h p d x y m a b) (w, h, p, d, x, y, m, a, b) := by
  unfold laws_toLayer.f
  exact ev_bind (toImage_ev w h p d hl) (Ev.now _)
theorem eqLayer_ev (w h p : Int) (d : List Int) (x y m a : Int) (b : Bool) (hl : d.length ≤ 1000000000000) : Ev (fun k => laws_eqLayer.f k w h p d x y m a b w h p d x y m a b) true := by
  unfold laws_eqLayer.f
  exact ev_bind (eqImage_ev w h p d hl) (ev_pos rfl (ev_pos rfl (ev_pos rfl (ev_pos rfl (ev_pos rfl (ev_neg (by simp) (Ev.now _)))))))
theorem markLayer_ev (w h p : Int) (d : List Int) (x y m a : Int) (b : Bool) (n : Int) (hl : d.length ≤ 1000000000) (h0 : 0 ≤ n) (h1 : n ≤ 1000000000000) : ∃ d' : List Int, d'.length = d.length ∧ Ev (fun k => laws_markLayer.f k w h p d x y m a b n) (n + (d.length : Int), d') := by
  obtain ⟨d', e, hd⟩ := markImage_ev w h p d n hl h0 h1
  refine ⟨d', e, ?_⟩
  unfold laws_markLayer.f
  exact ev_bind hd (Ev.now _)
end Go.Proofs.Ytnofkbbcbpjhfaa.Pure

/- DirtyTiles, as the program and the reference have it. -/
namespace Go.Proofs.Ytnofkbbcbpjhfaa.Pure
open Go.RowKit Go.Proofs.Ytnofkbbcbpjhfaa.Q Go.Proofs.YtnofkbbcbpjhfaaW.PrintWords Go.Proofs.YtnofkbbcbpjhfaaW.PrintLast Go.Proofs.YtnofkbbcbpjhfaaW.PrintMore
set_option linter.unusedVariables false
set_option linter.unusedSimpArgs false

def touchB (w h x y : Int) (b : Box) : Bool := decide (x < wrap64 (b.f0 + b.f2)) && (decide (b.f0 < wrap64 (x + w)) && (decide (y < wrap64 (b.f1 + b.f3)) && decide (b.f1 < wrap64 (y + h))))
def dirtyN (W H : Nat) (w h x y : Int) (n : Nat) : List Int := ((List.range n).filter fun t => touchB w h x y (tileN W H t)).map fun (t : Nat) => (t : Int)
theorem dirtyN_len (W H : Nat) (w h x y : Int) (n : Nat) : (dirtyN W H w h x y n).length ≤ n := by
  unfold dirtyN
  rw [List.length_map]
  have := List.length_filter_le (fun t => touchB w h x y (tileN W H t)) (List.range n)
  simpa using this
theorem dirtyN_succ (W H : Nat) (w h x y : Int) (n : Nat) : dirtyN W H w h x y (n + 1) = if touchB w h x y (tileN W H n) = true then dirtyN W H w h x y n ++ [(n : Int)] else dirtyN W H w h x y n := by
  unfold dirtyN
  rw [List.range_succ, List.filter_append, List.map_append]
  by_cases c : touchB w h x y (tileN W H n) = true
  · rw [if_pos c]; simp [c]
  · rw [if_neg c]; simp [c]
def dirtyV (w h p : Int) (d : List Int) (lw lh lp : Int) (ld : List Int) (x y m a : Int) : List Int :=
  if validI w h p d = true ∧ layerV lw lh lp ld x y m a p = true then dirtyN w.toNat h.toNat lw lh x y (colsOf w.toNat * colsOf h.toNat) else []
theorem dirtyV_len (w h p : Int) (d : List Int) (lw lh lp : Int) (ld : List Int) (x y m a : Int) : (dirtyV w h p d lw lh lp ld x y m a).length ≤ 16 := by
  unfold dirtyV
  split
  · rename_i c
    have hv := (validI_iff w h p d).1 c.1
    have h1 := tiles_count w.toNat h.toNat (by omega) (by omega) (by omega) (by omega)
    have h2 := dirtyN_len w.toNat h.toNat lw lh x y (colsOf w.toNat * colsOf h.toNat)
    omega
  · simp
theorem spec_touching_eq (w h p : Int) (d : List Int) (x y m a : Int) (b : Bool) (t : Box) : spec_touching.f w h p d x y m a b t.f0 t.f1 t.f2 t.f3 = some (touchB w h x y t) := by
  unfold spec_touching.f touchB
  by_cases c1 : x < wrap64 (t.f0 + t.f2)
  · rw [if_pos c1, decide_eq_true c1]
    by_cases c2 : t.f0 < wrap64 (x + w)
    · rw [if_pos c2, decide_eq_true c2]
      by_cases c3 : y < wrap64 (t.f1 + t.f3)
      · rw [if_pos c3, decide_eq_true c3]; rfl
      · rw [if_neg c3, decide_eq_false c3]; rfl
    · rw [if_neg c2, decide_eq_false c2]; rfl
  · rw [if_neg c1, decide_eq_false c1]; rfl
theorem spec_DirtyTiles_ev (w h p : Int) (d : List Int) (lw lh lp : Int) (ld : List Int) (x y m a : Int) (b : Bool) (hl : d.length ≤ 1000000000000) (hl' : ld.length ≤ 1000000000000) :
    Ev (fun k => spec_DirtyTiles.f k w h p d lw lh lp ld x y m a b) (dirtyV w h p d lw lh lp ld x y m a) := by
  have hn : Ev (fun k => spec_DirtyTiles.j0 k [] true w h p d lw lh lp ld x y m a b) [] := by
    refine Ev.step (f := fun _ => some []) (fun k => ?_) (Ev.now _)
    simp only [spec_DirtyTiles.j0]
    rw [if_pos trivial]
  unfold spec_DirtyTiles.f dirtyV
  refine ev_now rfl (ev_bind (spec_validImage_ev w h p d hl) ?_)
  by_cases c : validI w h p d = true
  · refine ev_pos c (ev_bind (spec_validLayer_ev lw lh lp ld x y m a b p hl') ?_)
    by_cases c' : layerV lw lh lp ld x y m a p = true
    · rw [if_pos ⟨c, c'⟩, c']
      have hv := (validI_iff w h p d).1 c
      obtain ⟨W, rfl⟩ := Int.eq_ofNat_of_zero_le (show 0 ≤ w by omega)
      obtain ⟨H, rfl⟩ := Int.eq_ofNat_of_zero_le (show 0 ≤ h by omega)
      have h1 : 1 ≤ W := by omega
      have h2 : W ≤ 16 := by omega
      have h3 : 1 ≤ H := by omega
      have h4 : H ≤ 16 := by omega
      have hn := tiles_count W H h1 h2 h3 h4
      have key := ev_up (colsOf W * colsOf H) (fun k t (s : List Int) => spec_DirtyTiles.l0 k s (t : Int) W H p d lw lh lp ld x y m a b) (fun t s => s = dirtyN W H lw lh x y t) (fun _ _ => dirtyN W H lw lh x y (colsOf W * colsOf H))
        (by
          intro t s ht hs
          right
          refine ⟨dirtyN W H lw lh x y (t + 1), fun k => ?_, rfl, rfl⟩
          have hlen : s.length ≤ t := by rw [hs]; exact dirtyN_len W H lw lh x y t
          simp only [spec_DirtyTiles.l0]
          rw [spec_tileCount_eq W H p d h1 h2 h3 h4]
          simp only [Option.bind_some]
          rw [if_pos (by omega), spec_tileBox_eq W H p d t h1 h2 h3 h4 (by omega)]
          simp only [Option.bind_some]
          rw [spec_touching_eq, w64n t (by omega), dirtyN_succ]
          simp only [Option.bind_some]
          by_cases ct : touchB lw lh x y (tileN W H t) = true
          · rw [if_pos ct, if_pos ct, if_pos (by omega), hs]
          · rw [if_neg ct, if_neg ct, hs])
        (by
          intro s hs
          refine Ev.step (f := fun _ => some s) (fun k => ?_) (ev_const (by rw [hs]))
          simp only [spec_DirtyTiles.l0]
          rw [spec_tileCount_eq W H p d h1 h2 h3 h4]
          simp only [Option.bind_some]
          rw [if_neg (by omega)])
        (colsOf W * colsOf H) 0 [] (by omega) (by simp [dirtyN])
      refine Ev.step (fun k => ?_) key
      simp only [spec_DirtyTiles.j0]
      rw [if_neg (by simp)]
      rfl
    · rw [if_neg (fun e => c' e.2), Bool.eq_false_iff.2 c']
      exact hn
  · rw [if_neg (fun e => c e.1)]
    exact ev_neg c hn
theorem impl_DirtyTiles_ev (w h p : Int) (d : List Int) (lw lh lp : Int) (ld : List Int) (x y m a : Int) (b : Bool) :
    Ev (fun k => impl_DirtyTiles.f k w h p d lw lh lp ld x y m a b) (dirtyV w h p d lw lh lp ld x y m a) := by
  have hn : Ev (fun k => impl_DirtyTiles.j0 k true w h p d lw lh lp ld x y m a b) [] := by
    refine Ev.step (f := fun _ => some []) (fun k => ?_) (Ev.now _)
    simp only [impl_DirtyTiles.j0]
    rw [if_pos trivial]
  unfold impl_DirtyTiles.f dirtyV
  refine ev_now (impl_isImage_eq w h p d) ?_
  by_cases c : validI w h p d = true
  · refine ev_pos c (ev_now (impl_isLayer_eq lw lh lp ld x y m a b p) ?_)
    by_cases c' : layerV lw lh lp ld x y m a p = true
    · rw [if_pos ⟨c, c'⟩, c']
      have hv := (validI_iff w h p d).1 c
      obtain ⟨W, rfl⟩ := Int.eq_ofNat_of_zero_le (show 0 ≤ w by omega)
      obtain ⟨H, rfl⟩ := Int.eq_ofNat_of_zero_le (show 0 ≤ h by omega)
      have h1 : 1 ≤ W := by omega
      have h2 : W ≤ 16 := by omega
      have h3 : 1 ≤ H := by omega
      have h4 : H ≤ 16 := by omega
      have hn := tiles_count W H h1 h2 h3 h4
      have hT : (tilesV W H).length = colsOf W * colsOf H := tilesN_length W H _
      have hget : ∀ t, t < colsOf W * colsOf H → rd_T47 (tilesV W H) (t : Int) = tileN W H t := by
        intro t ht
        rw [rdBox (tilesV W H) t (by omega)]
        simp [tilesV, tilesN]
      have key := ev_up2 (colsOf W * colsOf H) (fun k t (s : List Int) => impl_DirtyTiles.l0 k s (tilesV W H) ((tilesV W H).length : Int) (t : Int) x y lw lh) (fun t s => s = dirtyN W H lw lh x y t) (fun _ _ => dirtyN W H lw lh x y (colsOf W * colsOf H))
        (by
          intro t s ht hs
          right
          refine ⟨dirtyN W H lw lh x y (t + 1), fun r hr => ?_, rfl, rfl⟩
          have hlen : s.length ≤ t := by rw [hs]; exact dirtyN_len W H lw lh x y t
          rw [dirtyN_succ, ← hs] at hr
          have hj : ∀ c : Bool, c = touchB lw lh x y (tileN W H t) → Ev (fun k => impl_DirtyTiles.j2 k s (t : Int) (tilesV W H) ((tilesV W H).length : Int) (t : Int) c x y lw lh) r := by
            intro c hc
            rw [← hc] at hr
            refine Ev.step (fun k => ?_) hr
            simp only [impl_DirtyTiles.j2]
            rw [w64n t (by omega)]
            cases c with
            | true => rw [if_pos rfl, if_pos rfl, if_pos (by omega)]
            | false => rw [if_neg (by simp), if_neg (by simp)]
          by_cases c1 : x < wrap64 ((tileN W H t).f0 + (tileN W H t).f2)
          · by_cases c2 : (tileN W H t).f0 < wrap64 (x + lw)
            · by_cases c3 : y < wrap64 ((tileN W H t).f1 + (tileN W H t).f3)
              · refine Ev.step (fun k => ?_) (hj (decide ((tileN W H t).f1 < wrap64 (y + lh))) (by unfold touchB; rw [decide_eq_true c1, decide_eq_true c2, decide_eq_true c3]; rfl))
                simp only [impl_DirtyTiles.l0]
                rw [if_pos (by omega), if_pos (by omega), if_pos (by omega), hget t ht, if_pos c1, if_pos c2, if_pos c3]
              · refine Ev.step (fun k => ?_) (hj false (by unfold touchB; rw [decide_eq_false c3, Bool.false_and, Bool.and_false, Bool.and_false]))
                simp only [impl_DirtyTiles.l0]
                rw [if_pos (by omega), if_pos (by omega), if_pos (by omega), hget t ht, if_pos c1, if_pos c2, if_neg c3]
            · refine Ev.step (fun k => ?_) (hj false (by unfold touchB; rw [decide_eq_false c2, Bool.false_and, Bool.and_false]))
              simp only [impl_DirtyTiles.l0]
              rw [if_pos (by omega), if_pos (by omega), if_pos (by omega), hget t ht, if_pos c1, if_neg c2]
          · refine Ev.step (fun k => ?_) (hj false (by unfold touchB; rw [decide_eq_false c1, Bool.false_and]))
            simp only [impl_DirtyTiles.l0]
            rw [if_pos (by omega), if_pos (by omega), if_pos (by omega), hget t ht, if_neg c1])
        (by
          intro s hs
          refine Ev.step (f := fun _ => some s) (fun k => ?_) (ev_const (by rw [hs]))
          simp only [impl_DirtyTiles.l0]
          rw [if_neg (by omega)])
        (colsOf W * colsOf H) 0 [] (by omega) (by simp [dirtyN])
      refine Ev.step (f := fun k => (impl_Layer_box.f lw lh lp ld x y m a b).bind fun bt => (impl_tileBoxes.f k W H p d).bind fun t => impl_DirtyTiles.l0 k [] t (t.length : Int) 0 bt.1 bt.2.1 bt.2.2.1 bt.2.2.2) (fun k => ?_) ?_
      · simp only [impl_DirtyTiles.j0]
        rw [if_neg (by simp)]
      · exact ev_now (a := (x, y, lw, lh)) rfl (ev_bind (impl_tileBoxes_ev W H p d h1 h2 h3 h4) key)
    · rw [if_neg (fun e => c' e.2), Bool.eq_false_iff.2 c']
      exact hn
  · rw [if_neg (fun e => c e.1)]
    exact ev_neg c hn
end Go.Proofs.Ytnofkbbcbpjhfaa.Pure

/- Marks on numbers: what is written into a list, and read again. -/
namespace Go.Proofs.Ytnofkbbcbpjhfaa.Pure
open Go.RowKit Go.Proofs.Ytnofkbbcbpjhfaa.Q Go.Proofs.YtnofkbbcbpjhfaaW.PrintWords Go.Proofs.YtnofkbbcbpjhfaaW.PrintLast Go.Proofs.YtnofkbbcbpjhfaaW.PrintMore
set_option linter.unusedVariables false
set_option linter.unusedSimpArgs false

def markedI (m : Nat) (n : Int) : List Int := (List.range m).map (fun j => n + ((j : Nat) : Int))
theorem markedI_length (m : Nat) (n : Int) : (markedI m n).length = m := by simp [markedI]
theorem markIntS_is (l : List Int) (n : Int) (hl : l.length ≤ 1000000000) (h0 : 0 ≤ n) (h1 : n ≤ 1000000000000) : Ev (fun k => laws_markIntS.f k l n) (n + (l.length : Int), markedI l.length n) := by
  have key := ev_up l.length (fun k i (s : List Int) => laws_markIntS.l0 k s (n + (i : Int)) (i : Int)) (fun i s => s.length = l.length ∧ s.take i = markedI i n) (fun _ _ => (n + (l.length : Int), markedI l.length n))
    (by
      intro i s hi hs
      refine .inr ⟨s.set i (n + (i : Int)), fun k => ?_, ⟨by simpa using hs.1, by rw [take_set s i _ (by omega), hs.2]; unfold markedI; rw [List.range_succ, List.map_append]; rfl⟩, rfl⟩
      simp only [laws_markIntS.l0]
      rw [if_pos (by omega), if_pos (by omega), w64n i (by omega), w64 (x := n + (i : Int) + 1) (by omega) (by omega), Int.toNat_natCast, show n + (i : Int) + 1 = n + ((i + 1 : Nat) : Int) by omega])
    (by
      intro s hs
      refine Ev.step (f := fun _ => some (n + (l.length : Int), s)) (fun k => ?_) (ev_const ?_)
      · simp only [laws_markIntS.l0]
        rw [if_neg (by omega)]
      · rw [← hs.2, ← hs.1, List.take_length])
    l.length 0 l (by omega) ⟨rfl, by simp [markedI]⟩
  unfold laws_markIntS.f
  simpa using key
theorem heldIntS_ev (m : Nat) (n : Int) (hl : m ≤ 1000000000) (h0 : 0 ≤ n) (h1 : n ≤ 1000000000000) : Ev (fun k => laws_heldIntS.f k (markedI m n) n) (n + (m : Int)) := by
  have key := ev_up m (fun k i (_ : Unit) => laws_heldIntS.l0 k (markedI m n) (n + (i : Int)) (i : Int)) (fun _ _ => True) (fun _ _ => n + (m : Int))
    (by
      intro i s hi _
      right
      refine ⟨(), fun k => ?_, trivial, rfl⟩
      simp only [laws_heldIntS.l0]
      have hr : rd (markedI m n) (i : Int) = n + (i : Int) := by
        rw [rd_nat _ i (by rw [markedI_length]; omega)]
        simp [markedI]
      rw [if_pos (by rw [markedI_length]; omega), if_pos (by omega), hr, w64n i (by omega), w64 (x := n + (i : Int) + 1) (by omega) (by omega)]
      have e : n + (i : Int) + 1 = n + ((i + 1 : Nat) : Int) := by omega
      rw [e]
      simp)
    (by
      intro s _
      refine Ev.step (f := fun _ => some (n + (m : Int))) (fun k => ?_) (ev_const rfl)
      simp only [laws_heldIntS.l0]
      rw [if_neg (by rw [markedI_length]; omega)])
    m 0 () (by omega) trivial
  unfold laws_heldIntS.f
  simpa using key
end Go.Proofs.Ytnofkbbcbpjhfaa.Pure

/- The program's DirtyTiles and the reference's return the same, and what is returned is held by nobody else: over lists of numbers alone. -/
namespace Go.Proofs.Ytnofkbbcbpjhfaa.Pure
open Go.RowKit Go.Proofs.Ytnofkbbcbpjhfaa.Q Go.Proofs.YtnofkbbcbpjhfaaW.PrintWords Go.Proofs.YtnofkbbcbpjhfaaW.PrintLast Go.Proofs.YtnofkbbcbpjhfaaW.PrintMore
set_option linter.unusedVariables false
set_option linter.unusedSimpArgs false

theorem FnExactDirtyTiles : laws_FnExactDirtyTiles.Pure := by
  intro w h p d lw lh lp ld x y m a b
  intros
  rename_i hl _ _ _ _ hl' _ _ _ _
  apply Ev.rounds
  unfold laws_FnExactDirtyTiles.f
  rcases szImage_eq w h p d 1048576 (by omega) (by omega) (by first | exact hl | omega) with ⟨hn, h0, hs⟩ | hs
  · rcases szLayer_eq lw lh lp ld x y m a b (1048576 - (d.length : Int)) (by omega) (by omega) (by first | exact hl' | omega) with ⟨hn', h0', hs'⟩ | hs'
    · have hc := toImage_ev w h p d (by omega)
      have hc' := toLayer_ev lw lh lp ld x y m a b (by omega)
      have hS := spec_DirtyTiles_ev w h p d lw lh lp ld x y m a b (by omega) (by omega)
      have hI := impl_DirtyTiles_ev w h p d lw lh lp ld x y m a b
      have hlen := dirtyV_len w h p d lw lh lp ld x y m a
      generalize dirtyV w h p d lw lh lp ld x y m a = V at hS hI hlen
      have heq := eqIntS_ev V (by omega)
      have hex := eqImage_ev w h p d (by omega)
      have hey := eqLayer_ev lw lh lp ld x y m a b (by omega)
      obtain ⟨d', hd', hmx⟩ := markImage_ev w h p d 1 (by omega) (by omega) (by omega)
      obtain ⟨d2, hd2, hmy⟩ := markLayer_ev lw lh lp ld x y m a b (1 + (d.length : Int)) (by omega) (by omega) (by omega)
      have hm := markIntS_is V 1 (by omega) (by omega) (by omega)
      have hh := heldIntS_ev V.length 1 (by omega) (by omega) (by omega)
      refine ev_now hs (ev_neg (by omega) (ev_now hs' (ev_neg (by omega) (ev_bind hc (ev_bind hc' (ev_bind hS (ev_bind hc (ev_bind hc' (ev_bind hI (ev_bind heq (ev_pos rfl (ev_bind hc (ev_bind hex (ev_pos rfl (ev_bind hc' (ev_bind hey (ev_pos rfl (ev_bind hmx (ev_bind hmy (ev_neg (by show ¬ (1 + (d.length : Int) + (ld.length : Int) < 0); omega) (ev_bind heq ?_)))))))))))))))))))))
      refine Ev.step (fun k => by simp only [laws_FnExactDirtyTiles.j0]; rfl) ?_
      exact ev_neg (by simp) (ev_bind hm (ev_bind hh (ev_neg (by omega) (ev_pos rfl (ev_bind hc (ev_bind hc' (ev_bind hI (ev_bind heq (ev_pos rfl (ev_bind hh (ev_neg (by omega) (ev_pos rfl (Ev.now true)))))))))))))
    · exact ev_now hs (ev_neg (by omega) (ev_now hs' (ev_pos (by omega) (Ev.now true))))
  · exact ev_now hs (ev_pos (by omega) (Ev.now true))
end Go.Proofs.Ytnofkbbcbpjhfaa.Pure

/- The head of the translation reads as a plain cut. -/
namespace Go.Proofs.Ytnofkbbcbpjhfaa.Head
set_option maxRecDepth 100000
theorem wordsSigns_word (w r : List Char) (h : w.all (fun c => !(c == Char.ofNat 32)) = true) : wordsSigns (w ++ Char.ofNat 32 :: r) = w :: wordsSigns r := by
  induction w with
  | nil => rfl
  | cons c w ih =>
    simp only [List.all_cons, Bool.and_eq_true, Bool.not_eq_true', beq_eq_false_iff_ne, ne_eq] at h
    have h1 := ih (by simpa using h.2)
    rw [List.cons_append, wordsSigns.eq_3 c _ h.1, h1]
def w1 : List Char := [104, 97, 114, 110, 101, 115, 115].map Char.ofNat
def w2 : List Char := [98, 98, 56, 56, 48, 50, 51, 48, 99, 56, 98, 97, 54, 51, 51, 51, 48, 101, 54, 53, 56, 97, 98, 51, 97, 51, 99, 100, 54, 102, 98, 98, 55, 101, 51, 50, 99, 48, 56, 52, 55, 54, 49, 49, 100, 50, 51, 56, 55, 100, 54, 48, 49, 99, 100, 97, 51, 102, 50, 98, 48, 57, 53, 101].map Char.ofNat
def w3 : List Char := [99, 117, 116].map Char.ofNat
def w4 : List Char := [97, 116, 32, 108, 111, 111, 112, 46, 101, 120, 97, 109, 112, 108, 101, 47, 112, 105, 120, 101, 108, 119, 111, 114, 107, 115, 47, 108, 97, 119, 115, 46, 70, 110, 69, 120, 97, 99, 116, 71, 97, 112, 79, 102, 32, 108, 111, 111, 112, 46, 101, 120, 97, 109, 112, 108, 101, 47, 112, 105, 120, 101, 108, 119, 111, 114, 107, 115, 47, 108, 97, 119, 115, 46, 70, 110, 71, 97, 112, 79, 102, 32, 108, 111, 111, 112, 46, 101, 120, 97, 109, 112, 108, 101, 47, 112, 105, 120, 101, 108, 119, 111, 114, 107, 115, 47, 108, 97, 119, 115, 46, 70, 110, 69, 120, 97, 99, 116, 84, 105, 108, 101, 66, 111, 120, 101, 115, 32, 108, 111, 111, 112, 46, 101, 120, 97, 109, 112, 108, 101, 47, 112, 105, 120, 101, 108, 119, 111, 114, 107, 115, 47, 108, 97, 119, 115, 46, 70, 110, 84, 105, 108, 101, 66, 111, 120, 101, 115, 32, 108, 111, 111, 112, 46, 101, 120, 97, 109, 112, 108, 101, 47, 112, 105, 120, 101, 108, 119, 111, 114, 107, 115, 47, 108, 97, 119, 115, 46, 70, 110, 69, 120, 97, 99, 116, 68, 105, 114, 116, 121, 84, 105, 108, 101, 115, 32, 108, 111, 111, 112, 46, 101, 120, 97, 109, 112, 108, 101, 47, 112, 105, 120, 101, 108, 119, 111, 114, 107, 115, 47, 108, 97, 119, 115, 46, 70, 110, 68, 105, 114, 116, 121, 84, 105, 108, 101, 115, 32, 108, 111, 111, 112, 46, 101, 120, 97, 109, 112, 108, 101, 47, 112, 105, 120, 101, 108, 119, 111, 114, 107, 115, 47, 108, 97, 119, 115, 46, 70, 110, 69, 120, 97, 99, 116, 77, 101, 114, 103, 101, 80, 108, 97, 110, 101, 115, 32, 108, 111, 111, 112, 46, 101, 120, 97, 109, 112, 108, 101, 47, 112, 105, 120, 101, 108, 119, 111, 114, 107, 115, 47, 108, 97, 119, 115, 46, 70, 110, 69, 120, 97, 99, 116, 67, 111, 118, 101, 114, 73, 109, 97, 103, 101, 32, 108, 111, 111, 112, 46, 101, 120, 97, 109, 112, 108, 101, 47, 112, 105, 120, 101, 108, 119, 111, 114, 107, 115, 47, 108, 97, 119, 115, 46, 70, 110, 67, 111, 118, 101, 114, 73, 109, 97, 103, 101, 32, 108, 111, 111, 112, 46, 101, 120, 97, 109, 112, 108, 101, 47, 112, 105, 120, 101, 108, 119, 111, 114, 107, 115, 47, 108, 97, 119, 115, 46, 70, 110, 69, 120, 97, 99, 116, 70, 108, 97, 116, 116, 101, 110, 76, 97, 121, 101, 114, 115, 32, 108, 111, 111, 112, 46, 101, 120, 97, 109, 112, 108, 101, 47, 112, 105, 120, 101, 108, 119, 111, 114, 107, 115, 47, 108, 97, 119, 115, 46, 70, 110, 70, 108, 97, 116, 116, 101, 110, 76, 97, 121, 101, 114, 115, 32, 108, 111, 111, 112, 46, 101, 120, 97, 109, 112, 108, 101, 47, 112, 105, 120, 101, 108, 119, 111, 114, 107, 115, 47, 108, 97, 119, 115, 46, 70, 110, 70, 108, 97, 116, 116, 101, 110, 76, 97, 121, 101, 114, 115, 72, 105, 100, 100, 101, 110, 32, 108, 111, 111, 112, 46, 101, 120, 97, 109, 112, 108, 101, 47, 112, 105, 120, 101, 108, 119, 111, 114, 107, 115, 47, 108, 97, 119, 115, 46, 70, 110, 69, 120, 97, 99, 116, 80, 97, 116, 99, 104, 73, 109, 97, 103, 101, 32, 108, 111, 111, 112, 46, 101, 120, 97, 109, 112, 108, 101, 47, 112, 105, 120, 101, 108, 119, 111, 114, 107, 115, 47, 108, 97, 119, 115, 46, 70, 110, 80, 97, 116, 99, 104, 73, 109, 97, 103, 101, 84, 119, 105, 99, 101, 32, 108, 111, 111, 112, 46, 101, 120, 97, 109, 112, 108, 101, 47, 112, 105, 120, 101, 108, 119, 111, 114, 107, 115, 47, 108, 97, 119, 115, 46, 70, 110, 69, 120, 97, 99, 116, 82, 101, 100, 114, 97, 119, 84, 105, 108, 101, 115, 32, 108, 111, 111, 112, 46, 101, 120, 97, 109, 112, 108, 101, 47, 112, 105, 120, 101, 108, 119, 111, 114, 107, 115, 47, 108, 97, 119, 115, 46, 70, 110, 82, 101, 100, 114, 97, 119, 68, 105, 114, 116, 121, 32, 108, 111, 111, 112, 46, 101, 120, 97, 109, 112, 108, 101, 47, 112, 105, 120, 101, 108, 119, 111, 114, 107, 115, 47, 108, 97, 119, 115, 46, 70, 110, 82, 101, 100, 114, 97, 119, 84, 105, 108, 101, 115].map Char.ofNat
theorem signs0 : Try.prog.initOrder = String.ofList (w1 ++ Char.ofNat 32 :: (w2 ++ Char.ofNat 32 :: (w3 ++ Char.ofNat 32 :: w4))) := by kernel_rfl
theorem behind : behindMainWord (wordsSigns Try.prog.initOrder.toList) = w3 :: wordsSigns w4 := by
  rw [signs0, String.toList_ofList, wordsSigns_word w1 _ (by kernel_rfl), wordsSigns_word w2 _ (by kernel_rfl), wordsSigns_word w3 _ (by kernel_rfl)]
  unfold behindMainWord
  dsimp only
  rw [if_pos (by kernel_rfl)]
theorem strip_cut (R : List (List Char)) : stripLifts liftWords (w3 :: R) = ([], w3 :: R) := by kernel_rfl
theorem mayEnter_of (P : Program) (R : List (List Char)) (h : behindMainWord (wordsSigns P.initOrder.toList) = w3 :: R) (h1 : P.laysLater = false) (h2 : P.bearsReflect = false) (h3 : P.doorFits [] = true) : P.mayEnter = true := by
  unfold Program.mayEnter
  rw [h]
  dsimp only
  rw [strip_cut, h1, h2, h3]
  kernel_rfl
theorem liftsFinal_of (P : Program) (R : List (List Char)) (h : behindMainWord (wordsSigns P.initOrder.toList) = w3 :: R) : P.liftsFinal = false := by
  unfold Program.liftsFinal Program.headLifts
  rw [h]
  dsimp only
  rw [strip_cut]
  kernel_rfl
theorem make_of (P : Program) (R : List (List Char)) (h : behindMainWord (wordsSigns P.initOrder.toList) = w3 :: R) : P.make = some .cut := by
  unfold Program.make
  rw [h]
  kernel_rfl
theorem mayEnter : Try.prog.mayEnter = true := mayEnter_of _ _ behind (by kernel_rfl) (by kernel_rfl) (by kernel_rfl)
theorem liftsFinal : Try.prog.liftsFinal = false := liftsFinal_of _ _ behind
theorem make : Try.prog.make = some .cut := make_of _ _ behind
end Go.Proofs.Ytnofkbbcbpjhfaa.Head

-- the row of the law FnExactDirtyTiles
namespace Go.Proofs.Ytnofkbbcbpjhfaa.fnExactDirtyTiles
open Go.ChangeShapes Go.WideShapes Go.ChangeAt Go.RowKit Go.Proofs.Ytnofkbbcbpjhfaa.Q Go.Proofs.YtnofkbbcbpjhfaaW.PrintWords
open Go.ChangeMaps (open_string shut_string)
set_option linter.unusedVariables false
theorem own : ownKnob Try.prog.godebug = none := by kernel_rfl
theorem laidOut : laidOutB Try.prog = true := by kernel_rfl
set_option maxHeartbeats 4000000 in
set_option maxRecDepth 100000 in
theorem lifted (os : Os) (started : os.Started) (H : Type) (enc : TypeId × Value → H) :
    ReturnsInHanded {} Try.checked os 7 .any (Rows.fnExactDirtyTilesSpec.pre6 enc Try.prog Try.f7 Rows.fnExactDirtyTilesRow.domain false) (Rows.fnExactDirtyTilesSpec.post enc Try.prog Try.f7 false true false false) := by
  refine returnsInHanded_of_change_sized (C := Try.checked) own started (by kernel_rfl) Try.func7
    (ChangeSpec.witness6 (enc := enc) (C := Try.checked) false ⟨#[], #[.agg #[.int .i64 0, .int .i64 0, .int .i64 0, .slice none 0 0], .agg #[.int .i64 0, .int .i64 0, .int .i64 0, .slice none 0 0, .int .i64 0, .int .i64 0, .int .i64 0, .int .i64 0, .bool false]], []⟩ 8 (by kernel_rfl) (by kernel_rfl) (by kernel_rfl) (by kernel_rfl)) ?_
  intro W base args ds gs before hval0 hW hcnd hsz0 _
  have hval : ∀ (j : Nat) t v, Try.f7.params[j]? = some t → args[j]? = some v → Value.okWide Try.prog W .any base t v := hval0
  have hW' := hW
  obtain ⟨p, q, hA0, hV, rfl, hfz, hnd⟩ := hW
  have hA : DataW.TrodAll enc Try.prog W 0 (fun _ => true) true Try.f7.params.toList args.toList ds p := hA0
  rw [Try.params7] at hA hval
  obtain ⟨v0, vs0, d0, ds0, p0, q0, hargs, rfl, rfl, h0, r0⟩ := trodAll_cons hA
  obtain ⟨v1, vs1, d1, ds1, p1, q1, rfl, rfl, rfl, h1, r1⟩ := trodAll_cons r0
  obtain ⟨rfl, rfl, rfl⟩ := trodAll_nil r1
  obtain rfl : args = #[v0, v1] := by cases args; simp_all
  obtain ⟨rfl, rfl⟩ := trodVars_none hV
  have k0 := h0
  have lt0 : ∀ x ∈ p0, x.block < W.heap.size := by obtain ⟨m, hm⟩ := k0; exact DataW.trod_lt m _ _ _ hm
  obtain ⟨fuel0, hf0⟩ := h0
  obtain ⟨cs0, rfl, hsz0⟩ := okWide_struct Try.underlying24 (hval 0 24 v0 rfl rfl)
  obtain ⟨y0, hK0, hq0⟩ := o24 _ _ _ _ _ _ hf0
  obtain ⟨A0_3, c0_3, hcs0, hc0_3, hr0_3⟩ := k24_open hK0
  obtain rfl : cs0 = #[.int .i64 y0.f0, .int .i64 y0.f1, .int .i64 y0.f2, .slice A0_3 y0.f3.length c0_3] := by cases cs0; simpa [Value.cells] using hcs0
  have k1 := h1
  have lt1 : ∀ x ∈ p1, x.block < W.heap.size := by obtain ⟨m, hm⟩ := k1; exact DataW.trod_lt m _ _ _ hm
  obtain ⟨fuel1, hf1⟩ := h1
  obtain ⟨cs1, rfl, hsz1⟩ := okWide_struct Try.underlying51 (hval 1 51 v1 rfl rfl)
  obtain ⟨y1, hK1, hq1⟩ := o51 _ _ _ _ _ _ hf1
  obtain ⟨A1_3, c1_3, hcs1, hc1_3, hr1_3⟩ := k51_open hK1
  obtain rfl : cs1 = #[.int .i64 y1.f0.f0, .int .i64 y1.f0.f1, .int .i64 y1.f0.f2, .slice A1_3 y1.f0.f3.length c1_3, .int .i64 y1.f1, .int .i64 y1.f2, .int .i64 y1.f3, .int .i64 y1.f4, .bool y1.f5] := by cases cs1; simpa [Value.cells] using hcs1
  clear hA0 hval0 hsz0
  obtain ⟨k, hh⟩ := Pure.FnExactDirtyTiles y0.f0 y0.f1 y0.f2 y0.f3 y1.f0.f0 y1.f0.f1 y1.f0.f2 y1.f0.f3 y1.f1 y1.f2 y1.f3 y1.f4 y1.f5 hq0.1 hq0.2.1 hq0.2.2.1 hq0.2.2.2 hr0_3.2.1 hq1.1.1 hq1.1.2.1 hq1.1.2.2.1 hq1.1.2.2.2 hr1_3.2.1 hq1.2.1 hq1.2.2.1 hq1.2.2.2.1 hq1.2.2.2.2.1
  refine (Q.laws_FnExactDirtyTiles.calls k y0.f0 y0.f1 y0.f2 _ _ y0.f3 y1.f0.f0 y1.f0.f1 y1.f0.f2 _ _ y1.f0.f3 y1.f1 y1.f2 y1.f3 y1.f4 y1.f5 true W hr0_3 hc0_3 hr1_3 hc1_3 hh rfl).mono fun e W' hpost => ?_
  obtain ⟨he, bel0⟩ := hpost
  have bel : Below W.heap.size W W' := bel0
  subst he
  exact ⟨_, rfl, _, _, _, [], _, [], hW', trodAll_mk1 (shut_bool Try.underlying4 _), (trodAll_cons_mk (Below.trod laidOut (by kernel_rfl) (of_decide_eq_true (by kernel_rfl)) k0 bel lt0) (trodAll_cons_mk (Below.trod laidOut (by kernel_rfl) (of_decide_eq_true (by kernel_rfl)) k1 bel lt1) trodAll_mk0)), rfl, bel.frame _, fun h => by cases h⟩
set_option maxHeartbeats 4000000 in
theorem closed : joinedFacts Try.prog 7 Try.f7 Rows.fnExactDirtyTilesSpec Rows.fnExactDirtyTilesRow = true := by
  unfold joinedFacts
  rw [Head.mayEnter, Head.liftsFinal, Head.make]
  simp only [Bool.and_eq_true]
  repeat' apply And.intro
  all_goals first | exact True.intro | (as_aux_lemma => kernel_rfl)
set_option maxHeartbeats 4000000 in
theorem over : Rows.fnExactDirtyTilesRow.holds Try.pinned (OpenSpec.ofChange Rows.fnExactDirtyTilesSpec) :=
  OpenClaim.holds_of_wide 7 Try.f7 rfl rfl rfl rfl rfl rfl rfl ⟨rfl, rfl, rfl, rfl, rfl⟩ rfl rfl rfl rfl rfl (by kernel_rfl) Try.func7 closed
    (of_decide_eq_true (by kernel_rfl)) (by unfold Func.isWrapper; first | (rw [if_pos (by decide +kernel)]; kernel_rfl) | (rw [if_neg (by decide +kernel)]; exact ⟨rfl, rfl⟩))
    (fun os started H enc _ => lifted os started H enc)
theorem proved : Rows.FnExactDirtyTilesSaid := over
#print axioms proved
end Go.Proofs.Ytnofkbbcbpjhfaa.fnExactDirtyTiles
namespace Go.Proofs.Ytnofkbbcbpjhfaa
/-- The row, under a short name, for the claim. -/
theorem fnExactDirtyTiles_holds : Rows.FnExactDirtyTilesSaid := fnExactDirtyTiles.proved
end Go.Proofs.Ytnofkbbcbpjhfaa
