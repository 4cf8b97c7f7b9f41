/- A part of the proof that the statement FnTileBoxesSaid holds, under no condition of its own: Tiles cover the image, and are apart: the law FnTileBoxes over lists of numbers alone. -/
import Derived.Test.YtnofkbbcbpjhfaaCFnTileBoxes3
import Derived.Test.YtnofkbbcbpjhfaaRows
import Derived.JoinedOf
import Derived.KernelRfl
import Derived.WalkKit
import Derived.ProofKit
import Derived.OpenShut
import Derived.ShutString
import Derived.ChangeOld
import Derived.Below
import Derived.SizedLaws
import Derived.Test.YtnofkbbcbpjhfaaWSized
/- Tiles cover the image, and are apart: the law FnTileBoxes over lists of numbers alone. -/
namespace Go.Proofs.Ytnofkbbcbpjhfaa.Pure
open Go.RowKit Go.Proofs.Ytnofkbbcbpjhfaa.Q Go.Proofs.YtnofkbbcbpjhfaaW.PrintWords Go.Proofs.YtnofkbbcbpjhfaaW.PrintLast Go.Proofs.YtnofkbbcbpjhfaaW.PrintMore
set_option linter.unusedVariables false
set_option linter.unusedSimpArgs false

theorem equalBoxes_refl (l : List Box) (hl : l.length ≤ 1000000000000) : Ev (fun k => laws_equalBoxes.f k l l) true := by
  have h := ev_up l.length (fun k i (_ : Unit) => laws_equalBoxes.l0 k l l (i : Int)) (fun _ _ => True) (fun _ _ => true)
    (by
      intro i s hi _
      refine .inr ⟨(), fun k => ?_, trivial, rfl⟩
      simp only [laws_equalBoxes.l0]
      rw [if_pos (by omega), if_pos (by omega), if_pos (by omega), w64n i (by omega)]
      simp)
    (by
      intro s _
      refine Ev.step (f := fun _ => some true) (fun k => ?_) (ev_const rfl)
      simp only [laws_equalBoxes.l0]
      rw [if_neg (by omega)])
    l.length 0 () (by omega) trivial
  unfold laws_equalBoxes.f
  exact ev_pos rfl (by simpa using h)
theorem drawTiles (code : List Int) (hw : ∀ x ∈ code, (Lit.int .u8 x).wf = true) : ∃ (w h p : Int) (d : List Int), d.length ≤ 1024 ∧ Ev (fun k => spec_DrawTileBoxes.f k code) (w, h, p, d) := by
  obtain ⟨b, hb, hB⟩ := newReader_at code (code_bytes code hw)
  obtain ⟨w, h, p, d, q, hd, _, _, he⟩ := anyImage_ev b 0 hB (by omega) (by omega)
  refine ⟨w, h, p, d, hd, ?_⟩
  unfold spec_DrawTileBoxes.f
  exact ev_now hb (ev_bind he (Ev.now _))
theorem tiles_loop (W H : Nat) (p : Int) (d : List Int) (h1 : 1 ≤ W) (h2 : W ≤ 16) (h3 : 1 ≤ H) (h4 : H ≤ 16) :
    Ev (fun k => laws_FnTileBoxes.l0 k (tilesV W H) [] 0 0 W H p d) true := by
  have hn := tiles_count W H h1 h2 h3 h4
  have hT : (tilesV W H).length = colsOf W * colsOf H := tilesN_length W H _
  have hget : ∀ t, t < colsOf W * colsOf H → rd_T47 (tilesV W H) (t : Int) = tileN W H t := by
    intro t ht
    rw [rdBox (tilesV W H) t (by omega)]
    simp [tilesV, tilesN]
  have hcnt : ∀ g : Nat → Bool, countG g ≤ 256 := by
    intro g
    unfold countG
    have := List.countP_le_length (p := g) (l := List.range 256)
    simpa using this
  have key := ev_up2 (colsOf W * colsOf H) (fun k t (s : List Run × Int) => laws_FnTileBoxes.l0 k (tilesV W H) s.1 s.2 (t : Int) W H p d)
    (fun t s => validR s.1 = true ∧ (∀ q, q < 256 → gridF s.1 q = gtT W H t q) ∧ s.2 = (countG (gtT W H t) : Int) ∧ (t = 0 ∨ s.1 = runsL (gtT W H t))) (fun _ _ => true)
    (by
      intro t s ht hs
      obtain ⟨a, n⟩ := s
      obtain ⟨hv, hg, hc, _⟩ := hs
      simp only at hv hg hc
      right
      have hb := tile_box W H t h1 h2 h3 h4 ht
      have hB : boxRuns (tileN W H t).f0 (tileN W H t).f1 (tileN W H t).f2 (tileN W H t).f3 (tileN W H t).f3.toNat = runsL (boxT W H t) := (runs_box _ _ _ _ hb.1).symm
      have hgB : ∀ q, q < 256 → gridF (runsL (boxT W H t)) q = boxT W H t q := fun q hq => grid_runs _ q hq
      have hvB := runs_valid (boxT W H t)
      have hC : runsL (gso (combG 0 (gridF a) (gridF (runsL (boxT W H t)))) 256) = runsL (gtT W H (t + 1)) := by
        refine runsL_congr (fun q hq => ?_)
        rw [comb_at _ _ _ _ hq, hg q hq, hgB q hq, gt_succ W H t q h1 h2 h3 h4 ht hq]
        rfl
      have hcs := count_succ W H t h1 h2 h3 h4 ht
      refine ⟨(runsL (gtT W H (t + 1)), (countG (gtT W H (t + 1)) : Int)), fun r hr => ?_, ⟨runs_valid _, fun q hq => grid_runs _ q hq, rfl, .inr rfl⟩, rfl⟩
      have hBox : impl_BoxRegion.f (tileN W H t).f0 (tileN W H t).f1 (tileN W H t).f2 (tileN W H t).f3 = some (runsL (boxT W H t), true) := by
        rw [impl_BoxRegion_eq]
        unfold boxV
        rw [if_pos hb.1, hB]
      have hArea : Ev (fun k => impl_AreaOf.f k (runsL (boxT W H t))) (countG (boxT W H t) : Int) := by
        have hl := runsL_len (boxT W H t)
        refine ev_of (2 * (runsL (boxT W H t)).length + 1) (fun k hk => ?_)
        rw [impl_AreaOf_eq _ (by omega) k (by omega), if_pos hvB, area_runs]
      have hComb : laws_combined.f a (runsL (boxT W H t)) 0 = some (runsL (gtT W H (t + 1))) := by
        unfold laws_combined.f
        rw [impl_CombineRegions_eq]
        simp only [Option.bind_some]
        unfold combV
        rw [hv, hvB, if_pos (by simp), hC]
      have c1 := hcnt (gtT W H (t + 1))
      have hj : Ev (fun k => laws_FnTileBoxes.j2 k (tilesV W H) a n (t : Int) (runsL (boxT W H t)) false W H p d) r := by
        refine Ev.step (f := fun k => (impl_AreaOf.f k (runsL (boxT W H t))).bind fun x => (laws_combined.f a (runsL (boxT W H t)) 0).bind fun y => laws_FnTileBoxes.l0 k (tilesV W H) y (wrap64 (n + x)) (wrap64 ((t : Int) + 1)) W H p d) (fun k => ?_) (ev_bind hArea (ev_now hComb ?_))
        · simp only [laws_FnTileBoxes.j2]
          rw [if_neg (by simp)]
        · rw [w64n t (by omega), hc, w64 (by omega) (by omega), ← Int.natCast_add, hcs]
          exact hr
      refine Ev.step (fun k => ?_) hj
      simp only [laws_FnTileBoxes.l0]
      rw [if_pos (by omega), if_pos (by omega), hget t ht, hBox]
      simp only [Option.bind_some]
      rw [if_pos trivial, if_neg (by omega), decide_eq_false (by omega)])
    (by
      intro s hs
      obtain ⟨a, n⟩ := s
      obtain ⟨hv, hg, hc, hr⟩ := hs
      simp only at hv hg hc hr
      have ha : a = runsL (gtT W H (colsOf W * colsOf H)) := by
        rcases hr with hr | hr
        · omega
        · exact hr
      have hall := count_all W H h1 h2 h3 h4
      have hb := hcnt (gtT W H (colsOf W * colsOf H))
      have hArea : Ev (fun k => impl_AreaOf.f k a) n := by
        have hl := runsL_len (gtT W H (colsOf W * colsOf H))
        rw [ha]
        refine ev_of (2 * (runsL (gtT W H (colsOf W * colsOf H))).length + 1) (fun k hk => ?_)
        rw [impl_AreaOf_eq _ (by omega) k (by omega), if_pos (runs_valid _), area_runs, hc]
      refine Ev.step (f := fun k => (impl_AreaOf.f k a).bind fun x => some (x == n)) (fun k => ?_) (ev_bind hArea (ev_const (by simp)))
      simp only [laws_FnTileBoxes.l0]
      rw [if_neg (by omega), if_pos (by rw [w64 (by omega) (by omega), hc, hall])])
    (colsOf W * colsOf H) 0 ([], 0) (by omega) ⟨rfl, fun q hq => by unfold gtT; rw [decide_eq_false (by omega)]; rfl, by rw [countG_none _ (fun q hq => by unfold gtT; rw [decide_eq_false (by omega)])]; rfl, .inl rfl⟩
  exact key
theorem FnTileBoxes : laws_FnTileBoxes.Pure := by
  intro code _ _ hw
  apply Ev.rounds
  unfold laws_FnTileBoxes.f
  by_cases c : (code.length : Int) > 1048576
  · exact ev_pos c (Ev.now true)
  refine ev_neg c ?_
  obtain ⟨w, h, p, d, hdl, hd⟩ := drawTiles code hw
  have hI := impl_TileBoxes_ev w h p d
  have hS := spec_TileBoxes_ev w h p d (by omega)
  have hlen := tilesOf_len w h p d
  have heq := equalBoxes_refl (tilesOf w h p d) (by omega)
  refine ev_bind hd (ev_bind hI (ev_bind hS (ev_bind heq (ev_pos rfl ?_))))
  by_cases hv : validI w h p d = true
  · have hr := (validI_iff w h p d).1 hv
    obtain ⟨W, rfl⟩ := Int.eq_ofNat_of_zero_le (show 0 ≤ w by omega)
    obtain ⟨H, rfl⟩ := Int.eq_ofNat_of_zero_le (show 0 ≤ h by omega)
    have e : tilesOf W H p d = tilesV W H := by unfold tilesOf; rw [if_pos hv]; rfl
    have hn := tiles_count W H (by omega) (by omega) (by omega) (by omega)
    have hT : (tilesV W H).length = colsOf W * colsOf H := tilesN_length W H _
    rw [e]
    refine Ev.step (fun k => ?_) (tiles_loop W H p d (by omega) (by omega) (by omega) (by omega))
    simp only [laws_FnTileBoxes.j0]
    rw [if_neg (by simp; intro c; rw [c] at hT; simp at hT; omega)]
  · have e : tilesOf w h p d = [] := by unfold tilesOf; rw [if_neg hv]
    rw [e] at hS heq ⊢
    refine Ev.step (f := fun k => (spec_TileBoxes.f k w h p d).bind fun a => (laws_equalBoxes.f k [] a).bind fun b => some b) (fun k => ?_) (ev_bind hS (ev_bind heq (Ev.now _)))
    simp only [laws_FnTileBoxes.j0]
    rw [if_pos (by simp)]
end Go.Proofs.Ytnofkbbcbpjhfaa.Pure

/- The head of the translation reads as a plain cut. -/
namespace Go.Proofs.Ytnofkbbcbpjhfaa.Head
set_option maxRecDepth 100000
theorem wordsSigns_word (w r : List Char) (h : w.all (fun c => !(c == Char.ofNat 32)) = true) : wordsSigns (w ++ Char.ofNat 32 :: r) = w :: wordsSigns r := by
  induction w with
  | nil => rfl
  | cons c w ih =>
    simp only [List.all_cons, Bool.and_eq_true, Bool.not_eq_true', beq_eq_false_iff_ne, ne_eq] at h
    have h1 := ih (by simpa using h.2)
    rw [List.cons_append, wordsSigns.eq_3 c _ h.1, h1]
def w1 : List Char := [104, 97, 114, 110, 101, 115, 115].map Char.ofNat
def w2 : List Char := [98, 98, 56, 56, 48, 50, 51, 48, 99, 56, 98, 97, 54, 51, 51, 51, 48, 101, 54, 53, 56, 97, 98, 51, 97, 51, 99, 100, 54, 102, 98, 98, 55, 101, 51, 50, 99, 48, 56, 52, 55, 54, 49, 49, 100, 50, 51, 56, 55, 100, 54, 48, 49, 99, 100, 97, 51, 102, 50, 98, 48, 57, 53, 101].map Char.ofNat
def w3 : List Char := [99, 117, 116].map Char.ofNat
def w4 : List Char := [97, 116, 32, 108, 111, 111, 112, 46, 101, 120, 97, 109, 112, 108, 101, 47, 112, 105, 120, 101, 108, 119, 111, 114, 107, 115, 47, 108, 97, 119, 115, 46, 70, 110, 69, 120, 97, 99, 116, 71, 97, 112, 79, 102, 32, 108, 111, 111, 112, 46, 101, 120, 97, 109, 112, 108, 101, 47, 112, 105, 120, 101, 108, 119, 111, 114, 107, 115, 47, 108, 97, 119, 115, 46, 70, 110, 71, 97, 112, 79, 102, 32, 108, 111, 111, 112, 46, 101, 120, 97, 109, 112, 108, 101, 47, 112, 105, 120, 101, 108, 119, 111, 114, 107, 115, 47, 108, 97, 119, 115, 46, 70, 110, 69, 120, 97, 99, 116, 84, 105, 108, 101, 66, 111, 120, 101, 115, 32, 108, 111, 111, 112, 46, 101, 120, 97, 109, 112, 108, 101, 47, 112, 105, 120, 101, 108, 119, 111, 114, 107, 115, 47, 108, 97, 119, 115, 46, 70, 110, 84, 105, 108, 101, 66, 111, 120, 101, 115, 32, 108, 111, 111, 112, 46, 101, 120, 97, 109, 112, 108, 101, 47, 112, 105, 120, 101, 108, 119, 111, 114, 107, 115, 47, 108, 97, 119, 115, 46, 70, 110, 69, 120, 97, 99, 116, 68, 105, 114, 116, 121, 84, 105, 108, 101, 115, 32, 108, 111, 111, 112, 46, 101, 120, 97, 109, 112, 108, 101, 47, 112, 105, 120, 101, 108, 119, 111, 114, 107, 115, 47, 108, 97, 119, 115, 46, 70, 110, 68, 105, 114, 116, 121, 84, 105, 108, 101, 115, 32, 108, 111, 111, 112, 46, 101, 120, 97, 109, 112, 108, 101, 47, 112, 105, 120, 101, 108, 119, 111, 114, 107, 115, 47, 108, 97, 119, 115, 46, 70, 110, 69, 120, 97, 99, 116, 77, 101, 114, 103, 101, 80, 108, 97, 110, 101, 115, 32, 108, 111, 111, 112, 46, 101, 120, 97, 109, 112, 108, 101, 47, 112, 105, 120, 101, 108, 119, 111, 114, 107, 115, 47, 108, 97, 119, 115, 46, 70, 110, 69, 120, 97, 99, 116, 67, 111, 118, 101, 114, 73, 109, 97, 103, 101, 32, 108, 111, 111, 112, 46, 101, 120, 97, 109, 112, 108, 101, 47, 112, 105, 120, 101, 108, 119, 111, 114, 107, 115, 47, 108, 97, 119, 115, 46, 70, 110, 67, 111, 118, 101, 114, 73, 109, 97, 103, 101, 32, 108, 111, 111, 112, 46, 101, 120, 97, 109, 112, 108, 101, 47, 112, 105, 120, 101, 108, 119, 111, 114, 107, 115, 47, 108, 97, 119, 115, 46, 70, 110, 69, 120, 97, 99, 116, 70, 108, 97, 116, 116, 101, 110, 76, 97, 121, 101, 114, 115, 32, 108, 111, 111, 112, 46, 101, 120, 97, 109, 112, 108, 101, 47, 112, 105, 120, 101, 108, 119, 111, 114, 107, 115, 47, 108, 97, 119, 115, 46, 70, 110, 70, 108, 97, 116, 116, 101, 110, 76, 97, 121, 101, 114, 115, 32, 108, 111, 111, 112, 46, 101, 120, 97, 109, 112, 108, 101, 47, 112, 105, 120, 101, 108, 119, 111, 114, 107, 115, 47, 108, 97, 119, 115, 46, 70, 110, 70, 108, 97, 116, 116, 101, 110, 76, 97, 121, 101, 114, 115, 72, 105, 100, 100, 101, 110, 32, 108, 111, 111, 112, 46, 101, 120, 97, 109, 112, 108, 101, 47, 112, 105, 120, 101, 108, 119, 111, 114, 107, 115, 47, 108, 97, 119, 115, 46, 70, 110, 69, 120, 97, 99, 116, 80, 97, 116, 99, 104, 73, 109, 97, 103, 101, 32, 108, 111, 111, 112, 46, 101, 120, 97, 109, 112, 108, 101, 47, 112, 105, 120, 101, 108, 119, 111, 114, 107, 115, 47, 108, 97, 119, 115, 46, 70, 110, 80, 97, 116, 99, 104, 73, 109, 97, 103, 101, 84, 119, 105, 99, 101, 32, 108, 111, 111, 112, 46, 101, 120, 97, 109, 112, 108, 101, 47, 112, 105, 120, 101, 108, 119, 111, 114, 107, 115, 47, 108, 97, 119, 115, 46, 70, 110, 69, 120, 97, 99, 116, 82, 101, 100, 114, 97, 119, 84, 105, 108, 101, 115, 32, 108, 111, 111, 112, 46, 101, 120, 97, 109, 112, 108, 101, 47, 112, 105, 120, 101, 108, 119, 111, 114, 107, 115, 47, 108, 97, 119, 115, 46, 70, 110, 82, 101, 100, 114, 97, 119, 68, 105, 114, 116, 121, 32, 108, 111, 111, 112, 46, 101, 120, 97, 109, 112, 108, 101, 47, 112, 105, 120, 101, 108, 119, 111, 114, 107, 115, 47, 108, 97, 119, 115, 46, 70, 110, 82, 101, 100, 114, 97, 119, 84, 105, 108, 101, 115].map Char.ofNat
theorem signs0 : Try.prog.initOrder = String.ofList (w1 ++ Char.ofNat 32 :: (w2 ++ Char.ofNat 32 :: (w3 ++ Char.ofNat 32 :: w4))) := by kernel_rfl
theorem behind : behindMainWord (wordsSigns Try.prog.initOrder.toList) = w3 :: wordsSigns w4 := by
  rw [signs0, String.toList_ofList, wordsSigns_word w1 _ (by kernel_rfl), wordsSigns_word w2 _ (by kernel_rfl), wordsSigns_word w3 _ (by kernel_rfl)]
  unfold behindMainWord
  dsimp only
  rw [if_pos (by kernel_rfl)]
theorem strip_cut (R : List (List Char)) : stripLifts liftWords (w3 :: R) = ([], w3 :: R) := by kernel_rfl
theorem mayEnter_of (P : Program) (R : List (List Char)) (h : behindMainWord (wordsSigns P.initOrder.toList) = w3 :: R) (h1 : P.laysLater = false) (h2 : P.bearsReflect = false) (h3 : P.doorFits [] = true) : P.mayEnter = true := by
  unfold Program.mayEnter
  rw [h]
  dsimp only
  rw [strip_cut, h1, h2, h3]
  kernel_rfl
theorem liftsFinal_of (P : Program) (R : List (List Char)) (h : behindMainWord (wordsSigns P.initOrder.toList) = w3 :: R) : P.liftsFinal = false := by
  unfold Program.liftsFinal Program.headLifts
  rw [h]
  dsimp only
  rw [strip_cut]
  kernel_rfl
theorem make_of (P : Program) (R : List (List Char)) (h : behindMainWord (wordsSigns P.initOrder.toList) = w3 :: R) : P.make = some .cut := by
  unfold Program.make
  rw [h]
  kernel_rfl
theorem mayEnter : Try.prog.mayEnter = true := mayEnter_of _ _ behind (by kernel_rfl) (by kernel_rfl) (by kernel_rfl)
theorem liftsFinal : Try.prog.liftsFinal = false := liftsFinal_of _ _ behind
theorem make : Try.prog.make = some .cut := make_of _ _ behind
end Go.Proofs.Ytnofkbbcbpjhfaa.Head

-- PRINTED by print.py: the row of the law laws_FnTileBoxes, out of its Pure (the session's) and the printed walk. Not trusted: Lean checks it.
namespace Go.Proofs.Ytnofkbbcbpjhfaa.fnTileBoxes
open Go.ChangeShapes Go.WideShapes Go.ChangeAt Go.RowKit
open Go.ChangeMaps (open_string shut_string)
set_option linter.unusedVariables false
theorem own : ownKnob Try.prog.godebug = none := by kernel_rfl
theorem laidOut : laidOutB Try.prog = true := by kernel_rfl
def IsRow (k : IntKind) (w : World) (a : Option Addr) (len cap : Nat) (zs : List Int) : Prop :=
  (a = none ∧ len = 0 ∧ cap = 0 ∧ zs = []) ∨
  ∃ x, a = some x ∧ len ≤ cap ∧ cap ≤ maxLen ∧ zs.length = cap ∧ (∀ i, i < zs.length → w.cell? (x.add i) = some (.int k (zs.getD i 0))) ∧ ∀ n ∈ zs, (Lit.int k n).wf = true
set_option maxRecDepth 100000 in
theorem lifted (os : Os) (started : os.Started) (H : Type) (enc : TypeId × Value → H) :
    ReturnsInHanded {} Try.checked os 6 .any (Rows.fnTileBoxesSpec.pre6 enc Try.prog Try.f6 Rows.fnTileBoxesRow.domain false) (Rows.fnTileBoxesSpec.post enc Try.prog Try.f6 false true false false) := by
  refine returnsInHanded_of_change_sized (C := Try.checked) own started (by kernel_rfl) Try.func6
    (ChangeSpec.witness6 (enc := enc) (C := Try.checked) false ⟨#[], #[.slice none 0 0], []⟩ 8 (by kernel_rfl) (by kernel_rfl) (by kernel_rfl) (by kernel_rfl)) ?_
  intro W base args ds gs before hval0 hW hcnd hsz0 _
  have hsz : (DataW.weightsEach Try.prog (Try.f6.params.toList ++ Rows.fnTileBoxesSpec.plain.varTypes Try.prog) (ds ++ gs)).all (· ≤ reachBytes) = true := hsz0
  have hval : ∀ (j : Nat) t v, Try.f6.params[j]? = some t → args[j]? = some v → Value.okWide Try.prog W .any base t v := hval0
  have hW' := hW
  obtain ⟨p, q, hA0, hV, rfl, hfz, hnd⟩ := hW
  have hA : DataW.TrodAll enc Try.prog W 0 (fun _ => true) true Try.f6.params.toList args.toList ds p := hA0
  rw [Try.params6] at hA hval hsz
  obtain ⟨v0, vs0, d0, ds0, p0, q0, hargs, rfl, rfl, h0, r0⟩ := trodAll_cons hA
  obtain ⟨rfl, rfl, rfl⟩ := trodAll_nil r0
  obtain rfl : args = #[v0] := by cases args; simp_all
  obtain ⟨rfl, rfl⟩ := trodVars_none hV
  obtain ⟨a0, len0, cap0, rfl⟩ := okWide_slice Try.underlying31 (hval 0 31 v0 rfl rfl)
  have k0 := h0
  have lt0 : ∀ x ∈ p0, x.block < W.heap.size := by obtain ⟨m, hm⟩ := k0; exact DataW.trod_lt m _ _ _ hm
  obtain ⟨z0, w0⟩ : ∃ zs, IsRow .u8 W a0 len0 cap0 zs := by
    obtain ⟨fuel, hf⟩ := h0
    rcases open_ints Try.underlying31 Try.underlying5 (by kernel_rfl) hf with ⟨hcs, _⟩ | ⟨x, l, c, zs, hcs, _, hl, hm, hz, _, hcell, hwz⟩
    · simp [Value.cells] at hcs
      obtain ⟨rfl, rfl, rfl⟩ := hcs
      exact ⟨[], .inl ⟨rfl, rfl, rfl, rfl⟩⟩
    · simp [Value.cells] at hcs
      obtain ⟨rfl, rfl, rfl⟩ := hcs
      exact ⟨zs, .inr ⟨_, rfl, hl, hm, by simpa using hz, hcell, hwz⟩⟩
  have y0 : len0 * 1 ≤ 140737488351232 := Go.Proofs.YtnofkbbcbpjhfaaW.PrintWords.sized_ints hsz (j := 0) (t := 31) rfl rfl Try.underlying31 Try.underlying5 (by kernel_rfl) (by kernel_rfl) h0
  clear hA0 hval0 hsz0 hsz
  refine (Q.laws_FnTileBoxes.walk Pure.FnTileBoxes a0 len0 cap0 z0 W w0 y0).mono fun e W' ⟨he, bel⟩ => ?_
  subst he
  exact ⟨_, rfl, _, _, _, [], _, [], hW', trodAll_mk1 (shut_bool Try.underlying4 _), (trodAll_cons_mk (Below.trod laidOut (by kernel_rfl) (of_decide_eq_true (by kernel_rfl)) k0 bel lt0) trodAll_mk0), rfl, bel.frame _, fun h => by cases h⟩
theorem closed : joinedFacts Try.prog 6 Try.f6 Rows.fnTileBoxesSpec Rows.fnTileBoxesRow = true := by
  unfold joinedFacts
  rw [Head.mayEnter, Head.liftsFinal, Head.make]
  simp only [Bool.and_eq_true]
  repeat' apply And.intro
  all_goals first | exact True.intro | (as_aux_lemma => kernel_rfl)
theorem over : Rows.fnTileBoxesRow.holds Try.pinned (OpenSpec.ofChange Rows.fnTileBoxesSpec) :=
  OpenClaim.holds_of_wide 6 Try.f6 rfl rfl rfl rfl rfl rfl rfl ⟨rfl, rfl, rfl, rfl, rfl⟩ rfl rfl rfl rfl rfl (by kernel_rfl) Try.func6 closed
    (of_decide_eq_true (by kernel_rfl)) (by unfold Func.isWrapper; first | (rw [if_pos (by decide +kernel)]; kernel_rfl) | (rw [if_neg (by decide +kernel)]; exact ⟨rfl, rfl⟩))
    (fun os started H enc _ => lifted os started H enc)
theorem proved : Rows.FnTileBoxesSaid := over
#print axioms proved
end Go.Proofs.Ytnofkbbcbpjhfaa.fnTileBoxes
namespace Go.Proofs.Ytnofkbbcbpjhfaa
/-- The row, under a short name, for the claim. -/
theorem fnTileBoxes_holds : Rows.FnTileBoxesSaid := fnTileBoxes.proved
end Go.Proofs.Ytnofkbbcbpjhfaa
