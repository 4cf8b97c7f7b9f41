/- A part of the proof that the statement FnChangedRegionSaid holds, under no condition of its own: Changes are where pixels differ: the law FnChangedRegion over lists of numbers alone. -/
import Derived.Test.YtbgohbinonkhfaaCFnChangedRegion5
import Derived.Test.YtbgohbinonkhfaaRows
import Derived.JoinedOf
import Derived.KernelRfl
import Derived.WalkKit
import Derived.ProofKit
import Derived.OpenShut
import Derived.ShutString
import Derived.ChangeOld
import Derived.Below
import Derived.SizedLaws
import Derived.Test.YtbgohbinonkhfaaCFnChangedRegionW1
/- Changes are where pixels differ: the law FnChangedRegion over lists of numbers alone. -/
namespace Go.Proofs.Ytbgohbinonkhfaa.Pure
open Go.RowKit Go.Proofs.Ytbgohbinonkhfaa.Q Go.Proofs.YtbgohbinonkhfaaW.PrintWords Go.Proofs.YtbgohbinonkhfaaW.PrintLast Go.Proofs.YtbgohbinonkhfaaW.PrintMore
set_option linter.unusedVariables false
set_option linter.unusedSimpArgs false

theorem equalRunsC (l : List Run) (hl : l.length ≤ 1000000000000) : Ev (fun k => laws_equalRuns.f k l l) true := by
  have h := ev_up l.length (fun k i (_ : Unit) => laws_equalRuns.l0 k l l (i : Int)) (fun _ _ => True) (fun _ _ => true)
    (by
      intro i s hi _
      refine .inr ⟨(), fun k => ?_, trivial, rfl⟩
      simp only [laws_equalRuns.l0]
      rw [if_pos (by omega), if_pos (by omega), if_pos (by omega), w64n i (by omega)]
      simp)
    (by
      intro s _
      refine Ev.step (f := fun _ => some true) (fun k => ?_) (ev_const rfl)
      simp only [laws_equalRuns.l0]
      rw [if_neg (by omega)])
    l.length 0 () (by omega) trivial
  unfold laws_equalRuns.f
  exact ev_pos rfl (by simpa using h)
theorem equalIntsC (l m : List Int) (hl : l.length ≤ 1000000) : Ev (fun k => laws_equalInts.f k l m) (decide (l = m)) := by
  unfold laws_equalInts.f
  by_cases hn : l.length = m.length
  · have key := ev_up l.length (fun k i (_ : Unit) => laws_equalInts.l0 k l m (i : Int)) (fun _ _ => True) (fun i _ => decide (l.drop i = m.drop i))
      (by
        intro i s hi _
        have e1 := List.drop_eq_getElem_cons hi
        have e2 := List.drop_eq_getElem_cons (show i < m.length by omega)
        by_cases c : l[i] = m[i]'(by omega)
        · refine .inr ⟨(), fun k => ?_, trivial, ?_⟩
          · simp only [laws_equalInts.l0]
            rw [if_pos (by omega), if_pos (by omega), if_pos (by omega), rd_nat l i hi, rd_nat m i (by omega), if_pos c, w64n i (by omega)]
          · rw [e1, e2, decide_eq_decide, List.cons.injEq]
            exact ⟨fun h => ⟨c, h⟩, fun h => h.2⟩
        · left
          rw [e1, e2, decide_eq_false (by rw [List.cons.injEq]; exact fun h => c h.1)]
          refine Ev.step (f := fun _ => some false) (fun k => ?_) (Ev.now _)
          simp only [laws_equalInts.l0]
          rw [if_pos (by omega), if_pos (by omega), if_pos (by omega), rd_nat l i hi, rd_nat m i (by omega), if_neg c])
      (by
        intro s _
        refine Ev.step (f := fun _ => some true) (fun k => ?_) (ev_const (by rw [List.drop_length, hn, List.drop_length]; rfl))
        simp only [laws_equalInts.l0]
        rw [if_neg (by omega)])
      l.length 0 () (by omega) trivial
    exact ev_pos (by omega) (by simpa using key)
  · refine ev_neg (by omega) ?_
    rw [decide_eq_false (fun h => hn (by rw [h]))]
    exact Ev.now _
theorem changedV_swap (a b p : Int) (d1 : List Int) (a' b' p' : Int) (d2 : List Int) : changedV a' b' p' d2 a b p d1 = changedV a b p d1 a' b' p' d2 := by
  unfold changedV
  by_cases c : sameV a b p d1 a' b' p' d2 = true
  · obtain ⟨h1, h2, rfl, rfl, rfl⟩ := (sameV_iff _ _ _ _ _ _ _ _).1 c
    rw [if_pos c, if_pos ((sameV_iff _ _ _ _ _ _ _ _).2 ⟨h2, h1, rfl, rfl, rfl⟩)]
    have e : chg a b p d2 d1 = chg a b p d1 d2 := by
      funext x y
      unfold chg
      rw [decide_eq_decide.2 (eq_comm (a := pixT d2 (pixJ a p x y) p) (b := pixT d1 (pixJ a p x y) p))]
    rw [e]
  · rw [if_neg c, if_neg (fun h => c (by
      obtain ⟨h1, h2, h3, h4, h5⟩ := (sameV_iff _ _ _ _ _ _ _ _).1 h
      exact (sameV_iff _ _ _ _ _ _ _ _).2 ⟨h2, h1, h3.symm, h4.symm, h5.symm⟩))]
theorem changed_has (a b p : Int) (d1 d2 : List Int) (x y : Nat) (hx : x < 16) (hy : y < 16) : impl_RegionHas.f (runsL (gso (chg a b p d1 d2) 256)) (x : Int) (y : Int) = some (chg a b p d1 d2 x y) := by
  unfold impl_RegionHas.f
  have hp : hasP (gridF (runsL (gso (chg a b p d1 d2) 256))) (x : Int) (y : Int) = chg a b p d1 d2 x y := by
    unfold hasP
    rw [decide_eq_true (by omega), decide_eq_true (by omega), decide_eq_true (by omega), decide_eq_true (by omega), Int.toNat_natCast, Int.toNat_natCast, grid_runs _ _ (by omega), gso_at _ _ (by omega), show (y * 16 + x) % 16 = x by omega, show (y * 16 + x) / 16 = y by omega]
    rfl
  rw [runs_valid, hp]
  rfl
theorem pixelAtI_eq {a b p : Int} {d : List Int} (hv : validI a b p d = true) {x y : Nat} (hx : (x : Int) < a) (hy : (y : Int) < b) : impl_PixelAt.f a b p d (x : Int) (y : Int) = some (pixT d (pixJ a p x y) p) := by
  unfold impl_PixelAt.f
  rw [if_pos ⟨hv, by omega, hx, by omega, hy⟩, Int.toNat_natCast, Int.toNat_natCast]
theorem drawTwo (code : List Int) (hw : ∀ x ∈ code, (Lit.int .u8 x).wf = true) : ∃ (w h p : Int) (d : List Int) (w' h' p' : Int) (d' : List Int), d.length ≤ 1024 ∧ d'.length ≤ 1024 ∧ Ev (fun k => spec_DrawChangedRegion.f k code) (w, h, p, d, w', h', p', d') := by
  obtain ⟨b, hb, hB⟩ := newReader_at code (code_bytes code hw)
  obtain ⟨w, h, p, d, w', h', p', d', q, hd, hd', _, _, he⟩ := twoImages_ev b 0 hB (by omega) (by omega)
  refine ⟨w, h, p, d, w', h', p', d', hd, hd', ?_⟩
  unfold spec_DrawChangedRegion.f
  exact ev_now hb (ev_bind he (Ev.now _))
theorem changed_loop (W H : Nat) (p : Int) (d1 d2 : List Int) (hv1 : validI W H p d1 = true) (hv2 : validI W H p d2 = true) : Ev (fun k => laws_FnChangedRegion.l0 k (runsL (gso (chg W H p d1 d2) 256)) 0 W H p d1 W H p d2) true := by
  have hh := (validI_iff _ _ _ _).1 hv1
  have hpr := shape_prod hh.1
  obtain ⟨V, hV⟩ : ∃ V, V = runsL (gso (chg W H p d1 d2) 256) := ⟨_, rfl⟩
  rw [← hV]
  have key := ev_up2 H (fun k y (_ : Unit) => laws_FnChangedRegion.l0 k V (y : Int) W H p d1 W H p d2) (fun _ _ => True) (fun _ _ => true)
    (by
      intro y s hy _
      right
      refine ⟨(), fun R hR => ?_, trivial, rfl⟩
      have inner := ev_up2 W (fun k x (_ : Unit) => laws_FnChangedRegion.l1 k V (y : Int) (x : Int) W H p d1 W H p d2) (fun _ _ => True) (fun _ _ => R)
        (by
          intro x s hx _
          right
          refine ⟨(), fun R' hR' => ?_, trivial, rfl⟩
          have e0 : impl_RegionHas.f V (x : Int) (y : Int) = some (chg W H p d1 d2 x y) := by rw [hV]; exact changed_has _ _ _ _ _ _ _ (by omega) (by omega)
          have e1 := pixelAtI_eq hv1 (x := x) (y := y) (by omega) (by omega)
          have e2 := pixelAtI_eq hv2 (x := x) (y := y) (by omega) (by omega)
          have hl := pixT_len d1 (pixJ W p x y) p
          have e3 := equalIntsC (pixT d1 (pixJ W p x y) p) (pixT d2 (pixJ W p x y) p) (by omega)
          rw [chg_in _ _ _ _ _ _ _ (by omega) (by omega)] at e0
          refine Ev.step (f := fun k => (impl_RegionHas.f V (x : Int) (y : Int)).bind fun r => (impl_PixelAt.f W H p d1 (x : Int) (y : Int)).bind fun u => (impl_PixelAt.f W H p d2 (x : Int) (y : Int)).bind fun v => (laws_equalInts.f k u v).bind fun z => if (r == z) = true then some false else laws_FnChangedRegion.l1 k V (y : Int) (wrap64 ((x : Int) + 1)) W H p d1 W H p d2) (fun k => ?_) (ev_now e0 (ev_now e1 (ev_now e2 (ev_bind e3 (ev_neg (by simp) ?_)))))
          · simp only [laws_FnChangedRegion.l1]
            rw [if_pos (by omega)]
          · rw [w64n x (by omega)]
            exact hR')
        (by
          intro s _
          refine Ev.step (fun k => ?_) hR
          simp only [laws_FnChangedRegion.l1]
          rw [if_neg (by omega), w64n y (by omega)])
        W 0 () (by omega) trivial
      have inner' : Ev (fun k => laws_FnChangedRegion.l1 k V (y : Int) 0 W H p d1 W H p d2) R := inner
      refine Ev.step (fun k => ?_) inner'
      simp only [laws_FnChangedRegion.l0]
      rw [if_pos (by omega)])
    (by
      intro s _
      refine Ev.step (f := fun _ => some true) (fun k => ?_) (Ev.now _)
      simp only [laws_FnChangedRegion.l0]
      rw [if_neg (by omega)])
    H 0 () (by omega) trivial
  exact key
theorem FnChangedRegion : laws_FnChangedRegion.Pure := by
  intro code _ _ hw
  apply Ev.rounds
  unfold laws_FnChangedRegion.f
  by_cases c : (code.length : Int) > 1048576
  · exact ev_pos c (Ev.now true)
  refine ev_neg c ?_
  obtain ⟨w, h, p, d, w', h', p', d', hdl, hdl', hd⟩ := drawTwo code hw
  have hI := impl_ChangedRegion_eq w h p d w' h' p' d'
  have hI2 := impl_ChangedRegion_eq w' h' p' d' w h p d
  rw [changedV_swap] at hI2
  have hS := spec_ChangedRegion_ev w h p d w' h' p' d' (by omega) (by omega)
  have hlen := changedV_len w h p d w' h' p' d'
  have heq := equalRunsC (changedV w h p d w' h' p' d') (by omega)
  refine ev_bind hd (ev_now hI (ev_bind hS (ev_bind heq (ev_pos rfl (ev_now hI2 (ev_bind heq (ev_pos rfl ?_)))))))
  by_cases hz : changedV w h p d w' h' p' d' = []
  · rw [hz] at hS heq hI2 ⊢
    refine Ev.step (f := fun k => (spec_ChangedRegion.f k w h p d w' h' p' d').bind fun a => (laws_equalRuns.f k [] a).bind fun b => if b = true then ((impl_ChangedRegion.f w' h' p' d' w h p d).bind fun e => (laws_equalRuns.f k e []).bind fun z => some z) else some false) (fun k => ?_) (ev_bind hS (ev_bind heq (ev_pos rfl (ev_now hI2 (ev_bind heq (Ev.now _))))))
    simp only [laws_FnChangedRegion.j0]
    rw [if_pos (by simp)]
  · have hs : sameV w h p d w' h' p' d' = true := by
      by_cases c : sameV w h p d w' h' p' d' = true
      · exact c
      · exact absurd (by unfold changedV; rw [if_neg c]) hz
    have hV : changedV w h p d w' h' p' d' = runsL (gso (chg w h p d d') 256) := by unfold changedV; rw [if_pos hs]
    obtain ⟨h1, h2, rfl, rfl, rfl⟩ := (sameV_iff _ _ _ _ _ _ _ _).1 hs
    have hh := (validI_iff _ _ _ _).1 h1
    obtain ⟨W, rfl⟩ := Int.eq_ofNat_of_zero_le (show 0 ≤ w by omega)
    obtain ⟨H, rfl⟩ := Int.eq_ofNat_of_zero_le (show 0 ≤ h by omega)
    rw [hV] at hz ⊢
    refine Ev.step (fun k => ?_) (changed_loop W H p d d' h1 h2)
    simp only [laws_FnChangedRegion.j0]
    rw [if_neg (by simp; exact hz)]
end Go.Proofs.Ytbgohbinonkhfaa.Pure

/- The head of the translation reads as a plain cut. -/
namespace Go.Proofs.Ytbgohbinonkhfaa.Head
set_option maxRecDepth 100000
theorem wordsSigns_word (w r : List Char) (h : w.all (fun c => !(c == Char.ofNat 32)) = true) : wordsSigns (w ++ Char.ofNat 32 :: r) = w :: wordsSigns r := by
  induction w with
  | nil => rfl
  | cons c w ih =>
    simp only [List.all_cons, Bool.and_eq_true, Bool.not_eq_true', beq_eq_false_iff_ne, ne_eq] at h
    have h1 := ih (by simpa using h.2)
    rw [List.cons_append, wordsSigns.eq_3 c _ h.1, h1]
def w1 : List Char := [104, 97, 114, 110, 101, 115, 115].map Char.ofNat
def w2 : List Char := [51, 55, 55, 51, 100, 53, 51, 56, 50, 98, 53, 98, 101, 101, 49, 50, 100, 98, 57, 53, 100, 98, 101, 50, 51, 51, 101, 57, 100, 57, 52, 97, 99, 54, 53, 55, 97, 101, 56, 99, 55, 52, 99, 52, 48, 99, 57, 54, 54, 99, 100, 99, 48, 50, 56, 53, 54, 48, 100, 101, 100, 55, 52, 52].map Char.ofNat
def w3 : List Char := [99, 117, 116].map Char.ofNat
def w4 : List Char := [97, 116, 32, 108, 111, 111, 112, 46, 101, 120, 97, 109, 112, 108, 101, 47, 112, 105, 120, 101, 108, 119, 111, 114, 107, 115, 47, 108, 97, 119, 115, 46, 70, 110, 69, 120, 97, 99, 116, 67, 104, 97, 110, 103, 101, 100, 82, 101, 103, 105, 111, 110, 32, 108, 111, 111, 112, 46, 101, 120, 97, 109, 112, 108, 101, 47, 112, 105, 120, 101, 108, 119, 111, 114, 107, 115, 47, 108, 97, 119, 115, 46, 70, 110, 67, 104, 97, 110, 103, 101, 100, 82, 101, 103, 105, 111, 110, 32, 108, 111, 111, 112, 46, 101, 120, 97, 109, 112, 108, 101, 47, 112, 105, 120, 101, 108, 119, 111, 114, 107, 115, 47, 108, 97, 119, 115, 46, 70, 110, 69, 120, 97, 99, 116, 70, 108, 111, 111, 100, 82, 101, 103, 105, 111, 110, 32, 108, 111, 111, 112, 46, 101, 120, 97, 109, 112, 108, 101, 47, 112, 105, 120, 101, 108, 119, 111, 114, 107, 115, 47, 108, 97, 119, 115, 46, 70, 110, 70, 108, 111, 111, 100, 82, 101, 103, 105, 111, 110, 83, 97, 109, 101, 32, 108, 111, 111, 112, 46, 101, 120, 97, 109, 112, 108, 101, 47, 112, 105, 120, 101, 108, 119, 111, 114, 107, 115, 47, 108, 97, 119, 115, 46, 70, 110, 70, 108, 111, 111, 100, 82, 101, 103, 105, 111, 110, 32, 108, 111, 111, 112, 46, 101, 120, 97, 109, 112, 108, 101, 47, 112, 105, 120, 101, 108, 119, 111, 114, 107, 115, 47, 108, 97, 119, 115, 46, 70, 110, 69, 120, 97, 99, 116, 67, 104, 97, 110, 103, 101, 100, 66, 111, 120, 101, 115, 32, 108, 111, 111, 112, 46, 101, 120, 97, 109, 112, 108, 101, 47, 112, 105, 120, 101, 108, 119, 111, 114, 107, 115, 47, 108, 97, 119, 115, 46, 70, 110, 67, 104, 97, 110, 103, 101, 100, 66, 111, 120, 101, 115, 32, 108, 111, 111, 112, 46, 101, 120, 97, 109, 112, 108, 101, 47, 112, 105, 120, 101, 108, 119, 111, 114, 107, 115, 47, 108, 97, 119, 115, 46, 70, 110, 80, 97, 116, 99, 104, 73, 109, 97, 103, 101].map Char.ofNat
theorem signs0 : Try.prog.initOrder = String.ofList (w1 ++ Char.ofNat 32 :: (w2 ++ Char.ofNat 32 :: (w3 ++ Char.ofNat 32 :: w4))) := by kernel_rfl
theorem behind : behindMainWord (wordsSigns Try.prog.initOrder.toList) = w3 :: wordsSigns w4 := by
  rw [signs0, String.toList_ofList, wordsSigns_word w1 _ (by kernel_rfl), wordsSigns_word w2 _ (by kernel_rfl), wordsSigns_word w3 _ (by kernel_rfl)]
  unfold behindMainWord
  dsimp only
  rw [if_pos (by kernel_rfl)]
theorem strip_cut (R : List (List Char)) : stripLifts liftWords (w3 :: R) = ([], w3 :: R) := by kernel_rfl
theorem mayEnter_of (P : Program) (R : List (List Char)) (h : behindMainWord (wordsSigns P.initOrder.toList) = w3 :: R) (h1 : P.laysLater = false) (h2 : P.bearsReflect = false) (h3 : P.doorFits [] = true) : P.mayEnter = true := by
  unfold Program.mayEnter
  rw [h]
  dsimp only
  rw [strip_cut, h1, h2, h3]
  kernel_rfl
theorem liftsFinal_of (P : Program) (R : List (List Char)) (h : behindMainWord (wordsSigns P.initOrder.toList) = w3 :: R) : P.liftsFinal = false := by
  unfold Program.liftsFinal Program.headLifts
  rw [h]
  dsimp only
  rw [strip_cut]
  kernel_rfl
theorem make_of (P : Program) (R : List (List Char)) (h : behindMainWord (wordsSigns P.initOrder.toList) = w3 :: R) : P.make = some .cut := by
  unfold Program.make
  rw [h]
  kernel_rfl
theorem mayEnter : Try.prog.mayEnter = true := mayEnter_of _ _ behind (by kernel_rfl) (by kernel_rfl) (by kernel_rfl)
theorem liftsFinal : Try.prog.liftsFinal = false := liftsFinal_of _ _ behind
theorem make : Try.prog.make = some .cut := make_of _ _ behind
end Go.Proofs.Ytbgohbinonkhfaa.Head

-- PRINTED by print.py: the row of the law laws_FnChangedRegion, out of its Pure (the session's) and the printed walk. Not trusted: Lean checks it.
namespace Go.Proofs.Ytbgohbinonkhfaa.fnChangedRegion
open Go.ChangeShapes Go.WideShapes Go.ChangeAt Go.RowKit
open Go.ChangeMaps (open_string shut_string)
set_option linter.unusedVariables false
theorem own : ownKnob Try.prog.godebug = none := by kernel_rfl
theorem laidOut : laidOutB Try.prog = true := by kernel_rfl
def IsRow (k : IntKind) (w : World) (a : Option Addr) (len cap : Nat) (zs : List Int) : Prop :=
  (a = none ∧ len = 0 ∧ cap = 0 ∧ zs = []) ∨
  ∃ x, a = some x ∧ len ≤ cap ∧ cap ≤ maxLen ∧ zs.length = cap ∧ (∀ i, i < zs.length → w.cell? (x.add i) = some (.int k (zs.getD i 0))) ∧ ∀ n ∈ zs, (Lit.int k n).wf = true
set_option maxRecDepth 100000 in
theorem lifted (os : Os) (started : os.Started) (H : Type) (enc : TypeId × Value → H) :
    ReturnsInHanded {} Try.checked os 4 .any (Rows.fnChangedRegionSpec.pre6 enc Try.prog Try.f4 Rows.fnChangedRegionRow.domain false) (Rows.fnChangedRegionSpec.post enc Try.prog Try.f4 false true false false) := by
  refine returnsInHanded_of_change_sized (C := Try.checked) own started (by kernel_rfl) Try.func4
    (ChangeSpec.witness6 (enc := enc) (C := Try.checked) false ⟨#[], #[.slice none 0 0], []⟩ 8 (by kernel_rfl) (by kernel_rfl) (by kernel_rfl) (by kernel_rfl)) ?_
  intro W base args ds gs before hval0 hW hcnd hsz0 _
  have hsz : (DataW.weightsEach Try.prog (Try.f4.params.toList ++ Rows.fnChangedRegionSpec.plain.varTypes Try.prog) (ds ++ gs)).all (· ≤ reachBytes) = true := hsz0
  have hval : ∀ (j : Nat) t v, Try.f4.params[j]? = some t → args[j]? = some v → Value.okWide Try.prog W .any base t v := hval0
  have hW' := hW
  obtain ⟨p, q, hA0, hV, rfl, hfz, hnd⟩ := hW
  have hA : DataW.TrodAll enc Try.prog W 0 (fun _ => true) true Try.f4.params.toList args.toList ds p := hA0
  rw [Try.params4] at hA hval hsz
  obtain ⟨v0, vs0, d0, ds0, p0, q0, hargs, rfl, rfl, h0, r0⟩ := trodAll_cons hA
  obtain ⟨rfl, rfl, rfl⟩ := trodAll_nil r0
  obtain rfl : args = #[v0] := by cases args; simp_all
  obtain ⟨rfl, rfl⟩ := trodVars_none hV
  obtain ⟨a0, len0, cap0, rfl⟩ := okWide_slice Try.underlying35 (hval 0 35 v0 rfl rfl)
  have k0 := h0
  have lt0 : ∀ x ∈ p0, x.block < W.heap.size := by obtain ⟨m, hm⟩ := k0; exact DataW.trod_lt m _ _ _ hm
  obtain ⟨z0, w0⟩ : ∃ zs, IsRow .u8 W a0 len0 cap0 zs := by
    obtain ⟨fuel, hf⟩ := h0
    rcases open_ints Try.underlying35 Try.underlying5 (by kernel_rfl) hf with ⟨hcs, _⟩ | ⟨x, l, c, zs, hcs, _, hl, hm, hz, _, hcell, hwz⟩
    · simp [Value.cells] at hcs
      obtain ⟨rfl, rfl, rfl⟩ := hcs
      exact ⟨[], .inl ⟨rfl, rfl, rfl, rfl⟩⟩
    · simp [Value.cells] at hcs
      obtain ⟨rfl, rfl, rfl⟩ := hcs
      exact ⟨zs, .inr ⟨_, rfl, hl, hm, by simpa using hz, hcell, hwz⟩⟩
  have y0 : len0 * 1 ≤ 140737488351232 := Go.Proofs.YtbgohbinonkhfaaW.PrintWords.sized_ints hsz (j := 0) (t := 35) rfl rfl Try.underlying35 Try.underlying5 (by kernel_rfl) (by kernel_rfl) h0
  clear hA0 hval0 hsz0 hsz
  refine (Q.laws_FnChangedRegion.walk Pure.FnChangedRegion a0 len0 cap0 z0 W w0 y0).mono fun e W' ⟨he, bel⟩ => ?_
  subst he
  exact ⟨_, rfl, _, _, _, [], _, [], hW', trodAll_mk1 (shut_bool Try.underlying4 _), (trodAll_cons_mk (Below.trod laidOut (by kernel_rfl) (of_decide_eq_true (by kernel_rfl)) k0 bel lt0) trodAll_mk0), rfl, bel.frame _, fun h => by cases h⟩
set_option maxHeartbeats 4000000 in
theorem closed : joinedFacts Try.prog 4 Try.f4 Rows.fnChangedRegionSpec Rows.fnChangedRegionRow = true := by
  unfold joinedFacts
  rw [Head.mayEnter, Head.liftsFinal, Head.make]
  simp only [Bool.and_eq_true]
  repeat' apply And.intro
  all_goals first | exact True.intro | (as_aux_lemma => kernel_rfl)
theorem over : Rows.fnChangedRegionRow.holds Try.pinned (OpenSpec.ofChange Rows.fnChangedRegionSpec) :=
  OpenClaim.holds_of_wide 4 Try.f4 rfl rfl rfl rfl rfl rfl rfl ⟨rfl, rfl, rfl, rfl, rfl⟩ rfl rfl rfl rfl rfl (by kernel_rfl) Try.func4 closed
    (of_decide_eq_true (by kernel_rfl)) (by unfold Func.isWrapper; first | (rw [if_pos (by decide +kernel)]; kernel_rfl) | (rw [if_neg (by decide +kernel)]; exact ⟨rfl, rfl⟩))
    (fun os started H enc _ => lifted os started H enc)
theorem proved : Rows.FnChangedRegionSaid := over
#print axioms proved
end Go.Proofs.Ytbgohbinonkhfaa.fnChangedRegion
namespace Go.Proofs.Ytbgohbinonkhfaa
/-- The row, under a short name, for the claim. -/
theorem fnChangedRegion_holds : Rows.FnChangedRegionSaid := fnChangedRegion.proved
end Go.Proofs.Ytbgohbinonkhfaa
