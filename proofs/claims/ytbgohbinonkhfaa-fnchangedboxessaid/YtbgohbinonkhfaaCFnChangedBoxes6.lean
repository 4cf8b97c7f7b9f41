/- A part of the proof that the statement FnChangedBoxesSaid holds, under no condition of its own: Boxes have all changes: the law FnChangedBoxes over lists of numbers alone. -/
import Derived.Test.YtbgohbinonkhfaaCFnChangedBoxes5
import Derived.Test.YtbgohbinonkhfaaRows
import Derived.JoinedOf
import Derived.KernelRfl
import Derived.WalkKit
import Derived.ProofKit
import Derived.OpenShut
import Derived.ShutString
import Derived.ChangeOld
import Derived.Below
import Derived.SizedLaws
import Derived.Test.YtbgohbinonkhfaaCFnChangedBoxesW1
/- Boxes have all changes: the law FnChangedBoxes over lists of numbers alone. -/
namespace Go.Proofs.Ytbgohbinonkhfaa.Pure
open Go.RowKit Go.Proofs.Ytbgohbinonkhfaa.Q Go.Proofs.YtbgohbinonkhfaaW.PrintWords Go.Proofs.YtbgohbinonkhfaaW.PrintLast Go.Proofs.YtbgohbinonkhfaaW.PrintMore
set_option linter.unusedVariables false
set_option linter.unusedSimpArgs false

theorem equalBoxesC (l : List Box) (hl : l.length ≤ 1000000000000) : Ev (fun k => laws_equalBoxes.f k l l) true := by
  have h := ev_up l.length (fun k i (_ : Unit) => laws_equalBoxes.l0 k l l (i : Int)) (fun _ _ => True) (fun _ _ => true)
    (by
      intro i s hi _
      refine .inr ⟨(), fun k => ?_, trivial, rfl⟩
      simp only [laws_equalBoxes.l0]
      rw [if_pos (by omega), if_pos (by omega), if_pos (by omega), w64n i (by omega)]
      simp)
    (by
      intro s _
      refine Ev.step (f := fun _ => some true) (fun k => ?_) (ev_const rfl)
      simp only [laws_equalBoxes.l0]
      rw [if_neg (by omega)])
    l.length 0 () (by omega) trivial
  unfold laws_equalBoxes.f
  exact ev_pos rfl (by simpa using h)
theorem drawTwoB (code : List Int) (hw : ∀ x ∈ code, (Lit.int .u8 x).wf = true) : ∃ (w h p : Int) (d : List Int) (w' h' p' : Int) (d' : List Int), d.length ≤ 1024 ∧ d'.length ≤ 1024 ∧ Ev (fun k => spec_DrawChangedBoxes.f k code) (w, h, p, d, w', h', p', d') := by
  obtain ⟨b, hb, hB⟩ := newReader_at code (code_bytes code hw)
  obtain ⟨w, h, p, d, w', h', p', d', q, hd, hd', _, _, he⟩ := twoImages_ev b 0 hB (by omega) (by omega)
  refine ⟨w, h, p, d, w', h', p', d', hd, hd', ?_⟩
  unfold spec_DrawChangedBoxes.f
  exact ev_now hb (ev_bind he (Ev.now _))
def holdsB (l : List Run) (q : Nat) : Bool := inBox (boundsR l).1 (boundsR l).2.1 (boundsR l).2.2.1 (boundsR l).2.2.2 (q % 16) (q / 16)
theorem boxes_loop (g : Nat → Bool) : Ev (fun k => laws_FnChangedBoxes.l0 k ((partsS 256 0 g).map boxB) (runsL g) (runsL g) 0) true := by
  obtain ⟨L, hL⟩ : ∃ L, L = partsS 256 0 g := ⟨_, rfl⟩
  have hlen : L.length ≤ 256 := by rw [hL]; exact partsS_len 256 0 g
  have hpart : ∀ r ∈ L, validR r = true ∧ r ≠ [] ∧ ∃ q, q < 256 ∧ gridF r q = true ∧ g q = true := by
    intro r hr
    rw [hL] at hr
    obtain ⟨f, hf⟩ := partsS_each 256 0 g r hr
    exact ⟨by rw [hf]; exact runs_valid f, partsS_ne 256 0 g (by omega) r hr, part_some 256 0 g (by omega) r hr⟩
  rw [← hL]
  have key := ev_up2 L.length (fun k i (s : List Run) => laws_FnChangedBoxes.l0 k (L.map boxB) (runsL g) s (i : Int)) (fun i s => s = runsL (fun q => g q && !((L.take i).any fun r => holdsB r q))) (fun _ _ => true)
    (by
      intro i s hi hs
      right
      have hp := hpart L[i] (List.getElem_mem hi)
      have hb := bound_box L[i] hp.1 hp.2.1
      obtain ⟨q0, hq0, hq1, hq2⟩ := hp.2.2
      have hrd : rd_T60 (L.map boxB) (i : Int) = boxB L[i] := by
        rw [rdBox (L.map boxB) i (by rw [List.length_map]; exact hi), List.getElem_map]
      have hR : boxRuns (boundsR L[i]).1 (boundsR L[i]).2.1 (boundsR L[i]).2.2.1 (boundsR L[i]).2.2.2 (boundsR L[i]).2.2.2.toNat = runsL (gso (inBox (boundsR L[i]).1 (boundsR L[i]).2.1 (boundsR L[i]).2.2.1 (boundsR L[i]).2.2.2) 256) := (runs_box _ _ _ _ hb.1).symm
      obtain ⟨B, hB⟩ : ∃ B, B = gso (inBox (boundsR L[i]).1 (boundsR L[i]).2.1 (boundsR L[i]).2.2.1 (boundsR L[i]).2.2.2) 256 := ⟨_, rfl⟩
      have hBq : ∀ q, q < 256 → B q = holdsB L[i] q := by
        intro q hq
        rw [hB, gso_at _ _ hq]
        rfl
      rw [← hB] at hR
      have hBox : impl_BoxRegion.f (boundsR L[i]).1 (boundsR L[i]).2.1 (boundsR L[i]).2.2.1 (boundsR L[i]).2.2.2 = some (runsL B, true) := by
        rw [impl_BoxRegion_eq]
        unfold boxV
        rw [if_pos hb.1, hR]
      have hC : ∀ (f : Nat → Bool) (m : Int), 0 ≤ m → m ≤ 3 → laws_combined.f (runsL f) (runsL B) m = some (runsL (fun q => combB m (f q) (B q))) := by
        intro f m m0 m1
        unfold laws_combined.f
        rw [impl_CombineRegions_eq]
        simp only [Option.bind_some]
        unfold combV
        rw [runs_valid, runs_valid, decide_eq_true (show 0 ≤ m ∧ m ≤ 3 from ⟨m0, m1⟩), if_pos (by simp)]
        congr 1
        refine runsL_congr (fun q hq => ?_)
        rw [comb_at _ _ _ _ hq, grid_runs _ _ hq, grid_runs _ _ hq]
      have hne : runsL (fun q => combB 1 (g q) (B q)) ≠ [] := runsL_ne _ q0 hq0 (by
        show combB 1 (g q0) (B q0) = true
        rw [hq2, hBq q0 hq0, show holdsB L[i] q0 = true from hb.2 q0 hq1]
        rfl)
      refine ⟨runsL (fun q => g q && !((L.take (i + 1)).any fun r => holdsB r q)), fun R hRR => ?_, rfl, rfl⟩
      have hs2 : runsL (fun q => combB 2 (g q && !((L.take i).any fun r => holdsB r q)) (B q)) = runsL (fun q => g q && !((L.take (i + 1)).any fun r => holdsB r q)) := by
        refine runsL_congr (fun q hq => ?_)
        rw [hBq q hq, List.take_succ_eq_append_getElem hi, List.any_append, List.any_cons, List.any_nil]
        show ((g q && !((L.take i).any fun r => holdsB r q)) && !(holdsB L[i] q)) = _
        cases g q <;> cases ((L.take i).any fun r => holdsB r q) <;> cases holdsB L[i] q <;> rfl
      refine Ev.step (f := fun k => (impl_BoxRegion.f (boundsR L[i]).1 (boundsR L[i]).2.1 (boundsR L[i]).2.2.1 (boundsR L[i]).2.2.2).bind fun bt => if bt.2 = true then ((laws_combined.f (runsL g) bt.1 1).bind fun t => if (t.length : Int) = 0 then some false else ((laws_combined.f s bt.1 2).bind fun u => laws_FnChangedBoxes.l0 k (L.map boxB) (runsL g) u (wrap64 ((i : Int) + 1)))) else some false) (fun k => ?_) (ev_now hBox (ev_pos rfl (ev_now (hC g 1 (by omega) (by omega)) (ev_neg (by
          intro e
          exact hne (List.length_eq_zero_iff.1 (by omega))) (ev_now (by rw [hs]; exact hC _ 2 (by omega) (by omega)) ?_)))))
      · simp only [laws_FnChangedBoxes.l0]
        rw [if_pos (by rw [List.length_map]; omega), if_pos (by omega), hrd]
        rfl
      · rw [hs2, w64n i (by omega)]
        exact hRR)
    (by
      intro s hs
      have hnil : s = [] := by
        rw [hs]
        refine runsL_nil _ (fun q hq => ?_)
        rw [List.take_length]
        cases hg : g q with
        | false => rfl
        | true =>
          obtain ⟨r, hr, hrq⟩ := part_cover 256 0 g (by omega) (fun z hz => by omega) q hq hg
          rw [← hL] at hr
          have hp := hpart r hr
          have : (L.any fun r => holdsB r q) = true := List.any_eq_true.2 ⟨r, hr, (bound_box r hp.1 hp.2.1).2 q hrq⟩
          rw [this]
          rfl
      refine Ev.step (f := fun _ => some ((s.length : Int) == 0)) (fun k => ?_) (ev_const (by rw [hnil]; rfl))
      simp only [laws_FnChangedBoxes.l0]
      rw [if_neg (by rw [List.length_map]; omega)])
    L.length 0 (runsL g) (by omega) (by
      refine runsL_congr (fun q _ => ?_)
      simp)
  exact key
theorem FnChangedBoxes : laws_FnChangedBoxes.Pure := by
  intro code _ _ hw
  apply Ev.rounds
  unfold laws_FnChangedBoxes.f
  by_cases c : (code.length : Int) > 1048576
  · exact ev_pos c (Ev.now true)
  refine ev_neg c ?_
  obtain ⟨w, h, p, d, w', h', p', d', hdl, hdl', hd⟩ := drawTwoB code hw
  have hI := impl_ChangedBoxes_eq w h p d w' h' p' d'
  have hS := spec_ChangedBoxes_ev w h p d w' h' p' d' (by omega) (by omega)
  have hlen := chBoxes_len w h p d w' h' p' d'
  have heq := equalBoxesC (chBoxes w h p d w' h' p' d') (by omega)
  refine ev_bind hd (ev_now hI (ev_bind hS (ev_bind heq (ev_pos rfl ?_))))
  by_cases hz : chBoxes w h p d w' h' p' d' = []
  · rw [hz] at hS heq ⊢
    refine Ev.step (f := fun k => (spec_ChangedBoxes.f k w h p d w' h' p' d').bind fun a => (laws_equalBoxes.f k [] a).bind fun b => some b) (fun k => ?_) (ev_bind hS (ev_bind heq (Ev.now _)))
    simp only [laws_FnChangedBoxes.j0]
    rw [if_pos (by simp)]
  · have hs : sameV w h p d w' h' p' d' = true := by
      by_cases c : sameV w h p d w' h' p' d' = true
      · exact c
      · exact absurd (by unfold chBoxes; rw [if_neg c]) hz
    have hV : changedV w h p d w' h' p' d' = runsL (gso (chg w h p d d') 256) := by unfold changedV; rw [if_pos hs]
    have hB : chBoxes w h p d w' h' p' d' = (partsS 256 0 (gso (chg w h p d d') 256)).map boxB := by unfold chBoxes; rw [if_pos hs]
    have hR := impl_ChangedRegion_eq w h p d w' h' p' d'
    rw [hV] at hR
    rw [hB] at hz ⊢
    refine Ev.step (f := fun k => (impl_ChangedRegion.f w h p d w' h' p' d').bind fun a => laws_FnChangedBoxes.l0 k ((partsS 256 0 (gso (chg w h p d d') 256)).map boxB) a a 0) (fun k => ?_) (ev_now hR (boxes_loop (gso (chg w h p d d') 256)))
    simp only [laws_FnChangedBoxes.j0]
    rw [if_neg (by simpa using hz)]
end Go.Proofs.Ytbgohbinonkhfaa.Pure

/- The head of the translation reads as a plain cut. -/
namespace Go.Proofs.Ytbgohbinonkhfaa.Head
set_option maxRecDepth 100000
theorem wordsSigns_word (w r : List Char) (h : w.all (fun c => !(c == Char.ofNat 32)) = true) : wordsSigns (w ++ Char.ofNat 32 :: r) = w :: wordsSigns r := by
  induction w with
  | nil => rfl
  | cons c w ih =>
    simp only [List.all_cons, Bool.and_eq_true, Bool.not_eq_true', beq_eq_false_iff_ne, ne_eq] at h
    have h1 := ih (by simpa using h.2)
    rw [List.cons_append, wordsSigns.eq_3 c _ h.1, h1]
def w1 : List Char := [104, 97, 114, 110, 101, 115, 115].map Char.ofNat
def w2 : List Char := [51, 55, 55, 51, 100, 53, 51, 56, 50, 98, 53, 98, 101, 101, 49, 50, 100, 98, 57, 53, 100, 98, 101, 50, 51, 51, 101, 57, 100, 57, 52, 97, 99, 54, 53, 55, 97, 101, 56, 99, 55, 52, 99, 52, 48, 99, 57, 54, 54, 99, 100, 99, 48, 50, 56, 53, 54, 48, 100, 101, 100, 55, 52, 52].map Char.ofNat
def w3 : List Char := [99, 117, 116].map Char.ofNat
def w4 : List Char := [97, 116, 32, 108, 111, 111, 112, 46, 101, 120, 97, 109, 112, 108, 101, 47, 112, 105, 120, 101, 108, 119, 111, 114, 107, 115, 47, 108, 97, 119, 115, 46, 70, 110, 69, 120, 97, 99, 116, 67, 104, 97, 110, 103, 101, 100, 82, 101, 103, 105, 111, 110, 32, 108, 111, 111, 112, 46, 101, 120, 97, 109, 112, 108, 101, 47, 112, 105, 120, 101, 108, 119, 111, 114, 107, 115, 47, 108, 97, 119, 115, 46, 70, 110, 67, 104, 97, 110, 103, 101, 100, 82, 101, 103, 105, 111, 110, 32, 108, 111, 111, 112, 46, 101, 120, 97, 109, 112, 108, 101, 47, 112, 105, 120, 101, 108, 119, 111, 114, 107, 115, 47, 108, 97, 119, 115, 46, 70, 110, 69, 120, 97, 99, 116, 70, 108, 111, 111, 100, 82, 101, 103, 105, 111, 110, 32, 108, 111, 111, 112, 46, 101, 120, 97, 109, 112, 108, 101, 47, 112, 105, 120, 101, 108, 119, 111, 114, 107, 115, 47, 108, 97, 119, 115, 46, 70, 110, 70, 108, 111, 111, 100, 82, 101, 103, 105, 111, 110, 83, 97, 109, 101, 32, 108, 111, 111, 112, 46, 101, 120, 97, 109, 112, 108, 101, 47, 112, 105, 120, 101, 108, 119, 111, 114, 107, 115, 47, 108, 97, 119, 115, 46, 70, 110, 70, 108, 111, 111, 100, 82, 101, 103, 105, 111, 110, 32, 108, 111, 111, 112, 46, 101, 120, 97, 109, 112, 108, 101, 47, 112, 105, 120, 101, 108, 119, 111, 114, 107, 115, 47, 108, 97, 119, 115, 46, 70, 110, 69, 120, 97, 99, 116, 67, 104, 97, 110, 103, 101, 100, 66, 111, 120, 101, 115, 32, 108, 111, 111, 112, 46, 101, 120, 97, 109, 112, 108, 101, 47, 112, 105, 120, 101, 108, 119, 111, 114, 107, 115, 47, 108, 97, 119, 115, 46, 70, 110, 67, 104, 97, 110, 103, 101, 100, 66, 111, 120, 101, 115, 32, 108, 111, 111, 112, 46, 101, 120, 97, 109, 112, 108, 101, 47, 112, 105, 120, 101, 108, 119, 111, 114, 107, 115, 47, 108, 97, 119, 115, 46, 70, 110, 80, 97, 116, 99, 104, 73, 109, 97, 103, 101].map Char.ofNat
theorem signs0 : Try.prog.initOrder = String.ofList (w1 ++ Char.ofNat 32 :: (w2 ++ Char.ofNat 32 :: (w3 ++ Char.ofNat 32 :: w4))) := by kernel_rfl
theorem behind : behindMainWord (wordsSigns Try.prog.initOrder.toList) = w3 :: wordsSigns w4 := by
  rw [signs0, String.toList_ofList, wordsSigns_word w1 _ (by kernel_rfl), wordsSigns_word w2 _ (by kernel_rfl), wordsSigns_word w3 _ (by kernel_rfl)]
  unfold behindMainWord
  dsimp only
  rw [if_pos (by kernel_rfl)]
theorem strip_cut (R : List (List Char)) : stripLifts liftWords (w3 :: R) = ([], w3 :: R) := by kernel_rfl
theorem mayEnter_of (P : Program) (R : List (List Char)) (h : behindMainWord (wordsSigns P.initOrder.toList) = w3 :: R) (h1 : P.laysLater = false) (h2 : P.bearsReflect = false) (h3 : P.doorFits [] = true) : P.mayEnter = true := by
  unfold Program.mayEnter
  rw [h]
  dsimp only
  rw [strip_cut, h1, h2, h3]
  kernel_rfl
theorem liftsFinal_of (P : Program) (R : List (List Char)) (h : behindMainWord (wordsSigns P.initOrder.toList) = w3 :: R) : P.liftsFinal = false := by
  unfold Program.liftsFinal Program.headLifts
  rw [h]
  dsimp only
  rw [strip_cut]
  kernel_rfl
theorem make_of (P : Program) (R : List (List Char)) (h : behindMainWord (wordsSigns P.initOrder.toList) = w3 :: R) : P.make = some .cut := by
  unfold Program.make
  rw [h]
  kernel_rfl
theorem mayEnter : Try.prog.mayEnter = true := mayEnter_of _ _ behind (by kernel_rfl) (by kernel_rfl) (by kernel_rfl)
theorem liftsFinal : Try.prog.liftsFinal = false := liftsFinal_of _ _ behind
theorem make : Try.prog.make = some .cut := make_of _ _ behind
end Go.Proofs.Ytbgohbinonkhfaa.Head

-- PRINTED by print.py: the row of the law laws_FnChangedBoxes, out of its Pure (the session's) and the printed walk. Not trusted: Lean checks it.
namespace Go.Proofs.Ytbgohbinonkhfaa.fnChangedBoxes
open Go.ChangeShapes Go.WideShapes Go.ChangeAt Go.RowKit
open Go.ChangeMaps (open_string shut_string)
set_option linter.unusedVariables false
theorem own : ownKnob Try.prog.godebug = none := by kernel_rfl
theorem laidOut : laidOutB Try.prog = true := by kernel_rfl
def IsRow (k : IntKind) (w : World) (a : Option Addr) (len cap : Nat) (zs : List Int) : Prop :=
  (a = none ∧ len = 0 ∧ cap = 0 ∧ zs = []) ∨
  ∃ x, a = some x ∧ len ≤ cap ∧ cap ≤ maxLen ∧ zs.length = cap ∧ (∀ i, i < zs.length → w.cell? (x.add i) = some (.int k (zs.getD i 0))) ∧ ∀ n ∈ zs, (Lit.int k n).wf = true
set_option maxRecDepth 100000 in
theorem lifted (os : Os) (started : os.Started) (H : Type) (enc : TypeId × Value → H) :
    ReturnsInHanded {} Try.checked os 9 .any (Rows.fnChangedBoxesSpec.pre6 enc Try.prog Try.f9 Rows.fnChangedBoxesRow.domain false) (Rows.fnChangedBoxesSpec.post enc Try.prog Try.f9 false true false false) := by
  refine returnsInHanded_of_change_sized (C := Try.checked) own started (by kernel_rfl) Try.func9
    (ChangeSpec.witness6 (enc := enc) (C := Try.checked) false ⟨#[], #[.slice none 0 0], []⟩ 8 (by kernel_rfl) (by kernel_rfl) (by kernel_rfl) (by kernel_rfl)) ?_
  intro W base args ds gs before hval0 hW hcnd hsz0 _
  have hsz : (DataW.weightsEach Try.prog (Try.f9.params.toList ++ Rows.fnChangedBoxesSpec.plain.varTypes Try.prog) (ds ++ gs)).all (· ≤ reachBytes) = true := hsz0
  have hval : ∀ (j : Nat) t v, Try.f9.params[j]? = some t → args[j]? = some v → Value.okWide Try.prog W .any base t v := hval0
  have hW' := hW
  obtain ⟨p, q, hA0, hV, rfl, hfz, hnd⟩ := hW
  have hA : DataW.TrodAll enc Try.prog W 0 (fun _ => true) true Try.f9.params.toList args.toList ds p := hA0
  rw [Try.params9] at hA hval hsz
  obtain ⟨v0, vs0, d0, ds0, p0, q0, hargs, rfl, rfl, h0, r0⟩ := trodAll_cons hA
  obtain ⟨rfl, rfl, rfl⟩ := trodAll_nil r0
  obtain rfl : args = #[v0] := by cases args; simp_all
  obtain ⟨rfl, rfl⟩ := trodVars_none hV
  obtain ⟨a0, len0, cap0, rfl⟩ := okWide_slice Try.underlying35 (hval 0 35 v0 rfl rfl)
  have k0 := h0
  have lt0 : ∀ x ∈ p0, x.block < W.heap.size := by obtain ⟨m, hm⟩ := k0; exact DataW.trod_lt m _ _ _ hm
  obtain ⟨z0, w0⟩ : ∃ zs, IsRow .u8 W a0 len0 cap0 zs := by
    obtain ⟨fuel, hf⟩ := h0
    rcases open_ints Try.underlying35 Try.underlying5 (by kernel_rfl) hf with ⟨hcs, _⟩ | ⟨x, l, c, zs, hcs, _, hl, hm, hz, _, hcell, hwz⟩
    · simp [Value.cells] at hcs
      obtain ⟨rfl, rfl, rfl⟩ := hcs
      exact ⟨[], .inl ⟨rfl, rfl, rfl, rfl⟩⟩
    · simp [Value.cells] at hcs
      obtain ⟨rfl, rfl, rfl⟩ := hcs
      exact ⟨zs, .inr ⟨_, rfl, hl, hm, by simpa using hz, hcell, hwz⟩⟩
  have y0 : len0 * 1 ≤ 140737488351232 := Go.Proofs.YtbgohbinonkhfaaW.PrintWords.sized_ints hsz (j := 0) (t := 35) rfl rfl Try.underlying35 Try.underlying5 (by kernel_rfl) (by kernel_rfl) h0
  clear hA0 hval0 hsz0 hsz
  refine (Q.laws_FnChangedBoxes.walk Pure.FnChangedBoxes a0 len0 cap0 z0 W w0 y0).mono fun e W' ⟨he, bel⟩ => ?_
  subst he
  exact ⟨_, rfl, _, _, _, [], _, [], hW', trodAll_mk1 (shut_bool Try.underlying4 _), (trodAll_cons_mk (Below.trod laidOut (by kernel_rfl) (of_decide_eq_true (by kernel_rfl)) k0 bel lt0) trodAll_mk0), rfl, bel.frame _, fun h => by cases h⟩
set_option maxHeartbeats 4000000 in
theorem closed : joinedFacts Try.prog 9 Try.f9 Rows.fnChangedBoxesSpec Rows.fnChangedBoxesRow = true := by
  unfold joinedFacts
  rw [Head.mayEnter, Head.liftsFinal, Head.make]
  simp only [Bool.and_eq_true]
  repeat' apply And.intro
  all_goals first | exact True.intro | (as_aux_lemma => kernel_rfl)
theorem over : Rows.fnChangedBoxesRow.holds Try.pinned (OpenSpec.ofChange Rows.fnChangedBoxesSpec) :=
  OpenClaim.holds_of_wide 9 Try.f9 rfl rfl rfl rfl rfl rfl rfl ⟨rfl, rfl, rfl, rfl, rfl⟩ rfl rfl rfl rfl rfl (by kernel_rfl) Try.func9 closed
    (of_decide_eq_true (by kernel_rfl)) (by unfold Func.isWrapper; first | (rw [if_pos (by decide +kernel)]; kernel_rfl) | (rw [if_neg (by decide +kernel)]; exact ⟨rfl, rfl⟩))
    (fun os started H enc _ => lifted os started H enc)
theorem proved : Rows.FnChangedBoxesSaid := over
#print axioms proved
end Go.Proofs.Ytbgohbinonkhfaa.fnChangedBoxes
namespace Go.Proofs.Ytbgohbinonkhfaa
/-- The row, under a short name, for the claim. -/
theorem fnChangedBoxes_holds : Rows.FnChangedBoxesSaid := fnChangedBoxes.proved
end Go.Proofs.Ytbgohbinonkhfaa
