/- A part of the proof that the statement FnExactChangedRegionSaid holds, under no condition of its own: The program's ChangedRegion and the reference's return the same, and what is returned is held by nobody else: over lists of numbers alone. -/
import Derived.Test.YtbgohbinonkhfaaCFnExactChangedRegion2
import Derived.Test.YtbgohbinonkhfaaCFnExactChangedRegion1
import Derived.Test.YtbgohbinonkhfaaCFnExactChangedRegion3
import Derived.Test.YtbgohbinonkhfaaRows
import Derived.JoinedOf
import Derived.KernelRfl
import Derived.WalkKit
import Derived.ProofKit
import Derived.OpenShut
import Derived.ShutString
import Derived.ChangeOld
import Derived.Below
import Derived.SizedLaws
import Derived.Carry
/- Copies of an image: they are the image; marks on an image. -/
namespace Go.Proofs.Ytbgohbinonkhfaa.Pure
open Go.RowKit Go.Proofs.Ytbgohbinonkhfaa.Q Go.Proofs.YtbgohbinonkhfaaW.PrintWords Go.Proofs.YtbgohbinonkhfaaW.PrintLast Go.Proofs.YtbgohbinonkhfaaW.PrintMore
set_option linter.unusedVariables false
set_option linter.unusedSimpArgs false

theorem toIntS_ev (l : List Int) (hl : l.length ≤ 2000000) : Ev (fun k => laws_toIntS.f k l) l := by
  have key := ev_up l.length (fun k i s => laws_toIntS.l0 k l s (i : Int)) (fun i s => s.length = l.length ∧ s.take i = l.take i) (fun i s => l)
    (by
      intro i s hi hs
      refine .inr ⟨s.set i l[i], fun k => ?_, ⟨by simpa using hs.1, ?_⟩, rfl⟩
      · simp only [laws_toIntS.l0]
        rw [if_pos (by omega), if_pos (by omega), rd_nat l i hi, if_pos (by omega), w64n i (by omega), Int.toNat_natCast]
      · rw [take_set s i _ (by omega), hs.2, List.take_succ_eq_append_getElem hi])
    (by
      intro s hs
      refine Ev.step (f := fun _ => some s) (fun k => ?_) (ev_const ?_)
      · simp only [laws_toIntS.l0]
        rw [if_neg (by omega)]
      · rw [← List.take_length (l := s), hs.1, hs.2, List.take_length])
    l.length 0 (List.replicate l.length 0) (by omega) ⟨by simp, by simp⟩
  unfold laws_toIntS.f
  refine Ev.congr (fun k => ?_) key
  rw [if_pos (by omega), if_pos (by omega)]
  simp
theorem eqIntS_ev (l : List Int) (hl : l.length ≤ 1000000000000) : Ev (fun k => laws_eqIntS.f k l l) true := by
  have key := ev_up l.length (fun k i (_ : Unit) => laws_eqIntS.l0 k l l (i : Int)) (fun _ _ => True) (fun _ _ => true)
    (by
      intro i s hi _
      refine .inr ⟨(), fun k => ?_, trivial, rfl⟩
      simp only [laws_eqIntS.l0]
      rw [if_pos (by omega), if_pos (by omega), if_pos (by omega), if_pos trivial, w64n i (by omega)])
    (by
      intro s _
      refine Ev.step (f := fun _ => some true) (fun k => ?_) (Ev.now true)
      simp only [laws_eqIntS.l0]
      rw [if_neg (by omega)])
    l.length 0 () (by omega) trivial
  unfold laws_eqIntS.f
  exact ev_pos rfl (by simpa using key)
theorem szIntS_eq (l : List Int) (n : Int) (h0 : 0 ≤ n) (h1 : n ≤ 1048576) (hl : l.length ≤ 9223372036854775807) :
    (l.length ≤ 1048576 ∧ n - (l.length : Int) ≥ 0 ∧ laws_szIntS.f l n = some (n - (l.length : Int))) ∨ laws_szIntS.f l n = some (-1) := by
  unfold laws_szIntS.f
  by_cases c : (l.length : Int) ≤ n
  · left
    rw [w64 (by omega) (by omega), if_neg (by omega)]
    exact ⟨by omega, by omega, rfl⟩
  · right
    rw [w64 (by omega) (by omega), if_pos (by omega)]
theorem markIntS_ev (l : List Int) (n : Int) (hl : l.length ≤ 1000000000) (h0 : 0 ≤ n) (h1 : n ≤ 1000000000000) : ∃ l' : List Int, l'.length = l.length ∧ Ev (fun k => laws_markIntS.f k l n) (n + (l.length : Int), l') := by
  have key := ev_up l.length (fun k i (s : List Int) => laws_markIntS.l0 k s (n + (i : Int)) (i : Int)) (fun i s => s.length = l.length ∧ s.take i = (List.range i).map (fun j => n + ((j : Nat) : Int))) (fun _ _ => (n + (l.length : Int), (List.range l.length).map (fun j => n + ((j : Nat) : Int))))
    (by
      intro i s hi hs
      refine .inr ⟨s.set i (n + (i : Int)), fun k => ?_, ⟨by simpa using hs.1, by rw [take_set s i _ (by omega), hs.2, List.range_succ, List.map_append]; rfl⟩, rfl⟩
      simp only [laws_markIntS.l0]
      rw [if_pos (by omega), if_pos (by omega), w64n i (by omega), w64 (x := n + (i : Int) + 1) (by omega) (by omega), Int.toNat_natCast, show n + (i : Int) + 1 = n + ((i + 1 : Nat) : Int) by omega])
    (by
      intro s hs
      refine Ev.step (f := fun _ => some (n + (l.length : Int), s)) (fun k => ?_) (ev_const ?_)
      · simp only [laws_markIntS.l0]
        rw [if_neg (by omega)]
      · rw [← hs.2, ← hs.1, List.take_length])
    l.length 0 l (by omega) ⟨rfl, by simp⟩
  refine ⟨(List.range l.length).map (fun j => n + ((j : Nat) : Int)), by simp, ?_⟩
  unfold laws_markIntS.f
  simpa using key
theorem szImage_eq (w h p : Int) (d : List Int) (n : Int) (h0 : 0 ≤ n) (h1 : n ≤ 1048576) (hl : d.length ≤ 9223372036854775807) :
    (d.length ≤ 1048576 ∧ n - (d.length : Int) ≥ 0 ∧ laws_szImage.f w h p d n = some (n - (d.length : Int))) ∨ laws_szImage.f w h p d n = some (-1) := by
  unfold laws_szImage.f
  rcases szIntS_eq d n h0 h1 hl with ⟨a, b, c⟩ | c
  · left
    rw [c]
    simp only [Option.bind_some]
    rw [if_neg (by omega)]
    exact ⟨a, b, rfl⟩
  · right
    rw [c]
    simp only [Option.bind_some]
    rw [if_pos (by omega)]
theorem toImage_ev (w h p : Int) (d : List Int) (hl : d.length ≤ 2000000) : Ev (fun k => laws_toImage.f k w h p d) (w, h, p, d) := by
  unfold laws_toImage.f
  exact ev_bind (toIntS_ev d hl) (Ev.now _)
theorem eqImage_ev (w h p : Int) (d : List Int) (hl : d.length ≤ 1000000000000) : Ev (fun k => laws_eqImage.f k w h p d w h p d) true := by
  unfold laws_eqImage.f
  exact ev_pos rfl (ev_pos rfl (ev_pos rfl (ev_bind (eqIntS_ev d hl) (ev_pos rfl (Ev.now _)))))
theorem markImage_ev (w h p : Int) (d : List Int) (n : Int) (hl : d.length ≤ 1000000000) (h0 : 0 ≤ n) (h1 : n ≤ 1000000000000) : ∃ d' : List Int, d'.length = d.length ∧ Ev (fun k => laws_markImage.f k w h p d n) (n + (d.length : Int), d') := by
  obtain ⟨d', e, hd⟩ := markIntS_ev d n hl h0 h1
  refine ⟨d', e, ?_⟩
  unfold laws_markImage.f
  exact ev_bind hd (Ev.now _)
end Go.Proofs.Ytbgohbinonkhfaa.Pure

/- Copies of runs: they are the runs. -/
namespace Go.Proofs.Ytbgohbinonkhfaa.Pure
open Go.RowKit Go.Proofs.Ytbgohbinonkhfaa.Q Go.Proofs.YtbgohbinonkhfaaW.PrintWords Go.Proofs.YtbgohbinonkhfaaW.PrintLast Go.Proofs.YtbgohbinonkhfaaW.PrintMore
set_option linter.unusedVariables false
set_option linter.unusedSimpArgs false

theorem eqRunS_refl (l : List Run) (hl : l.length ≤ 1000000000000) (k : Nat) (hk : l.length < k) : laws_eqRunS.f k l l = some true := by
  have h := loop_up 0 l.length (fun k i (_ : Unit) => laws_eqRunS.l0 k l l (i : Int)) (fun _ _ => True) (fun _ _ => true)
    (by
      intro i s k hi _ _
      refine .inr ⟨(), ?_, trivial, rfl⟩
      simp only [laws_eqRunS.l0]
      rw [if_pos (by omega), if_pos (by omega), if_pos (by omega), w64n i (by omega)]
      simp [laws_eqRun.f])
    (by
      intro s k _ _
      simp only [laws_eqRunS.l0]
      rw [if_neg (by omega)])
    l.length 0 () k (by omega) trivial (by omega)
  unfold laws_eqRunS.f
  rw [if_pos rfl]
  simpa using h
end Go.Proofs.Ytbgohbinonkhfaa.Pure

/- Marks on runs: what is written into a list's runs, and read again. -/
namespace Go.Proofs.Ytbgohbinonkhfaa.Pure
open Go.RowKit Go.Proofs.Ytbgohbinonkhfaa.Q Go.Proofs.YtbgohbinonkhfaaW.PrintWords Go.Proofs.YtbgohbinonkhfaaW.PrintLast Go.Proofs.YtbgohbinonkhfaaW.PrintMore
set_option linter.unusedVariables false
set_option linter.unusedSimpArgs false

/-- run i of a list that has been marked from n on -/
def markOne (n : Int) (i : Nat) : Run := ⟨n + 3 * (i : Int), n + 3 * (i : Int) + 1, n + 3 * (i : Int) + 1 + 1⟩
def marked (m : Nat) (n : Int) : List Run := (List.range m).map (markOne n)
theorem marked_length (m : Nat) (n : Int) : (marked m n).length = m := by simp [marked]
theorem marked_succ (m : Nat) (n : Int) : marked (m + 1) n = marked m n ++ [markOne n m] := by simp [marked, List.range_succ]
theorem marked_get (m : Nat) (n : Int) (i : Nat) (h : i < (marked m n).length) : (marked m n)[i] = markOne n i := by simp [marked]
theorem markRunS_ev (l : List Run) (n : Int) (hl : l.length ≤ 1000000000) (h0 : 0 ≤ n) (h1 : n ≤ 1000000000000) : Ev (fun k => laws_markRunS.f k l n) (n + 3 * (l.length : Int), marked l.length n) := by
  have key := ev_up l.length (fun k i (s : List Run) => laws_markRunS.l0 k s (n + 3 * (i : Int)) (i : Int)) (fun i s => s.length = l.length ∧ s.take i = marked i n) (fun _ _ => (n + 3 * (l.length : Int), marked l.length n))
    (by
      intro i s hi hs
      right
      have hi' : i < s.length := by omega
      refine ⟨s.set i (markOne n i), fun k => ?_, ⟨by rw [List.length_set]; exact hs.1, by rw [take_set s i _ hi', hs.2, marked_succ]⟩, rfl⟩
      simp only [laws_markRunS.l0]
      have r1 : ∀ c : Run, rd_T47 (s.set i c) (i : Int) = c := by
        intro c
        rw [rdRun (s.set i c) i (by rw [List.length_set]; omega), List.getElem_set_self]
      rw [if_pos (by omega), if_pos (by omega)]
      simp only [Option.bind_some, Int.toNat_natCast, List.set_set, r1]
      rw [w64n i (by omega), w64 (x := n + 3 * (i : Int) + 1) (by omega) (by omega), w64 (x := n + 3 * (i : Int) + 1 + 1) (by omega) (by omega), w64 (x := n + 3 * (i : Int) + 1 + 1 + 1) (by omega) (by omega)]
      have e : n + 3 * (i : Int) + 1 + 1 + 1 = n + 3 * ((i + 1 : Nat) : Int) := by omega
      rw [e]
      rfl)
    (by
      intro s hs
      refine Ev.step (f := fun _ => some (n + 3 * (l.length : Int), s)) (fun k => ?_) (ev_const ?_)
      · simp only [laws_markRunS.l0]
        rw [if_neg (by omega)]
      · rw [← hs.2, ← hs.1, List.take_length])
    l.length 0 l (by omega) ⟨rfl, by simp [marked]⟩
  unfold laws_markRunS.f
  simpa using key
theorem heldRunS_ev (m : Nat) (n : Int) (hl : m ≤ 1000000000) (h0 : 0 ≤ n) (h1 : n ≤ 1000000000000) : Ev (fun k => laws_heldRunS.f k (marked m n) n) (n + 3 * (m : Int)) := by
  have key := ev_up m (fun k i (_ : Unit) => laws_heldRunS.l0 k (marked m n) (n + 3 * (i : Int)) (i : Int)) (fun _ _ => True) (fun _ _ => n + 3 * (m : Int))
    (by
      intro i s hi _
      right
      refine ⟨(), fun k => ?_, trivial, rfl⟩
      simp only [laws_heldRunS.l0]
      rw [if_pos (by rw [marked_length]; omega), if_pos (by omega), rdRun _ i (by rw [marked_length]; omega), marked_get, w64n i (by omega), w64 (x := n + 3 * (i : Int) + 1) (by omega) (by omega), w64 (x := n + 3 * (i : Int) + 1 + 1) (by omega) (by omega), w64 (x := n + 3 * (i : Int) + 1 + 1 + 1) (by omega) (by omega)]
      have e : n + 3 * (i : Int) + 1 + 1 + 1 = n + 3 * ((i + 1 : Nat) : Int) := by omega
      rw [if_pos (by simp only [markOne]), if_pos (by simp only [markOne]), if_pos (by simp only [markOne]), e])
    (by
      intro s _
      refine Ev.step (f := fun _ => some (n + 3 * (m : Int))) (fun k => ?_) (ev_const rfl)
      simp only [laws_heldRunS.l0]
      rw [if_neg (by rw [marked_length]; omega)])
    m 0 () (by omega) trivial
  unfold laws_heldRunS.f
  simpa using key
end Go.Proofs.Ytbgohbinonkhfaa.Pure

/- The program's ChangedRegion and the reference's return the same, and what is returned is held by nobody else: over lists of numbers alone. -/
namespace Go.Proofs.Ytbgohbinonkhfaa.Pure
open Go.RowKit Go.Proofs.Ytbgohbinonkhfaa.Q Go.Proofs.YtbgohbinonkhfaaW.PrintWords Go.Proofs.YtbgohbinonkhfaaW.PrintLast Go.Proofs.YtbgohbinonkhfaaW.PrintMore
set_option linter.unusedVariables false
set_option linter.unusedSimpArgs false

theorem FnExactChangedRegion : laws_FnExactChangedRegion.Pure := by
  intro w h p d w' h' p' d' _ _ _ _ hl _ _ _ _ hl'
  apply Ev.rounds
  unfold laws_FnExactChangedRegion.f
  rcases szImage_eq w h p d 1048576 (by omega) (by omega) (by first | exact hl | omega) with ⟨hn, h0, hs⟩ | hs
  · rcases szImage_eq w' h' p' d' (1048576 - (d.length : Int)) (by omega) (by omega) (by first | exact hl' | omega) with ⟨hn', h0', hs'⟩ | hs'
    · have hc := toImage_ev w h p d (by omega)
      have hc' := toImage_ev w' h' p' d' (by omega)
      have hS := spec_ChangedRegion_ev w h p d w' h' p' d' (by omega) (by omega)
      have hI := impl_ChangedRegion_eq w h p d w' h' p' d'
      have hlen := changedV_len w h p d w' h' p' d'
      generalize changedV w h p d w' h' p' d' = V at hS hI hlen
      have heq := ev_of V.length (fun k hk => eqRunS_refl V (by omega) k hk)
      have he := eqImage_ev w h p d (by omega)
      have he' := eqImage_ev w' h' p' d' (by omega)
      obtain ⟨e1, e2, hmx⟩ := markImage_ev w h p d 1 (by omega) (by omega) (by omega)
      obtain ⟨e3, e4, hmy⟩ := markImage_ev w' h' p' d' (1 + (d.length : Int)) (by omega) (by omega) (by omega)
      have hm := markRunS_ev V 1 (by omega) (by omega) (by omega)
      have hh := heldRunS_ev V.length 1 (by omega) (by omega) (by omega)
      refine ev_now hs (ev_neg (by omega) (ev_now hs' (ev_neg (by omega) (ev_bind hc (ev_bind hc' (ev_bind hS (ev_bind hc (ev_bind hc' (ev_now hI (ev_bind heq (ev_pos rfl (ev_bind hc (ev_bind he (ev_pos rfl (ev_bind hc' (ev_bind he' (ev_pos rfl (ev_bind hmx (ev_bind hmy (ev_neg (by show ¬ (1 + (d.length : Int) + (d'.length : Int) < 0); omega) (ev_bind heq ?_)))))))))))))))))))))
      refine Ev.step (fun k => by simp only [laws_FnExactChangedRegion.j0]; rfl) ?_
      exact ev_neg (by simp) (ev_bind hm (ev_bind hh (ev_neg (by omega) (ev_pos rfl (ev_bind hc (ev_bind hc' (ev_now hI (ev_bind heq (ev_pos rfl (ev_bind hh (ev_neg (by omega) (ev_pos rfl (Ev.now true)))))))))))))
    · exact ev_now hs (ev_neg (by omega) (ev_now hs' (ev_pos (by omega) (Ev.now true))))
  · exact ev_now hs (ev_pos (by omega) (Ev.now true))
end Go.Proofs.Ytbgohbinonkhfaa.Pure

/- The head of the translation reads as a plain cut. -/
namespace Go.Proofs.Ytbgohbinonkhfaa.Head
set_option maxRecDepth 100000
theorem wordsSigns_word (w r : List Char) (h : w.all (fun c => !(c == Char.ofNat 32)) = true) : wordsSigns (w ++ Char.ofNat 32 :: r) = w :: wordsSigns r := by
  induction w with
  | nil => rfl
  | cons c w ih =>
    simp only [List.all_cons, Bool.and_eq_true, Bool.not_eq_true', beq_eq_false_iff_ne, ne_eq] at h
    have h1 := ih (by simpa using h.2)
    rw [List.cons_append, wordsSigns.eq_3 c _ h.1, h1]
def w1 : List Char := [104, 97, 114, 110, 101, 115, 115].map Char.ofNat
def w2 : List Char := [51, 55, 55, 51, 100, 53, 51, 56, 50, 98, 53, 98, 101, 101, 49, 50, 100, 98, 57, 53, 100, 98, 101, 50, 51, 51, 101, 57, 100, 57, 52, 97, 99, 54, 53, 55, 97, 101, 56, 99, 55, 52, 99, 52, 48, 99, 57, 54, 54, 99, 100, 99, 48, 50, 56, 53, 54, 48, 100, 101, 100, 55, 52, 52].map Char.ofNat
def w3 : List Char := [99, 117, 116].map Char.ofNat
def w4 : List Char := [97, 116, 32, 108, 111, 111, 112, 46, 101, 120, 97, 109, 112, 108, 101, 47, 112, 105, 120, 101, 108, 119, 111, 114, 107, 115, 47, 108, 97, 119, 115, 46, 70, 110, 69, 120, 97, 99, 116, 67, 104, 97, 110, 103, 101, 100, 82, 101, 103, 105, 111, 110, 32, 108, 111, 111, 112, 46, 101, 120, 97, 109, 112, 108, 101, 47, 112, 105, 120, 101, 108, 119, 111, 114, 107, 115, 47, 108, 97, 119, 115, 46, 70, 110, 67, 104, 97, 110, 103, 101, 100, 82, 101, 103, 105, 111, 110, 32, 108, 111, 111, 112, 46, 101, 120, 97, 109, 112, 108, 101, 47, 112, 105, 120, 101, 108, 119, 111, 114, 107, 115, 47, 108, 97, 119, 115, 46, 70, 110, 69, 120, 97, 99, 116, 70, 108, 111, 111, 100, 82, 101, 103, 105, 111, 110, 32, 108, 111, 111, 112, 46, 101, 120, 97, 109, 112, 108, 101, 47, 112, 105, 120, 101, 108, 119, 111, 114, 107, 115, 47, 108, 97, 119, 115, 46, 70, 110, 70, 108, 111, 111, 100, 82, 101, 103, 105, 111, 110, 83, 97, 109, 101, 32, 108, 111, 111, 112, 46, 101, 120, 97, 109, 112, 108, 101, 47, 112, 105, 120, 101, 108, 119, 111, 114, 107, 115, 47, 108, 97, 119, 115, 46, 70, 110, 70, 108, 111, 111, 100, 82, 101, 103, 105, 111, 110, 32, 108, 111, 111, 112, 46, 101, 120, 97, 109, 112, 108, 101, 47, 112, 105, 120, 101, 108, 119, 111, 114, 107, 115, 47, 108, 97, 119, 115, 46, 70, 110, 69, 120, 97, 99, 116, 67, 104, 97, 110, 103, 101, 100, 66, 111, 120, 101, 115, 32, 108, 111, 111, 112, 46, 101, 120, 97, 109, 112, 108, 101, 47, 112, 105, 120, 101, 108, 119, 111, 114, 107, 115, 47, 108, 97, 119, 115, 46, 70, 110, 67, 104, 97, 110, 103, 101, 100, 66, 111, 120, 101, 115, 32, 108, 111, 111, 112, 46, 101, 120, 97, 109, 112, 108, 101, 47, 112, 105, 120, 101, 108, 119, 111, 114, 107, 115, 47, 108, 97, 119, 115, 46, 70, 110, 80, 97, 116, 99, 104, 73, 109, 97, 103, 101].map Char.ofNat
theorem signs0 : Try.prog.initOrder = String.ofList (w1 ++ Char.ofNat 32 :: (w2 ++ Char.ofNat 32 :: (w3 ++ Char.ofNat 32 :: w4))) := by kernel_rfl
theorem behind : behindMainWord (wordsSigns Try.prog.initOrder.toList) = w3 :: wordsSigns w4 := by
  rw [signs0, String.toList_ofList, wordsSigns_word w1 _ (by kernel_rfl), wordsSigns_word w2 _ (by kernel_rfl), wordsSigns_word w3 _ (by kernel_rfl)]
  unfold behindMainWord
  dsimp only
  rw [if_pos (by kernel_rfl)]
theorem strip_cut (R : List (List Char)) : stripLifts liftWords (w3 :: R) = ([], w3 :: R) := by kernel_rfl
theorem mayEnter_of (P : Program) (R : List (List Char)) (h : behindMainWord (wordsSigns P.initOrder.toList) = w3 :: R) (h1 : P.laysLater = false) (h2 : P.bearsReflect = false) (h3 : P.doorFits [] = true) : P.mayEnter = true := by
  unfold Program.mayEnter
  rw [h]
  dsimp only
  rw [strip_cut, h1, h2, h3]
  kernel_rfl
theorem liftsFinal_of (P : Program) (R : List (List Char)) (h : behindMainWord (wordsSigns P.initOrder.toList) = w3 :: R) : P.liftsFinal = false := by
  unfold Program.liftsFinal Program.headLifts
  rw [h]
  dsimp only
  rw [strip_cut]
  kernel_rfl
theorem make_of (P : Program) (R : List (List Char)) (h : behindMainWord (wordsSigns P.initOrder.toList) = w3 :: R) : P.make = some .cut := by
  unfold Program.make
  rw [h]
  kernel_rfl
theorem mayEnter : Try.prog.mayEnter = true := mayEnter_of _ _ behind (by kernel_rfl) (by kernel_rfl) (by kernel_rfl)
theorem liftsFinal : Try.prog.liftsFinal = false := liftsFinal_of _ _ behind
theorem make : Try.prog.make = some .cut := make_of _ _ behind
end Go.Proofs.Ytbgohbinonkhfaa.Head

-- the row of the law FnExactChangedRegion
namespace Go.Proofs.Ytbgohbinonkhfaa.fnExactChangedRegion
open Go.ChangeShapes Go.WideShapes Go.ChangeAt Go.RowKit Go.Proofs.Ytbgohbinonkhfaa.Q Go.Proofs.YtbgohbinonkhfaaW.PrintWords
open Go.ChangeMaps (open_string shut_string)
set_option linter.unusedVariables false
theorem own : ownKnob Try.prog.godebug = none := by kernel_rfl
theorem laidOut : laidOutB Try.prog = true := by kernel_rfl
set_option maxHeartbeats 4000000 in
set_option maxRecDepth 100000 in
theorem lifted (os : Os) (started : os.Started) (H : Type) (enc : TypeId × Value → H) :
    ReturnsInHanded {} Try.checked os 3 .any (Rows.fnExactChangedRegionSpec.pre6 enc Try.prog Try.f3 Rows.fnExactChangedRegionRow.domain false) (Rows.fnExactChangedRegionSpec.post enc Try.prog Try.f3 false true false false) := by
  refine returnsInHanded_of_change_sized (C := Try.checked) own started (by kernel_rfl) Try.func3
    (ChangeSpec.witness6 (enc := enc) (C := Try.checked) false ⟨#[], #[.agg #[.int .i64 0, .int .i64 0, .int .i64 0, .slice none 0 0], .agg #[.int .i64 0, .int .i64 0, .int .i64 0, .slice none 0 0]], []⟩ 8 (by kernel_rfl) (by kernel_rfl) (by kernel_rfl) (by kernel_rfl)) ?_
  intro W base args ds gs before hval0 hW hcnd hsz0 _
  have hval : ∀ (j : Nat) t v, Try.f3.params[j]? = some t → args[j]? = some v → Value.okWide Try.prog W .any base t v := hval0
  have hW' := hW
  obtain ⟨p, q, hA0, hV, rfl, hfz, hnd⟩ := hW
  have hA : DataW.TrodAll enc Try.prog W 0 (fun _ => true) true Try.f3.params.toList args.toList ds p := hA0
  rw [Try.params3] at hA hval
  obtain ⟨v0, vs0, d0, ds0, p0, q0, hargs, rfl, rfl, h0, r0⟩ := trodAll_cons hA
  obtain ⟨v1, vs1, d1, ds1, p1, q1, rfl, rfl, rfl, h1, r1⟩ := trodAll_cons r0
  obtain ⟨rfl, rfl, rfl⟩ := trodAll_nil r1
  obtain rfl : args = #[v0, v1] := by cases args; simp_all
  obtain ⟨rfl, rfl⟩ := trodVars_none hV
  have k0 := h0
  have lt0 : ∀ x ∈ p0, x.block < W.heap.size := by obtain ⟨m, hm⟩ := k0; exact DataW.trod_lt m _ _ _ hm
  obtain ⟨fuel0, hf0⟩ := h0
  obtain ⟨cs0, rfl, hsz0⟩ := okWide_struct Try.underlying24 (hval 0 24 v0 rfl rfl)
  obtain ⟨y0, hK0, hq0⟩ := o24 _ _ _ _ _ _ hf0
  obtain ⟨A0_3, c0_3, hcs0, hc0_3, hr0_3⟩ := k24_open hK0
  obtain rfl : cs0 = #[.int .i64 y0.f0, .int .i64 y0.f1, .int .i64 y0.f2, .slice A0_3 y0.f3.length c0_3] := by cases cs0; simpa [Value.cells] using hcs0
  have k1 := h1
  have lt1 : ∀ x ∈ p1, x.block < W.heap.size := by obtain ⟨m, hm⟩ := k1; exact DataW.trod_lt m _ _ _ hm
  obtain ⟨fuel1, hf1⟩ := h1
  obtain ⟨cs1, rfl, hsz1⟩ := okWide_struct Try.underlying24 (hval 1 24 v1 rfl rfl)
  obtain ⟨y1, hK1, hq1⟩ := o24 _ _ _ _ _ _ hf1
  obtain ⟨A1_3, c1_3, hcs1, hc1_3, hr1_3⟩ := k24_open hK1
  obtain rfl : cs1 = #[.int .i64 y1.f0, .int .i64 y1.f1, .int .i64 y1.f2, .slice A1_3 y1.f3.length c1_3] := by cases cs1; simpa [Value.cells] using hcs1
  clear hA0 hval0 hsz0
  obtain ⟨k, hh⟩ := Pure.FnExactChangedRegion y0.f0 y0.f1 y0.f2 y0.f3 y1.f0 y1.f1 y1.f2 y1.f3 hq0.1 hq0.2.1 hq0.2.2.1 hq0.2.2.2 hr0_3.2.1 hq1.1 hq1.2.1 hq1.2.2.1 hq1.2.2.2 hr1_3.2.1
  refine (Q.laws_FnExactChangedRegion.calls k y0.f0 y0.f1 y0.f2 _ _ y0.f3 y1.f0 y1.f1 y1.f2 _ _ y1.f3 true W hr0_3 hc0_3 hr1_3 hc1_3 hh rfl).mono fun e W' hpost => ?_
  obtain ⟨he, bel0⟩ := hpost
  have bel : Below W.heap.size W W' := bel0
  subst he
  exact ⟨_, rfl, _, _, _, [], _, [], hW', trodAll_mk1 (shut_bool Try.underlying4 _), (trodAll_cons_mk (Below.trod laidOut (by kernel_rfl) (of_decide_eq_true (by kernel_rfl)) k0 bel lt0) (trodAll_cons_mk (Below.trod laidOut (by kernel_rfl) (of_decide_eq_true (by kernel_rfl)) k1 bel lt1) trodAll_mk0)), rfl, bel.frame _, fun h => by cases h⟩
set_option maxHeartbeats 4000000 in
theorem closed : joinedFacts Try.prog 3 Try.f3 Rows.fnExactChangedRegionSpec Rows.fnExactChangedRegionRow = true := by
  unfold joinedFacts
  rw [Head.mayEnter, Head.liftsFinal, Head.make]
  simp only [Bool.and_eq_true]
  repeat' apply And.intro
  all_goals first | exact True.intro | (as_aux_lemma => kernel_rfl)
set_option maxHeartbeats 4000000 in
theorem over : Rows.fnExactChangedRegionRow.holds Try.pinned (OpenSpec.ofChange Rows.fnExactChangedRegionSpec) :=
  OpenClaim.holds_of_wide 3 Try.f3 rfl rfl rfl rfl rfl rfl rfl ⟨rfl, rfl, rfl, rfl, rfl⟩ rfl rfl rfl rfl rfl (by kernel_rfl) Try.func3 closed
    (of_decide_eq_true (by kernel_rfl)) (by unfold Func.isWrapper; first | (rw [if_pos (by decide +kernel)]; kernel_rfl) | (rw [if_neg (by decide +kernel)]; exact ⟨rfl, rfl⟩))
    (fun os started H enc _ => lifted os started H enc)
theorem proved : Rows.FnExactChangedRegionSaid := over
#print axioms proved
end Go.Proofs.Ytbgohbinonkhfaa.fnExactChangedRegion
namespace Go.Proofs.Ytbgohbinonkhfaa
/-- The row, under a short name, for the claim. -/
theorem fnExactChangedRegion_holds : Rows.FnExactChangedRegionSaid := fnExactChangedRegion.proved
end Go.Proofs.Ytbgohbinonkhfaa
