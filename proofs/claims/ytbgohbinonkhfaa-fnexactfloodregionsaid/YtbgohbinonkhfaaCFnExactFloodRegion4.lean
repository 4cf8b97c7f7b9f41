/- A part of the proof that the statement FnExactFloodRegionSaid holds, under no condition of its own: The program's FloodRegion and the reference's return the same, and what is returned is held by nobody else: over lists of numbers alone. -/
import Derived.Test.YtbgohbinonkhfaaCFnExactFloodRegion3
import Derived.Test.YtbgohbinonkhfaaCFnExactFloodRegion2
import Derived.Test.YtbgohbinonkhfaaCFnExactFloodRegion1
import Derived.Test.YtbgohbinonkhfaaRows
import Derived.JoinedOf
import Derived.KernelRfl
import Derived.WalkKit
import Derived.ProofKit
import Derived.OpenShut
import Derived.ShutString
import Derived.ChangeOld
import Derived.Below
import Derived.SizedLaws
import Derived.Carry
/- FloodRegion, as the program and the reference have it. -/
namespace Go.Proofs.Ytbgohbinonkhfaa.Pure
open Go.RowKit Go.Proofs.Ytbgohbinonkhfaa.Q Go.Proofs.YtbgohbinonkhfaaW.PrintWords Go.Proofs.YtbgohbinonkhfaaW.PrintLast Go.Proofs.YtbgohbinonkhfaaW.PrintMore
set_option linter.unusedVariables false
set_option linter.unusedSimpArgs false

theorem pixT_mem (d : List Int) (j p : Int) (q : Nat) (h : q < (pixT d j p).length) : rd (pixT d j p) (q : Int) ∈ d := by
  rw [rd_nat _ q h]
  have h2 : (pixT d j p)[q] ∈ pixT d j p := List.getElem_mem h
  unfold pixT at h2
  exact List.mem_of_mem_take (List.mem_of_mem_drop h2)
theorem pixT_plen {a b p : Int} {d : List Int} (hv : validI a b p d = true) {x y : Nat} (hx : (x : Int) < a) (hy : (y : Int) < b) : ((pixT d (pixJ a p x y) p).length : Int) = p := by
  have h := pixJ_is hv hx hy
  have hh := (validI_iff a b p d).1 hv
  have hw : wrap64 (pixJ a p x y + p) = pixJ a p x y + p := w64 (by omega) (by omega)
  unfold pixT
  rw [List.length_drop, List.length_take]
  omega
theorem spec_onImage_eq (a b p : Int) (d : List Int) (x y : Int) (ha : 1 ≤ a ∧ a ≤ 16) (hb : 1 ≤ b ∧ b ≤ 16) : spec_onImage.f a b p d x y = some (decide (0 ≤ x ∧ x < a ∧ 0 ≤ y ∧ y < b)) := by
  unfold spec_onImage.f
  rw [spec_inRangeI_eq, spec_inRangeI_eq, w64 (x := a - 1) (by omega) (by omega), w64 (x := b - 1) (by omega) (by omega)]
  simp only [Option.bind_some]
  by_cases c : 0 ≤ x ∧ x < a
  · rw [if_pos (by simp; omega)]; congr 1; rw [Bool.eq_iff_iff]; simp; omega
  · rw [if_neg (by simp; omega), decide_eq_false (by omega)]
theorem dist_ok (u v tol : Int) (hu : 0 ≤ u ∧ u ≤ 255) (hv : 0 ≤ v ∧ v ≤ 255) : ∃ z, spec_distance.f (wrap64 (u - v)) = some z ∧ decide (z ≤ tol) = !(decide (tol < mx (wrap64 (u - v)) (wrap64 (-(wrap64 (u - v)))))) := by
  rw [w64 (x := u - v) (by omega) (by omega), w64 (x := -(u - v)) (by omega) (by omega), mx_def]
  unfold spec_distance.f
  by_cases c : u - v < 0
  · refine ⟨-(u - v), by rw [if_pos c, w64 (x := -(u - v)) (by omega) (by omega)], ?_⟩
    rw [Bool.eq_iff_iff]; simp; omega
  · refine ⟨u - v, by rw [if_neg c], ?_⟩
    rw [Bool.eq_iff_iff]; simp; omega
theorem like_col (a b p : Int) (d s : List Int) (tol : Int) (x y : Nat) (h : a ≤ (x : Int)) : likeP a b p d s tol x y = false := by
  unfold likeP; rw [decide_eq_false (by omega), Bool.false_and]
theorem like_row (a b p : Int) (d s : List Int) (tol : Int) (x y : Nat) (h : b ≤ (y : Int)) : likeP a b p d s tol x y = false := by
  unfold likeP; rw [decide_eq_false (show ¬ (y : Int) < b by omega), Bool.false_and, Bool.and_false]
theorem flood_l2 (X Y tol : Int) (s : List Bool) (seed pix : List Int) (y x : Nat) (a b p : Int) (d : List Int) (R : List Run) (hs : s.length = 256) (hx : x < 16) (hy : y < 16) (hpl : (pix.length : Int) = p) (hp4 : pix.length ≤ 4) (hsl : pix.length ≤ seed.length)
    (hpm : ∀ q, q < pix.length → 0 ≤ rd pix (q : Int) ∧ rd pix (q : Int) ≤ 255) (hsm : ∀ q, q < seed.length → 0 ≤ rd seed (q : Int) ∧ rd seed (q : Int) ≤ 255)
    (hn : Ev (fun k => spec_FloodRegion.l1 k X Y tol (s.set (y * 16 + x) (okAll pix seed tol pix.length)) seed (y : Int) ((x + 1 : Nat) : Int) a b p d) R) :
    Ev (fun k => spec_FloodRegion.l2 k X Y tol s seed (y : Int) (x : Int) true pix 0 a b p d) R := by
  subst hpl
  have e4 : wrap64 ((wrap64 ((y : Int) * 16)) + (x : Int)) = ((y * 16 + x : Nat) : Int) := by
    rw [w64 (x := (y : Int) * 16) (by omega) (by omega), w64 (by omega) (by omega)]; omega
  have loop := ev_up pix.length (fun k q (c : Bool) => spec_FloodRegion.l2 k X Y tol s seed (y : Int) (x : Int) c pix (q : Int) a b (pix.length : Int) d) (fun q c => c = okAll pix seed tol q) (fun _ _ => R)
    (by
      intro q c hq hc
      right
      refine ⟨okAll pix seed tol (q + 1), fun k => ?_, rfl, rfl⟩
      obtain ⟨z, hz, hz2⟩ := dist_ok (rd pix (q : Int)) (rd seed (q : Int)) tol (hpm q hq) (hsm q (Nat.lt_of_lt_of_le hq hsl))
      have c1 : (q : Int) < (pix.length : Int) := Int.ofNat_lt.2 hq
      have c2 : (q : Int) < (seed.length : Int) := Int.ofNat_lt.2 (Nat.lt_of_lt_of_le hq hsl)
      have c0 : (0 : Int) ≤ (q : Int) := Int.natCast_nonneg q
      have e1 := w64n q (by omega)
      have e2 := okAll_succ pix seed tol q
      rw [← hc] at e2
      clear hn hpm hsm hs e4
      simp only [spec_FloodRegion.l2]
      rw [if_pos c1, e1, e2]
      cases c with
      | true =>
        rw [if_pos rfl, if_pos c0, if_pos c1, if_pos c2, hz]
        simp only [Option.bind_some]
        rw [hz2]
        rfl
      | false =>
        rw [if_neg (by simp)]
        rfl)
    (by
      intro c hc
      have c1 : ¬ ((pix.length : Nat) : Int) < (pix.length : Int) := Int.lt_irrefl _
      have c2 : (0 : Int) ≤ ((y * 16 + x : Nat) : Int) := Int.natCast_nonneg _
      have c3 : ((y * 16 + x : Nat) : Int) < (s.length : Int) := by rw [hs]; omega
      have e1 := w64n x (by omega)
      refine Ev.step (f := fun k => spec_FloodRegion.l1 k X Y tol (s.set (y * 16 + x) (okAll pix seed tol pix.length)) seed (y : Int) ((x + 1 : Nat) : Int) a b (pix.length : Int) d) (fun k => ?_) hn
      simp only [spec_FloodRegion.l2]
      rw [if_neg c1, e4, if_pos c2, if_pos c3, Int.toNat_natCast, hc, e1])
    pix.length 0 true (by omega) rfl
  exact loop
set_option maxHeartbeats 4000000 in
theorem spec_flood_ev (W H : Nat) (p : Int) (d : List Int) (X Y : Nat) (tol : Int) (hv : validI W H p d = true) (hX : X < W) (hY : Y < H) :
    Ev (fun k => spec_FloodRegion.l0 k (X : Int) (Y : Int) tol (List.replicate 256 false) (pixT d (pixJ W p X Y) p) 0 W H p d) (runsL (comp (gso (likeP W H p d (pixT d (pixJ W p X Y) p) tol) 256) (Y * 16 + X))) := by
  have hh := (validI_iff _ _ _ _).1 hv
  have hpr := shape_prod hh.1
  have hW : W ≤ 16 := by omega
  have hH : H ≤ 16 := by omega
  have hsl := pixT_plen hv (x := X) (y := Y) (by omega) (by omega)
  have hsm : ∀ q, q < (pixT d (pixJ W p X Y) p).length → 0 ≤ rd (pixT d (pixJ W p X Y) p) (q : Int) ∧ rd (pixT d (pixJ W p X Y) p) (q : Int) ≤ 255 := fun q hq => hh.2.2 _ (pixT_mem d _ p q hq)
  generalize pixT d (pixJ W p X Y) p = seed at hsl hsm ⊢
  obtain ⟨f, hf⟩ : ∃ f, f = likeP W H p d seed tol := ⟨_, rfl⟩
  rw [← hf]
  have hlast : ∀ q, q < 256 → upG f H 0 q = gso f 256 q := by
    intro q hq
    rw [gso_at _ _ hq]
    unfold upG
    by_cases c : q / 16 < H
    · rw [decide_eq_true (by omega), Bool.true_and]
    · rw [hf, like_row _ _ _ _ _ _ _ _ (by omega), Bool.and_false]
  have key := ev_up2 H (fun k y (s : List Bool) => spec_FloodRegion.l0 k (X : Int) (Y : Int) tol s seed (y : Int) W H p d) (fun y s => s = tab (upG f y 0)) (fun _ _ => runsL (comp (gso f 256) (Y * 16 + X)))
    (by
      intro y s hy hs
      right
      refine ⟨tab (upG f (y + 1) 0), fun R hR => ?_, rfl, rfl⟩
      have inner := ev_up2 W (fun k x (s : List Bool) => spec_FloodRegion.l1 k (X : Int) (Y : Int) tol s seed (y : Int) (x : Int) W H p d) (fun x s => s = tab (upG f y x)) (fun _ _ => R)
        (by
          intro x s hx hs
          right
          refine ⟨tab (upG f y (x + 1)), fun R' hR' => ?_, rfl, rfl⟩
          have e1 := spec_pixelAt_eq hv (x := x) (y := y) (by omega) (by omega)
          have hpl := pixT_plen hv (x := x) (y := y) (by omega) (by omega)
          have hpm : ∀ q, q < (pixT d (pixJ W p x y) p).length → 0 ≤ rd (pixT d (pixJ W p x y) p) (q : Int) ∧ rd (pixT d (pixJ W p x y) p) (q : Int) ≤ 255 := fun q hq => hh.2.2 _ (pixT_mem d _ p q hq)
          have e5 : okAll (pixT d (pixJ W p x y) p) seed tol (pixT d (pixJ W p x y) p).length = f x y := by rw [hf, likeP_in _ _ _ _ _ _ _ _ (by omega) (by omega)]
          generalize pixT d (pixJ W p x y) p = pix at e1 hpl hpm e5
          have hset : s.set (y * 16 + x) (f x y) = tab (upG f y (x + 1)) := by
            rw [hs, tab_set]
            exact tab_congr (fun q _ => upG_set f y x q (by omega))
          have hlen : s.length = 256 := by rw [hs, tab_length]
          have loop' := flood_l2 (X : Int) (Y : Int) tol s seed pix y x W H p d R' hlen (by omega) (by omega) hpl (by omega) (by omega) hpm hsm (by rw [e5, hset]; exact hR')
          refine Ev.step (f := fun k => (spec_pixelAt.f W H p d (x : Int) (y : Int)).bind fun u => spec_FloodRegion.l2 k (X : Int) (Y : Int) tol s seed (y : Int) (x : Int) true u 0 W H p d) (fun k => ?_) (ev_now e1 loop')
          simp only [spec_FloodRegion.l1]
          exact if_pos (Int.ofNat_lt.2 hx))
        (by
          intro s hs
          have hrow : s = tab (upG f (y + 1) 0) := by
            rw [hs]
            exact tab_congr (fun q _ => upG_row f W y q (fun x hx => by rw [hf]; exact like_col _ _ _ _ _ _ _ _ (by omega)) hW)
          refine Ev.step (fun k => ?_) (show Ev (fun k => spec_FloodRegion.l0 k (X : Int) (Y : Int) tol s seed ((y + 1 : Nat) : Int) W H p d) R from by rw [hrow]; exact hR)
          simp only [spec_FloodRegion.l1]
          rw [if_neg (by omega), w64n y (by omega)])
        W 0 s (by omega) hs
      have inner' : Ev (fun k => spec_FloodRegion.l1 k (X : Int) (Y : Int) tol s seed (y : Int) 0 W H p d) R := inner
      refine Ev.step (fun k => ?_) inner'
      simp only [spec_FloodRegion.l0]
      rw [if_pos (by omega)])
    (by
      intro s hs
      have hend : s = tab (gso f 256) := by rw [hs]; exact tab_congr hlast
      have e4 : wrap64 ((wrap64 ((Y : Int) * 16)) + (X : Int)) = ((Y * 16 + X : Nat) : Int) := by
        rw [w64 (x := (Y : Int) * 16) (by omega) (by omega), w64 (by omega) (by omega)]; omega
      refine Ev.step (f := fun k => (spec_spreadFrom.f s (wrap64 ((wrap64 ((Y : Int) * 16)) + (X : Int)))).bind fun t => (spec_runsOf.f k t).bind fun u => some u) (fun k => ?_) (ev_now (by rw [e4, hend]; exact spread_eq _ _ (by omega)) (ev_bind (spec_runsOf_ev _) (Ev.now _)))
      simp only [spec_FloodRegion.l0]
      rw [if_neg (by omega)])
    H 0 (List.replicate 256 false) (by omega) (by
      rw [tab_false]
      refine tab_congr (fun q _ => ?_)
      unfold upG
      rw [decide_eq_false (by omega), Bool.false_and])
  exact key
theorem spec_FloodRegion_ev (a b p : Int) (d : List Int) (x y tol : Int) (hl : d.length ≤ 1000000000000) : Ev (fun k => spec_FloodRegion.f k a b p d x y tol) (floodV a b p d x y tol) := by
  have hn : ¬ (validI a b p d = true ∧ 0 ≤ x ∧ x < a ∧ 0 ≤ y ∧ y < b ∧ 0 ≤ tol ∧ tol ≤ 255) → Ev (fun k => spec_FloodRegion.j0 k x y tol true a b p d) (floodV a b p d x y tol) := by
    intro c
    unfold floodV
    rw [if_neg c]
    refine Ev.step (f := fun _ => some []) (fun k => ?_) (Ev.now _)
    simp only [spec_FloodRegion.j0]
    rw [if_pos trivial]
  unfold spec_FloodRegion.f
  refine ev_bind (spec_validImage_ev a b p d hl) ?_
  by_cases c : validI a b p d = true
  · have hh := (validI_iff _ _ _ _).1 c
    refine ev_pos c (ev_now (spec_onImage_eq a b p d x y (by omega) (by omega)) ?_)
    by_cases c2 : 0 ≤ x ∧ x < a ∧ 0 ≤ y ∧ y < b
    · refine ev_pos (by simpa using c2) (ev_now (spec_inRangeI_eq tol 0 255) ?_)
      by_cases c3 : 0 ≤ tol ∧ tol ≤ 255
      · rw [decide_eq_true c3.1, decide_eq_true c3.2]
        obtain ⟨W, rfl⟩ := Int.eq_ofNat_of_zero_le (show 0 ≤ a by omega)
        obtain ⟨H, rfl⟩ := Int.eq_ofNat_of_zero_le (show 0 ≤ b by omega)
        obtain ⟨X, rfl⟩ := Int.eq_ofNat_of_zero_le (show 0 ≤ x by omega)
        obtain ⟨Y, rfl⟩ := Int.eq_ofNat_of_zero_le (show 0 ≤ y by omega)
        have hS := spec_flood_ev W H p d X Y tol c (by omega) (by omega)
        have e : floodV W H p d X Y tol = runsL (comp (gso (likeP W H p d (pixT d (pixJ W p X Y) p) tol) 256) (Y * 16 + X)) := by
          unfold floodV
          rw [if_pos ⟨c, by omega, by omega, by omega, by omega, by omega, by omega⟩, Int.toNat_natCast, Int.toNat_natCast]
        rw [e]
        refine Ev.step (f := fun k => (spec_pixelAt.f W H p d (X : Int) (Y : Int)).bind fun u => spec_FloodRegion.l0 k (X : Int) (Y : Int) tol (List.replicate 256 false) u 0 W H p d) (fun k => ?_) (ev_now (spec_pixelAt_eq c (x := X) (y := Y) (by omega) (by omega)) hS)
        simp only [spec_FloodRegion.j0]
        rw [if_neg (by simp), if_pos (by omega)]
      · have e : (!(decide (0 ≤ tol) && decide (tol ≤ 255))) = true := by
          rw [Bool.not_eq_true', Bool.eq_false_iff]; intro h; simp at h; exact c3 h
        rw [e]
        exact hn (by omega)
    · exact ev_neg (by simpa using c2) (hn (by omega))
  · exact ev_neg c (hn (fun h => c h.1))
theorem impl_FloodRegion_eq (a b p : Int) (d : List Int) (x y tol : Int) : impl_FloodRegion.f a b p d x y tol = some (floodV a b p d x y tol) := rfl
theorem floodV_len (a b p : Int) (d : List Int) (x y tol : Int) : (floodV a b p d x y tol).length ≤ 272 := by
  unfold floodV
  split
  · exact runsL_len _
  · simp
end Go.Proofs.Ytbgohbinonkhfaa.Pure

/- Copies of an image: they are the image; marks on an image. -/
namespace Go.Proofs.Ytbgohbinonkhfaa.Pure
open Go.RowKit Go.Proofs.Ytbgohbinonkhfaa.Q Go.Proofs.YtbgohbinonkhfaaW.PrintWords Go.Proofs.YtbgohbinonkhfaaW.PrintLast Go.Proofs.YtbgohbinonkhfaaW.PrintMore
set_option linter.unusedVariables false
set_option linter.unusedSimpArgs false

theorem toIntS_ev (l : List Int) (hl : l.length ≤ 2000000) : Ev (fun k => laws_toIntS.f k l) l := by
  have key := ev_up l.length (fun k i s => laws_toIntS.l0 k l s (i : Int)) (fun i s => s.length = l.length ∧ s.take i = l.take i) (fun i s => l)
    (by
      intro i s hi hs
      refine .inr ⟨s.set i l[i], fun k => ?_, ⟨by simpa using hs.1, ?_⟩, rfl⟩
      · simp only [laws_toIntS.l0]
        rw [if_pos (by omega), if_pos (by omega), rd_nat l i hi, if_pos (by omega), w64n i (by omega), Int.toNat_natCast]
      · rw [take_set s i _ (by omega), hs.2, List.take_succ_eq_append_getElem hi])
    (by
      intro s hs
      refine Ev.step (f := fun _ => some s) (fun k => ?_) (ev_const ?_)
      · simp only [laws_toIntS.l0]
        rw [if_neg (by omega)]
      · rw [← List.take_length (l := s), hs.1, hs.2, List.take_length])
    l.length 0 (List.replicate l.length 0) (by omega) ⟨by simp, by simp⟩
  unfold laws_toIntS.f
  refine Ev.congr (fun k => ?_) key
  rw [if_pos (by omega), if_pos (by omega)]
  simp
theorem eqIntS_ev (l : List Int) (hl : l.length ≤ 1000000000000) : Ev (fun k => laws_eqIntS.f k l l) true := by
  have key := ev_up l.length (fun k i (_ : Unit) => laws_eqIntS.l0 k l l (i : Int)) (fun _ _ => True) (fun _ _ => true)
    (by
      intro i s hi _
      refine .inr ⟨(), fun k => ?_, trivial, rfl⟩
      simp only [laws_eqIntS.l0]
      rw [if_pos (by omega), if_pos (by omega), if_pos (by omega), if_pos trivial, w64n i (by omega)])
    (by
      intro s _
      refine Ev.step (f := fun _ => some true) (fun k => ?_) (Ev.now true)
      simp only [laws_eqIntS.l0]
      rw [if_neg (by omega)])
    l.length 0 () (by omega) trivial
  unfold laws_eqIntS.f
  exact ev_pos rfl (by simpa using key)
theorem szIntS_eq (l : List Int) (n : Int) (h0 : 0 ≤ n) (h1 : n ≤ 1048576) (hl : l.length ≤ 9223372036854775807) :
    (l.length ≤ 1048576 ∧ n - (l.length : Int) ≥ 0 ∧ laws_szIntS.f l n = some (n - (l.length : Int))) ∨ laws_szIntS.f l n = some (-1) := by
  unfold laws_szIntS.f
  by_cases c : (l.length : Int) ≤ n
  · left
    rw [w64 (by omega) (by omega), if_neg (by omega)]
    exact ⟨by omega, by omega, rfl⟩
  · right
    rw [w64 (by omega) (by omega), if_pos (by omega)]
theorem markIntS_ev (l : List Int) (n : Int) (hl : l.length ≤ 1000000000) (h0 : 0 ≤ n) (h1 : n ≤ 1000000000000) : ∃ l' : List Int, l'.length = l.length ∧ Ev (fun k => laws_markIntS.f k l n) (n + (l.length : Int), l') := by
  have key := ev_up l.length (fun k i (s : List Int) => laws_markIntS.l0 k s (n + (i : Int)) (i : Int)) (fun i s => s.length = l.length ∧ s.take i = (List.range i).map (fun j => n + ((j : Nat) : Int))) (fun _ _ => (n + (l.length : Int), (List.range l.length).map (fun j => n + ((j : Nat) : Int))))
    (by
      intro i s hi hs
      refine .inr ⟨s.set i (n + (i : Int)), fun k => ?_, ⟨by simpa using hs.1, by rw [take_set s i _ (by omega), hs.2, List.range_succ, List.map_append]; rfl⟩, rfl⟩
      simp only [laws_markIntS.l0]
      rw [if_pos (by omega), if_pos (by omega), w64n i (by omega), w64 (x := n + (i : Int) + 1) (by omega) (by omega), Int.toNat_natCast, show n + (i : Int) + 1 = n + ((i + 1 : Nat) : Int) by omega])
    (by
      intro s hs
      refine Ev.step (f := fun _ => some (n + (l.length : Int), s)) (fun k => ?_) (ev_const ?_)
      · simp only [laws_markIntS.l0]
        rw [if_neg (by omega)]
      · rw [← hs.2, ← hs.1, List.take_length])
    l.length 0 l (by omega) ⟨rfl, by simp⟩
  refine ⟨(List.range l.length).map (fun j => n + ((j : Nat) : Int)), by simp, ?_⟩
  unfold laws_markIntS.f
  simpa using key
theorem szImage_eq (w h p : Int) (d : List Int) (n : Int) (h0 : 0 ≤ n) (h1 : n ≤ 1048576) (hl : d.length ≤ 9223372036854775807) :
    (d.length ≤ 1048576 ∧ n - (d.length : Int) ≥ 0 ∧ laws_szImage.f w h p d n = some (n - (d.length : Int))) ∨ laws_szImage.f w h p d n = some (-1) := by
  unfold laws_szImage.f
  rcases szIntS_eq d n h0 h1 hl with ⟨a, b, c⟩ | c
  · left
    rw [c]
    simp only [Option.bind_some]
    rw [if_neg (by omega)]
    exact ⟨a, b, rfl⟩
  · right
    rw [c]
    simp only [Option.bind_some]
    rw [if_pos (by omega)]
theorem toImage_ev (w h p : Int) (d : List Int) (hl : d.length ≤ 2000000) : Ev (fun k => laws_toImage.f k w h p d) (w, h, p, d) := by
  unfold laws_toImage.f
  exact ev_bind (toIntS_ev d hl) (Ev.now _)
theorem eqImage_ev (w h p : Int) (d : List Int) (hl : d.length ≤ 1000000000000) : Ev (fun k => laws_eqImage.f k w h p d w h p d) true := by
  unfold laws_eqImage.f
  exact ev_pos rfl (ev_pos rfl (ev_pos rfl (ev_bind (eqIntS_ev d hl) (ev_pos rfl (Ev.now _)))))
theorem markImage_ev (w h p : Int) (d : List Int) (n : Int) (hl : d.length ≤ 1000000000) (h0 : 0 ≤ n) (h1 : n ≤ 1000000000000) : ∃ d' : List Int, d'.length = d.length ∧ Ev (fun k => laws_markImage.f k w h p d n) (n + (d.length : Int), d') := by
  obtain ⟨d', e, hd⟩ := markIntS_ev d n hl h0 h1
  refine ⟨d', e, ?_⟩
  unfold laws_markImage.f
  exact ev_bind hd (Ev.now _)
end Go.Proofs.Ytbgohbinonkhfaa.Pure

/- Marks on runs: what is written into a list's runs, and read again. -/
namespace Go.Proofs.Ytbgohbinonkhfaa.Pure
open Go.RowKit Go.Proofs.Ytbgohbinonkhfaa.Q Go.Proofs.YtbgohbinonkhfaaW.PrintWords Go.Proofs.YtbgohbinonkhfaaW.PrintLast Go.Proofs.YtbgohbinonkhfaaW.PrintMore
set_option linter.unusedVariables false
set_option linter.unusedSimpArgs false

/-- run i of a list that has been marked from n on -/
def markOne (n : Int) (i : Nat) : Run := ⟨n + 3 * (i : Int), n + 3 * (i : Int) + 1, n + 3 * (i : Int) + 1 + 1⟩
def marked (m : Nat) (n : Int) : List Run := (List.range m).map (markOne n)
theorem marked_length (m : Nat) (n : Int) : (marked m n).length = m := by simp [marked]
theorem marked_succ (m : Nat) (n : Int) : marked (m + 1) n = marked m n ++ [markOne n m] := by simp [marked, List.range_succ]
theorem marked_get (m : Nat) (n : Int) (i : Nat) (h : i < (marked m n).length) : (marked m n)[i] = markOne n i := by simp [marked]
theorem markRunS_ev (l : List Run) (n : Int) (hl : l.length ≤ 1000000000) (h0 : 0 ≤ n) (h1 : n ≤ 1000000000000) : Ev (fun k => laws_markRunS.f k l n) (n + 3 * (l.length : Int), marked l.length n) := by
  have key := ev_up l.length (fun k i (s : List Run) => laws_markRunS.l0 k s (n + 3 * (i : Int)) (i : Int)) (fun i s => s.length = l.length ∧ s.take i = marked i n) (fun _ _ => (n + 3 * (l.length : Int), marked l.length n))
    (by
      intro i s hi hs
      right
      have hi' : i < s.length := by omega
      refine ⟨s.set i (markOne n i), fun k => ?_, ⟨by rw [List.length_set]; exact hs.1, by rw [take_set s i _ hi', hs.2, marked_succ]⟩, rfl⟩
      simp only [laws_markRunS.l0]
      have r1 : ∀ c : Run, rd_T47 (s.set i c) (i : Int) = c := by
        intro c
        rw [rdRun (s.set i c) i (by rw [List.length_set]; omega), List.getElem_set_self]
      rw [if_pos (by omega), if_pos (by omega)]
      simp only [Option.bind_some, Int.toNat_natCast, List.set_set, r1]
      rw [w64n i (by omega), w64 (x := n + 3 * (i : Int) + 1) (by omega) (by omega), w64 (x := n + 3 * (i : Int) + 1 + 1) (by omega) (by omega), w64 (x := n + 3 * (i : Int) + 1 + 1 + 1) (by omega) (by omega)]
      have e : n + 3 * (i : Int) + 1 + 1 + 1 = n + 3 * ((i + 1 : Nat) : Int) := by omega
      rw [e]
      rfl)
    (by
      intro s hs
      refine Ev.step (f := fun _ => some (n + 3 * (l.length : Int), s)) (fun k => ?_) (ev_const ?_)
      · simp only [laws_markRunS.l0]
        rw [if_neg (by omega)]
      · rw [← hs.2, ← hs.1, List.take_length])
    l.length 0 l (by omega) ⟨rfl, by simp [marked]⟩
  unfold laws_markRunS.f
  simpa using key
theorem heldRunS_ev (m : Nat) (n : Int) (hl : m ≤ 1000000000) (h0 : 0 ≤ n) (h1 : n ≤ 1000000000000) : Ev (fun k => laws_heldRunS.f k (marked m n) n) (n + 3 * (m : Int)) := by
  have key := ev_up m (fun k i (_ : Unit) => laws_heldRunS.l0 k (marked m n) (n + 3 * (i : Int)) (i : Int)) (fun _ _ => True) (fun _ _ => n + 3 * (m : Int))
    (by
      intro i s hi _
      right
      refine ⟨(), fun k => ?_, trivial, rfl⟩
      simp only [laws_heldRunS.l0]
      rw [if_pos (by rw [marked_length]; omega), if_pos (by omega), rdRun _ i (by rw [marked_length]; omega), marked_get, w64n i (by omega), w64 (x := n + 3 * (i : Int) + 1) (by omega) (by omega), w64 (x := n + 3 * (i : Int) + 1 + 1) (by omega) (by omega), w64 (x := n + 3 * (i : Int) + 1 + 1 + 1) (by omega) (by omega)]
      have e : n + 3 * (i : Int) + 1 + 1 + 1 = n + 3 * ((i + 1 : Nat) : Int) := by omega
      rw [if_pos (by simp only [markOne]), if_pos (by simp only [markOne]), if_pos (by simp only [markOne]), e])
    (by
      intro s _
      refine Ev.step (f := fun _ => some (n + 3 * (m : Int))) (fun k => ?_) (ev_const rfl)
      simp only [laws_heldRunS.l0]
      rw [if_neg (by rw [marked_length]; omega)])
    m 0 () (by omega) trivial
  unfold laws_heldRunS.f
  simpa using key
end Go.Proofs.Ytbgohbinonkhfaa.Pure

/- The program's FloodRegion and the reference's return the same, and what is returned is held by nobody else: over lists of numbers alone. -/
namespace Go.Proofs.Ytbgohbinonkhfaa.Pure
open Go.RowKit Go.Proofs.Ytbgohbinonkhfaa.Q Go.Proofs.YtbgohbinonkhfaaW.PrintWords Go.Proofs.YtbgohbinonkhfaaW.PrintLast Go.Proofs.YtbgohbinonkhfaaW.PrintMore
set_option linter.unusedVariables false
set_option linter.unusedSimpArgs false

theorem FnExactFloodRegion : laws_FnExactFloodRegion.Pure := by
  intro w h p d
  intros
  rename_i x y tol _ _ _ _ hl _ _ _
  apply Ev.rounds
  unfold laws_FnExactFloodRegion.f
  rcases szImage_eq w h p d 1048576 (by omega) (by omega) (by first | exact hl | omega) with ⟨hn, h0, hs⟩ | hs
  · have hc := toImage_ev w h p d (by omega)
    have hS := spec_FloodRegion_ev w h p d x y tol (by omega)
    have hI := impl_FloodRegion_eq w h p d x y tol
    have hlen := floodV_len w h p d x y tol
    generalize floodV w h p d x y tol = V at hS hI hlen
    have heq := ev_of V.length (fun k hk => eqRunS_refl V (by omega) k hk)
    have he := eqImage_ev w h p d (by omega)
    obtain ⟨e1, e2, hmx⟩ := markImage_ev w h p d 1 (by omega) (by omega) (by omega)
    have hm := markRunS_ev V 1 (by omega) (by omega) (by omega)
    have hh := heldRunS_ev V.length 1 (by omega) (by omega) (by omega)
    refine ev_now hs (ev_neg (by omega) (ev_bind hc (ev_bind hS (ev_bind hc (ev_now hI (ev_bind heq (ev_pos rfl (ev_bind hc (ev_bind he (ev_pos rfl (ev_bind hmx (ev_neg (by show ¬ (1 + (d.length : Int) < 0); omega) (ev_bind heq ?_)))))))))))))
    refine Ev.step (fun k => by simp only [laws_FnExactFloodRegion.j0]; rfl) ?_
    exact ev_neg (by simp) (ev_bind hm (ev_bind hh (ev_neg (by omega) (ev_pos rfl (ev_bind hc (ev_now hI (ev_bind heq (ev_pos rfl (ev_bind hh (ev_neg (by omega) (ev_pos rfl (Ev.now true))))))))))))
  · exact ev_now hs (ev_pos (by omega) (Ev.now true))
end Go.Proofs.Ytbgohbinonkhfaa.Pure

/- The head of the translation reads as a plain cut. -/
namespace Go.Proofs.Ytbgohbinonkhfaa.Head
set_option maxRecDepth 100000
theorem wordsSigns_word (w r : List Char) (h : w.all (fun c => !(c == Char.ofNat 32)) = true) : wordsSigns (w ++ Char.ofNat 32 :: r) = w :: wordsSigns r := by
  induction w with
  | nil => rfl
  | cons c w ih =>
    simp only [List.all_cons, Bool.and_eq_true, Bool.not_eq_true', beq_eq_false_iff_ne, ne_eq] at h
    have h1 := ih (by simpa using h.2)
    rw [List.cons_append, wordsSigns.eq_3 c _ h.1, h1]
def w1 : List Char := [104, 97, 114, 110, 101, 115, 115].map Char.ofNat
def w2 : List Char := [51, 55, 55, 51, 100, 53, 51, 56, 50, 98, 53, 98, 101, 101, 49, 50, 100, 98, 57, 53, 100, 98, 101, 50, 51, 51, 101, 57, 100, 57, 52, 97, 99, 54, 53, 55, 97, 101, 56, 99, 55, 52, 99, 52, 48, 99, 57, 54, 54, 99, 100, 99, 48, 50, 56, 53, 54, 48, 100, 101, 100, 55, 52, 52].map Char.ofNat
def w3 : List Char := [99, 117, 116].map Char.ofNat
def w4 : List Char := [97, 116, 32, 108, 111, 111, 112, 46, 101, 120, 97, 109, 112, 108, 101, 47, 112, 105, 120, 101, 108, 119, 111, 114, 107, 115, 47, 108, 97, 119, 115, 46, 70, 110, 69, 120, 97, 99, 116, 67, 104, 97, 110, 103, 101, 100, 82, 101, 103, 105, 111, 110, 32, 108, 111, 111, 112, 46, 101, 120, 97, 109, 112, 108, 101, 47, 112, 105, 120, 101, 108, 119, 111, 114, 107, 115, 47, 108, 97, 119, 115, 46, 70, 110, 67, 104, 97, 110, 103, 101, 100, 82, 101, 103, 105, 111, 110, 32, 108, 111, 111, 112, 46, 101, 120, 97, 109, 112, 108, 101, 47, 112, 105, 120, 101, 108, 119, 111, 114, 107, 115, 47, 108, 97, 119, 115, 46, 70, 110, 69, 120, 97, 99, 116, 70, 108, 111, 111, 100, 82, 101, 103, 105, 111, 110, 32, 108, 111, 111, 112, 46, 101, 120, 97, 109, 112, 108, 101, 47, 112, 105, 120, 101, 108, 119, 111, 114, 107, 115, 47, 108, 97, 119, 115, 46, 70, 110, 70, 108, 111, 111, 100, 82, 101, 103, 105, 111, 110, 83, 97, 109, 101, 32, 108, 111, 111, 112, 46, 101, 120, 97, 109, 112, 108, 101, 47, 112, 105, 120, 101, 108, 119, 111, 114, 107, 115, 47, 108, 97, 119, 115, 46, 70, 110, 70, 108, 111, 111, 100, 82, 101, 103, 105, 111, 110, 32, 108, 111, 111, 112, 46, 101, 120, 97, 109, 112, 108, 101, 47, 112, 105, 120, 101, 108, 119, 111, 114, 107, 115, 47, 108, 97, 119, 115, 46, 70, 110, 69, 120, 97, 99, 116, 67, 104, 97, 110, 103, 101, 100, 66, 111, 120, 101, 115, 32, 108, 111, 111, 112, 46, 101, 120, 97, 109, 112, 108, 101, 47, 112, 105, 120, 101, 108, 119, 111, 114, 107, 115, 47, 108, 97, 119, 115, 46, 70, 110, 67, 104, 97, 110, 103, 101, 100, 66, 111, 120, 101, 115, 32, 108, 111, 111, 112, 46, 101, 120, 97, 109, 112, 108, 101, 47, 112, 105, 120, 101, 108, 119, 111, 114, 107, 115, 47, 108, 97, 119, 115, 46, 70, 110, 80, 97, 116, 99, 104, 73, 109, 97, 103, 101].map Char.ofNat
theorem signs0 : Try.prog.initOrder = String.ofList (w1 ++ Char.ofNat 32 :: (w2 ++ Char.ofNat 32 :: (w3 ++ Char.ofNat 32 :: w4))) := by kernel_rfl
theorem behind : behindMainWord (wordsSigns Try.prog.initOrder.toList) = w3 :: wordsSigns w4 := by
  rw [signs0, String.toList_ofList, wordsSigns_word w1 _ (by kernel_rfl), wordsSigns_word w2 _ (by kernel_rfl), wordsSigns_word w3 _ (by kernel_rfl)]
  unfold behindMainWord
  dsimp only
  rw [if_pos (by kernel_rfl)]
theorem strip_cut (R : List (List Char)) : stripLifts liftWords (w3 :: R) = ([], w3 :: R) := by kernel_rfl
theorem mayEnter_of (P : Program) (R : List (List Char)) (h : behindMainWord (wordsSigns P.initOrder.toList) = w3 :: R) (h1 : P.laysLater = false) (h2 : P.bearsReflect = false) (h3 : P.doorFits [] = true) : P.mayEnter = true := by
  unfold Program.mayEnter
  rw [h]
  dsimp only
  rw [strip_cut, h1, h2, h3]
  kernel_rfl
theorem liftsFinal_of (P : Program) (R : List (List Char)) (h : behindMainWord (wordsSigns P.initOrder.toList) = w3 :: R) : P.liftsFinal = false := by
  unfold Program.liftsFinal Program.headLifts
  rw [h]
  dsimp only
  rw [strip_cut]
  kernel_rfl
theorem make_of (P : Program) (R : List (List Char)) (h : behindMainWord (wordsSigns P.initOrder.toList) = w3 :: R) : P.make = some .cut := by
  unfold Program.make
  rw [h]
  kernel_rfl
theorem mayEnter : Try.prog.mayEnter = true := mayEnter_of _ _ behind (by kernel_rfl) (by kernel_rfl) (by kernel_rfl)
theorem liftsFinal : Try.prog.liftsFinal = false := liftsFinal_of _ _ behind
theorem make : Try.prog.make = some .cut := make_of _ _ behind
end Go.Proofs.Ytbgohbinonkhfaa.Head

-- the row of the law FnExactFloodRegion
namespace Go.Proofs.Ytbgohbinonkhfaa.fnExactFloodRegion
open Go.ChangeShapes Go.WideShapes Go.ChangeAt Go.RowKit Go.Proofs.Ytbgohbinonkhfaa.Q Go.Proofs.YtbgohbinonkhfaaW.PrintWords
open Go.ChangeMaps (open_string shut_string)
set_option linter.unusedVariables false
theorem own : ownKnob Try.prog.godebug = none := by kernel_rfl
theorem laidOut : laidOutB Try.prog = true := by kernel_rfl
set_option maxHeartbeats 4000000 in
set_option maxRecDepth 100000 in
theorem lifted (os : Os) (started : os.Started) (H : Type) (enc : TypeId × Value → H) :
    ReturnsInHanded {} Try.checked os 5 .any (Rows.fnExactFloodRegionSpec.pre6 enc Try.prog Try.f5 Rows.fnExactFloodRegionRow.domain false) (Rows.fnExactFloodRegionSpec.post enc Try.prog Try.f5 false true false false) := by
  refine returnsInHanded_of_change_sized (C := Try.checked) own started (by kernel_rfl) Try.func5
    (ChangeSpec.witness6 (enc := enc) (C := Try.checked) false ⟨#[], #[.agg #[.int .i64 0, .int .i64 0, .int .i64 0, .slice none 0 0], .int .i64 0, .int .i64 0, .int .i64 0], []⟩ 8 (by kernel_rfl) (by kernel_rfl) (by kernel_rfl) (by kernel_rfl)) ?_
  intro W base args ds gs before hval0 hW hcnd hsz0 _
  have hval : ∀ (j : Nat) t v, Try.f5.params[j]? = some t → args[j]? = some v → Value.okWide Try.prog W .any base t v := hval0
  have hW' := hW
  obtain ⟨p, q, hA0, hV, rfl, hfz, hnd⟩ := hW
  have hA : DataW.TrodAll enc Try.prog W 0 (fun _ => true) true Try.f5.params.toList args.toList ds p := hA0
  rw [Try.params5] at hA hval
  obtain ⟨v0, vs0, d0, ds0, p0, q0, hargs, rfl, rfl, h0, r0⟩ := trodAll_cons hA
  obtain ⟨v1, vs1, d1, ds1, p1, q1, rfl, rfl, rfl, h1, r1⟩ := trodAll_cons r0
  obtain ⟨v2, vs2, d2, ds2, p2, q2, rfl, rfl, rfl, h2, r2⟩ := trodAll_cons r1
  obtain ⟨v3, vs3, d3, ds3, p3, q3, rfl, rfl, rfl, h3, r3⟩ := trodAll_cons r2
  obtain ⟨rfl, rfl, rfl⟩ := trodAll_nil r3
  obtain rfl : args = #[v0, v1, v2, v3] := by cases args; simp_all
  obtain ⟨rfl, rfl⟩ := trodVars_none hV
  have k0 := h0
  have lt0 : ∀ x ∈ p0, x.block < W.heap.size := by obtain ⟨m, hm⟩ := k0; exact DataW.trod_lt m _ _ _ hm
  obtain ⟨fuel0, hf0⟩ := h0
  obtain ⟨cs0, rfl, hsz0⟩ := okWide_struct Try.underlying24 (hval 0 24 v0 rfl rfl)
  obtain ⟨y0, hK0, hq0⟩ := o24 _ _ _ _ _ _ hf0
  obtain ⟨A0_3, c0_3, hcs0, hc0_3, hr0_3⟩ := k24_open hK0
  obtain rfl : cs0 = #[.int .i64 y0.f0, .int .i64 y0.f1, .int .i64 y0.f2, .slice A0_3 y0.f3.length c0_3] := by cases cs0; simpa [Value.cells] using hcs0
  obtain ⟨a1, rfl, rfl, rfl, w1⟩ := open_int Try.underlying3 (hval 1 3 v1 rfl rfl) h1
  obtain ⟨a2, rfl, rfl, rfl, w2⟩ := open_int Try.underlying3 (hval 2 3 v2 rfl rfl) h2
  obtain ⟨a3, rfl, rfl, rfl, w3⟩ := open_int Try.underlying3 (hval 3 3 v3 rfl rfl) h3
  clear hA0 hval0 hsz0
  obtain ⟨k, hh⟩ := Pure.FnExactFloodRegion y0.f0 y0.f1 y0.f2 y0.f3 a1 a2 a3 hq0.1 hq0.2.1 hq0.2.2.1 hq0.2.2.2 hr0_3.2.1 (i64_of _ w1) (i64_of _ w2) (i64_of _ w3)
  refine (Q.laws_FnExactFloodRegion.calls k y0.f0 y0.f1 y0.f2 _ _ y0.f3 a1 a2 a3 true W hr0_3 hc0_3 hh rfl).mono fun e W' hpost => ?_
  obtain ⟨he, bel0⟩ := hpost
  have bel : Below W.heap.size W W' := bel0
  subst he
  exact ⟨_, rfl, _, _, _, [], _, [], hW', trodAll_mk1 (shut_bool Try.underlying4 _), (trodAll_cons_mk (Below.trod laidOut (by kernel_rfl) (of_decide_eq_true (by kernel_rfl)) k0 bel lt0) (trodAll_cons_mk (shut_int Try.underlying3 w1) (trodAll_cons_mk (shut_int Try.underlying3 w2) (trodAll_cons_mk (shut_int Try.underlying3 w3) trodAll_mk0)))), rfl, bel.frame _, fun h => by cases h⟩
set_option maxHeartbeats 4000000 in
theorem closed : joinedFacts Try.prog 5 Try.f5 Rows.fnExactFloodRegionSpec Rows.fnExactFloodRegionRow = true := by
  unfold joinedFacts
  rw [Head.mayEnter, Head.liftsFinal, Head.make]
  simp only [Bool.and_eq_true]
  repeat' apply And.intro
  all_goals first | exact True.intro | (as_aux_lemma => kernel_rfl)
set_option maxHeartbeats 4000000 in
theorem over : Rows.fnExactFloodRegionRow.holds Try.pinned (OpenSpec.ofChange Rows.fnExactFloodRegionSpec) :=
  OpenClaim.holds_of_wide 5 Try.f5 rfl rfl rfl rfl rfl rfl rfl ⟨rfl, rfl, rfl, rfl, rfl⟩ rfl rfl rfl rfl rfl (by kernel_rfl) Try.func5 closed
    (of_decide_eq_true (by kernel_rfl)) (by unfold Func.isWrapper; first | (rw [if_pos (by decide +kernel)]; kernel_rfl) | (rw [if_neg (by decide +kernel)]; exact ⟨rfl, rfl⟩))
    (fun os started H enc _ => lifted os started H enc)
theorem proved : Rows.FnExactFloodRegionSaid := over
#print axioms proved
end Go.Proofs.Ytbgohbinonkhfaa.fnExactFloodRegion
namespace Go.Proofs.Ytbgohbinonkhfaa
/-- The row, under a short name, for the claim. -/
theorem fnExactFloodRegion_holds : Rows.FnExactFloodRegionSaid := fnExactFloodRegion.proved
end Go.Proofs.Ytbgohbinonkhfaa
