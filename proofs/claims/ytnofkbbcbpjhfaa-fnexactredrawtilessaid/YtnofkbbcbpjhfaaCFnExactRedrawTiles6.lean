/- A part of the proof that the statement FnExactRedrawTilesSaid holds, under no condition of its own: The program's RedrawTiles and the reference's return the same, and what is returned is held by nobody else: over lists of numbers alone. -/
import Derived.Test.YtnofkbbcbpjhfaaCFnExactRedrawTiles5
import Derived.Test.YtnofkbbcbpjhfaaCFnExactRedrawTiles2
import Derived.Test.YtnofkbbcbpjhfaaCFnExactRedrawTiles1
import Derived.Test.YtnofkbbcbpjhfaaCFnExactRedrawTiles3
import Derived.Test.YtnofkbbcbpjhfaaCFnExactRedrawTiles4
import Derived.Test.YtnofkbbcbpjhfaaRows
import Derived.JoinedOf
import Derived.KernelRfl
import Derived.WalkKit
import Derived.ProofKit
import Derived.OpenShut
import Derived.ShutString
import Derived.ChangeOld
import Derived.Below
import Derived.SizedLaws
import Derived.Carry
/- Layers: valid ones, as the program and the reference have it; copies of a layer. -/
namespace Go.Proofs.Ytnofkbbcbpjhfaa.Pure
open Go.RowKit Go.Proofs.Ytnofkbbcbpjhfaa.Q Go.Proofs.YtnofkbbcbpjhfaaW.PrintWords Go.Proofs.YtnofkbbcbpjhfaaW.PrintLast Go.Proofs.YtnofkbbcbpjhfaaW.PrintMore
set_option linter.unusedVariables false
set_option linter.unusedSimpArgs false

def layerV (w h p : Int) (d : List Int) (x y m a : Int) (pl : Int) : Bool := validI w h p d && decide (p = pl ∧ -16 ≤ x ∧ x ≤ 16 ∧ -16 ≤ y ∧ y ≤ 16 ∧ 0 ≤ m ∧ m ≤ 4 ∧ 0 ≤ a ∧ a ≤ 255)
theorem layerV_iff (w h p : Int) (d : List Int) (x y m a : Int) (pl : Int) : layerV w h p d x y m a pl = true ↔ validI w h p d = true ∧ p = pl ∧ -16 ≤ x ∧ x ≤ 16 ∧ -16 ≤ y ∧ y ≤ 16 ∧ 0 ≤ m ∧ m ≤ 4 ∧ 0 ≤ a ∧ a ≤ 255 := by simp [layerV]
theorem impl_isModeI_eq (m : Int) : impl_isMode.f m = some (decide (0 ≤ m ∧ m ≤ 4)) := by
 unfold impl_isMode.f
 by_cases c : m ≥ 0
 ·rw [if_pos c]; congr 1; rw [decide_eq_decide]; omega
 ·rw [if_neg c, decide_eq_false (by omega)]
theorem impl_isLayer_eq (w h p : Int) (d : List Int) (x y m a : Int) (b : Bool) (pl : Int) : impl_isLayer.f w h p d x y m a b pl = some (layerV w h p d x y m a pl) := by
 unfold impl_isLayer.f layerV
 rw [impl_isImage_eq, impl_isModeI_eq]
 simp only [Option.bind_some]
 by_cases c : validI w h p d = true
 ·rw [if_pos c, c, Bool.true_and]
  by_cases c1 : p = pl
  ·rw [if_pos c1]
   by_cases c2 : x ≥ -16
   ·rw [if_pos c2]
    by_cases c3 : x ≤ 16
    ·rw [if_pos c3]
     by_cases c4 : y ≥ -16
     ·rw [if_pos c4]
      by_cases c5 : y ≤ 16
      ·rw [if_pos c5]
       by_cases c6 : 0 ≤ m ∧ m ≤ 4
       ·rw [if_pos (by simpa using c6)]
        by_cases c7 : a ≥ 0
        ·rw [if_pos c7]; congr 1; rw [decide_eq_decide]; omega
        ·rw [if_neg c7, decide_eq_false (by omega)]
       ·rw [if_neg (by simpa using c6), decide_eq_false (by omega)]
      ·rw [if_neg c5, decide_eq_false (by omega)]
     ·rw [if_neg c4, decide_eq_false (by omega)]
    ·rw [if_neg c3, decide_eq_false (by omega)]
   ·rw [if_neg c2, decide_eq_false (by omega)]
  ·rw [if_neg c1, decide_eq_false (by omega)]
 ·rw [if_neg c, Bool.eq_false_iff.2 c, Bool.false_and]
theorem spec_validLayer_ev (w h p : Int) (d : List Int) (x y m a : Int) (b : Bool) (pl : Int) (hl : d.length ≤ 1000000000000) : Ev (fun k => spec_validLayer.f k w h p d x y m a b pl) (layerV w h p d x y m a pl) := by
 unfold spec_validLayer.f layerV
 refine ev_bind (spec_validImage_ev w h p d hl) ?_
 by_cases c : validI w h p d = true
 ·refine ev_pos c ?_
  rw [c, Bool.true_and]
  refine ev_const ?_
  rw [spec_inRangeI_eq, spec_inRangeI_eq, spec_inRangeI_eq, spec_inRangeI_eq]
  simp only [Option.bind_some]
  by_cases c1 : p = pl
  ·rw [if_pos c1]
   by_cases c2 : -16 ≤ x ∧ x ≤ 16
   ·rw [if_pos (by simpa using c2)]
    by_cases c3 : -16 ≤ y ∧ y ≤ 16
    ·rw [if_pos (by simpa using c3)]
     by_cases c4 : 0 ≤ m ∧ m ≤ 4
     ·rw [if_pos (by simpa using c4)]; congr 1; rw [Bool.eq_iff_iff]; simp; omega
     ·rw [if_neg (by simpa using c4), decide_eq_false (by omega)]
    ·rw [if_neg (by simpa using c3), decide_eq_false (by omega)]
   ·rw [if_neg (by simpa using c2), decide_eq_false (by omega)]
  ·rw [if_neg c1, decide_eq_false (by omega)]
 ·refine ev_neg c ?_
  rw [Bool.eq_false_iff.2 c, Bool.false_and]
  exact Ev.now _
theorem szLayer_eq (w h p : Int) (d : List Int) (x y m a : Int) (b : Bool) (n : Int) (h0 : 0 ≤ n) (h1 : n ≤ 1048576) (hl : d.length ≤ 9223372036854775807) :
  (d.length ≤ 1048576 ∧ n - (d.length : Int) ≥ 0 ∧ laws_szLayer.f w h p d x y m a b n = some (n - (d.length : Int))) ∨ laws_szLayer.f w h p d x y m a b n = some (-1) := by
 unfold laws_szLayer.f
 rcases szImage_eq w h p d n h0 h1 hl with ⟨e1, e2, e3⟩ | e
 ·left
  rw [e3]
  simp only [Option.bind_some]
  rw [if_neg (by omega)]
  exact ⟨e1, e2, rfl⟩
 ·right
  rw [e]
  simp only [Option.bind_some]
  rw [if_pos (by omega)]
theorem toLayer_ev (w h p : Int) (d : List Int) (x y m a : Int) (b : Bool) (hl : d.length ≤ 2000000) : Ev (fun k => laws_toLayer.f k w h p d x y m a b) (w, h, p, d, x, y, m, a, b) := by
 unfold laws_toLayer.f
 exact ev_bind (toImage_ev w h p d hl) (Ev.now _)
theorem eqLayer_ev (w h p : Int) (d : List Int) (x y m a : Int) (b : Bool) (hl : d.length ≤ 1000000000000) : Ev (fun k => laws_eqLayer.f k w h p d x y m a b w h p d x y m a b) true := by
 unfold laws_eqLayer.f
 exact ev_bind (eqImage_ev w h p d hl) (ev_pos rfl (ev_pos rfl (ev_pos rfl (ev_pos rfl (ev_pos rfl (ev_neg (by simp) (Ev.now _)))))))

/- CoverImage, as the program and the reference have it. -/

theorem cover_byte (mode a b alpha : Int) (ha : 0 ≤ a) (ha' : a ≤ 255) (hb : 0 ≤ b) (hb' : b ≤ 255) (h : 0 ≤ alpha) (h' : alpha ≤ 255) : 0 ≤ coverN mode a b alpha ∧ coverN mode a b alpha ≤ 255 := by
 have h1 := cover_between mode a b alpha ha ha' hb hb' h h'
 have h2 := mixN_range mode a b ha ha' hb hb'
 omega
def AllB (d : List Int) : Prop := ∀ n ∈ d, 0 ≤ n ∧ n ≤ 255
theorem allB_at {d : List Int} (h : AllB d) (i : Nat) (hi : i < d.length) : 0 ≤ d[i] ∧ d[i] ≤ 255 := h _ (List.getElem_mem hi)
theorem allB_nx {d : List Int} (h : AllB d) (n i : Nat) : AllB (nx n d i) := fun x hx => h x (List.mem_of_mem_drop (List.mem_of_mem_take hx))
theorem blV_cover {mode alpha n u : Int} (h1 : 0 ≤ alpha ∧ alpha ≤ 255) (h2 : 0 ≤ n ∧ n ≤ 255) (h3 : 0 ≤ u ∧ u ≤ 255) : blV mode alpha n u = coverN mode n u alpha := by
 unfold blV
 rw [blended_eq mode n u alpha h2.1 h2.2 h3.1 h3.2 h1.1 h1.2]
 rfl
def covL (mode alpha : Int) (l u : List Int) : List Int := List.zipWith (fun n m => coverN mode n m alpha) l u
theorem zip_cover {mode alpha : Int} (h1 : 0 ≤ alpha ∧ alpha ≤ 255) : ∀ {l u : List Int}, AllB l → AllB u → List.zipWith (blV mode alpha) l u = covL mode alpha l u := by
 intro l
 induction l with
 | nil => intro u _ _; rfl
 | cons x l ih =>
  intro u hl hu
  cases u with
  | nil => rfl
  | cons y u =>
   unfold covL at ih ⊢
   rw [List.zipWith_cons_cons, List.zipWith_cons_cons, blV_cover h1 (hl x (by simp)) (hu y (by simp)), ih (fun z hz => hl z (by simp [hz])) (fun z hz => hu z (by simp [hz]))]
theorem covL_len {mode alpha : Int} {l u : List Int} {n : Nat} (h1 : l.length = n) (h2 : u.length = n) : (covL mode alpha l u).length = n := by unfold covL; rw [List.length_zipWith]; omega
theorem covL_bytes {mode alpha : Int} (h1 : 0 ≤ alpha ∧ alpha ≤ 255) {l u : List Int} (hl : AllB l) (hu : AllB u) : AllB (covL mode alpha l u) := by
 intro z hz
 unfold covL at hz
 obtain ⟨i, hi, rfl⟩ := List.getElem_of_mem hz
 rw [List.length_zipWith] at hi
 rw [List.getElem_zipWith]
 have a := allB_at hl i (by omega)
 have b := allB_at hu i (by omega)
 exact cover_byte _ _ _ _ a.1 a.2 b.1 b.2 h1.1 h1.2
def covPx (an pn : Nat) (d : List Int) (X Y : Int) (wn hn : Nat) (e : List Int) (mode alpha : Int) (x y : Nat) : List Int :=
 if X ≤ (x : Int) ∧ (x : Int) < X + wn ∧ Y ≤ (y : Int) ∧ (y : Int) < Y + hn then covL mode alpha (nx pn d (y * an + x)) (nx pn e (((y : Int) - Y).toNat * wn + ((x : Int) - X).toNat)) else nx pn d (y * an + x)
theorem covPx_len {an bn pn wn hn : Nat} {d e : List Int} {X Y : Int} (mode alpha : Int) (hd : d.length = (bn * an) * pn) (he : e.length = (hn * wn) * pn) : ∀ x y, x < an → y < bn → (covPx an pn d X Y wn hn e mode alpha x y).length = pn := by
 intro x y hx hy
 unfold covPx
 split
 ·exact covL_len (nx_length hd (lin_lt hx hy)) (nx_length he (lin_lt (by omega) (by omega)))
 ·exact nx_length hd (lin_lt hx hy)
theorem coverPx_cov {an bn pn wn hn : Nat} (h1 : an ≤ 16) (h2 : bn ≤ 16) (h3 : pn ≤ 4) (h4 : wn ≤ 16) (h5 : hn ≤ 16) {d e : List Int} {X Y mode alpha : Int} (ha : 0 ≤ alpha ∧ alpha ≤ 255) (hd : AllB d) (he : AllB e) {x y : Nat} (hx : x < an) (hy : y < bn) :
  coverPx an pn d wn hn e X Y mode alpha x y = covPx an pn d X Y wn hn e mode alpha x y := by
 unfold coverPx covPx inBoxZ
 by_cases c : X ≤ (x : Int) ∧ (x : Int) < X + wn ∧ Y ≤ (y : Int) ∧ (y : Int) < Y + hn
 ·rw [if_pos c, if_pos (decide_eq_true c), pxAt_nat h1 h2 h3 hx hy, pxAt_nat h4 h5 h3 (by omega) (by omega)]
  exact zip_cover ha (allB_nx hd _ _) (allB_nx he _ _)
 ·rw [if_neg c, if_neg (by simpa using c), pxAt_nat h1 h2 h3 hx hy]
theorem laid_get (s zs : List Int) (j q : Nat) (hq : q < zs.length) (hj : j + zs.length ≤ s.length) : (laidOver s j (zs.take q)).getD (j + q) 0 = s.getD (j + q) 0 := by
 have h1 : (zs.take q).length = q := by rw [List.length_take]; omega
 have h2 : (s.take j).length = j := by rw [List.length_take]; omega
 unfold laidOver
 rw [List.getD_eq_getElem?_getD, List.getElem?_append_right (by omega), h2, Nat.add_sub_cancel_left, List.getElem?_append_right (by omega), h1, Nat.sub_self, List.getElem?_drop, Nat.add_zero, List.getD_eq_getElem?_getD]
theorem nx_getD (s : List Int) (n i q : Nat) (hq : q < n) : (nx n s i).getD q 0 = s.getD (i * n + q) 0 := by
 unfold nx
 rw [List.getD_eq_getElem?_getD, List.getElem?_take, if_pos hq, List.getElem?_drop, List.getD_eq_getElem?_getD]
theorem rd_getD (l : List Int) (i : Nat) : rd l (i : Int) = l.getD i 0 := by simp [rd]
theorem blendPx_ev {an bn pn wn hn : Nat} {X Y mode alpha : Int} (hid : Bool) (hal : 0 ≤ alpha ∧ alpha ≤ 255) (r c : Nat) (hr : r ≤ 16) (hc : c ≤ 16) (s e : List Int) (jd je : Nat) (hs1 : s.length ≤ 1024) (he1 : e.length ≤ 1024) (hm : jd * pn + pn ≤ s.length) (hme : je * pn + pn ≤ e.length) (hp : pn ≤ 4) (hdb : AllB (nx pn s jd)) (heb : AllB (nx pn e je))
  (hJ : wrap64 ((wrap64 ((wrap64 ((wrap64 ((wrap64 (Y + (r : Int))) * (an : Int))) + X)) + (c : Int))) * (pn : Int)) = ((jd * pn : Nat) : Int)) (hJe : wrap64 ((wrap64 ((wrap64 ((r : Int) * (wn : Int))) + (c : Int))) * (pn : Int)) = ((je * pn : Nat) : Int)) (res : List Int)
  (hres : Ev (fun k => spec_blendPaste.l1 k (r : Int) ((c + 1 : Nat) : Int) an bn pn (laidOver s (jd * pn) (covL mode alpha (nx pn s jd) (nx pn e je))) wn hn pn e X Y mode alpha hid) res) :
  Ev (fun k => spec_blendPaste.l2 k (r : Int) (c : Int) 0 an bn pn s wn hn pn e X Y mode alpha hid) res := by
 have HJ := Aside0.mk hJ
 have HJe := Aside0.mk hJe
 clear hJ hJe
 have hl1 : (nx pn s jd).length = pn := by unfold nx; rw [List.length_take, List.length_drop]; omega
 have hl2 : (nx pn e je).length = pn := by unfold nx; rw [List.length_take, List.length_drop]; omega
 obtain ⟨zs, hzs⟩ : ∃ zs, zs = covL mode alpha (nx pn s jd) (nx pn e je) := ⟨_, rfl⟩
 have hyl : zs.length = pn := by rw [hzs]; exact covL_len hl1 hl2
 rw [← hzs] at hres
 have hz : ∀ q (hq : q < pn), zs[q]'(by rw [hyl]; exact hq) = coverN mode ((nx pn s jd).getD q 0) ((nx pn e je).getD q 0) alpha := by
  intro q hq
  have hzq : zs[q]? = some (coverN mode ((nx pn s jd).getD q 0) ((nx pn e je).getD q 0) alpha) := by
   rw [hzs]
   unfold covL
   rw [List.getElem?_zipWith, List.getElem?_eq_getElem (show q < (nx pn s jd).length by omega), List.getElem?_eq_getElem (show q < (nx pn e je).length by omega), List.getD_eq_getElem?_getD, List.getElem?_eq_getElem (show q < (nx pn s jd).length by omega), List.getD_eq_getElem?_getD, List.getElem?_eq_getElem (show q < (nx pn e je).length by omega)]
   rfl
  rw [List.getElem?_eq_getElem (show q < zs.length by omega)] at hzq
  exact Option.some.inj hzq
 have hb : ∀ q, q < pn → (0 ≤ (nx pn s jd).getD q 0 ∧ (nx pn s jd).getD q 0 ≤ 255) ∧ (0 ≤ (nx pn e je).getD q 0 ∧ (nx pn e je).getD q 0 ≤ 255) := by
  intro q hq
  refine ⟨?_, ?_⟩
  ·rw [List.getD_eq_getElem?_getD, List.getElem?_eq_getElem (show q < (nx pn s jd).length by omega)]; exact allB_at hdb q (by omega)
  ·rw [List.getD_eq_getElem?_getD, List.getElem?_eq_getElem (show q < (nx pn e je).length by omega)]; exact allB_at heb q (by omega)
 have hg : ∀ q, q < pn → rd (laidOver s (jd * pn) (zs.take q)) ((jd * pn + q : Nat) : Int) = (nx pn s jd).getD q 0 := fun q hq => by rw [rd_getD, laid_get s zs _ q (by omega) (by omega), ← nx_getD s pn jd q hq]
 have hg2 : ∀ q, q < pn → rd e ((je * pn + q : Nat) : Int) = (nx pn e je).getD q 0 := fun q hq => by rw [rd_getD, ← nx_getD e pn je q hq]
 have hls : ∀ q, q < pn → (laidOver s (jd * pn) (zs.take q)).length = s.length := fun q hq => laidOver_length s _ _ (by rw [List.length_take]; omega)
 have hset : ∀ q (hq : q < pn), (laidOver s (jd * pn) (zs.take q)).set (jd * pn + q) (zs[q]'(by rw [hyl]; exact hq)) = laidOver s (jd * pn) (zs.take (q + 1)) := fun q hq => laid_set s zs (jd * pn) q (by omega) (by omega)
 clear hzs hdb heb
 generalize nx pn s jd = S at *
 generalize nx pn e je = E at *
 generalize hjp : jd * pn = j at *
 generalize hjq : je * pn = i at *
 clear hjp hjq
 obtain ⟨s2, hs2, hk⟩ := ev_run pn (fun k q s' => spec_blendPaste.l2 k (r : Int) (c : Int) (q : Int) an bn pn s' wn hn pn e X Y mode alpha hid) (fun s' k => spec_blendPaste.l1 k (r : Int) ((c + 1 : Nat) : Int) an bn pn s' wn hn pn e X Y mode alpha hid) (fun q s' => s' = laidOver s j (zs.take q))
  (by
   intro q s' hq hs'
   subst hs'
   refine ⟨_, hset q hq, fun res hres => Ev.step (fun k => ?_) hres⟩
   have b := hb q hq
   have hh := hls q hq
   have a1 := Aside0.mk (show wrap64 ((j : Int) + (q : Int)) = ((j + q : Nat) : Int) from by rw [w64 (by omega) (by omega)]; push_cast; rfl)
   have a2 := Aside0.mk (show wrap64 ((i : Int) + (q : Int)) = ((i + q : Nat) : Int) from by rw [w64 (by omega) (by omega)]; push_cast; rfl)
   have hp1 : (q : Int) < (pn : Int) := by omega
   have hp2 : (0 : Int) ≤ ((j + q : Nat) : Int) := by omega
   have hp3 : ((j + q : Nat) : Int) < ((laidOver s j (zs.take q)).length : Int) := by rw [hh]; omega
   have hp4 : (0 : Int) ≤ ((i + q : Nat) : Int) := by omega
   have hp5 : ((i + q : Nat) : Int) < (e.length : Int) := by omega
   simp only [spec_blendPaste.l2]
   rw [HJ.out, HJe.out, a1.out, a2.out, hg q hq, hg2 q hq, if_pos hp1, if_pos hp2, if_pos hp3, if_pos hp4, if_pos hp5, blend_eq mode _ _ alpha b.1.1 b.1.2 b.2.1 b.2.2 hal.1 hal.2]
   simp only [Option.bind_some]
   rw [← hz q hq, w64n q (by omega), Int.toNat_natCast])
  (by
   intro s' _ res hres
   refine Ev.step (fun k => ?_) hres
   simp only [spec_blendPaste.l2]
   rw [if_neg (by omega), w64n c (by omega)])
  pn 0 s (by omega) (by unfold laidOver; simp)
 rw [List.take_of_length_le (by omega)] at hs2
 subst hs2
 exact hk _ hres
theorem at_px2 {an pn x0 y0 r c : Nat} {X Y : Int} (h1 : an ≤ 16) (hy : y0 ≤ 16) (hx0 : X + (c : Int) = (x0 : Int)) (hy0 : Y + (r : Int) = (y0 : Int)) (hX : -16 ≤ X ∧ X ≤ 16) (hY : -16 ≤ Y ∧ Y ≤ 16) (hr : r ≤ 16) (hc : c ≤ 16) (hJ : pixJ an pn x0 y0 = (((y0 * an + x0) * pn : Nat) : Int)) :
  wrap64 ((wrap64 ((wrap64 ((wrap64 ((wrap64 (Y + (r : Int))) * (an : Int))) + X)) + (c : Int))) * (pn : Int)) = (((y0 * an + x0) * pn : Nat) : Int) := by
 rw [← hJ]
 unfold pixJ
 clear hJ
 have hya : y0 * an ≤ 16 * 16 := Nat.mul_le_mul hy h1
 rw [hy0, w64 (x := (y0 : Int)) (by omega) (by omega)]
 have e1 : ((y0 : Int) * (an : Int)) = ((y0 * an : Nat) : Int) := by push_cast; rfl
 rw [e1]
 clear e1
 generalize y0 * an = t at *
 rw [w64 (x := (t : Int)) (by omega) (by omega), w64 (x := (t : Int) + X) (by omega) (by omega), show (t : Int) + X + (c : Int) = (t : Int) + (x0 : Int) by omega]
theorem blendPaste_ev {an bn pn wn hn : Nat} {X Y mode alpha : Int} (hid : Bool) (h1 : 1 ≤ an ∧ an ≤ 16) (h2 : 1 ≤ bn ∧ bn ≤ 16) (h3 : pn ≤ 4) (h4 : wn ≤ 16) (h5 : hn ≤ 16) (hX : -16 ≤ X ∧ X ≤ 16) (hY : -16 ≤ Y ∧ Y ≤ 16) (hal : 0 ≤ alpha ∧ alpha ≤ 255) (d e : List Int) (hd : d.length = (bn * an) * pn) (he : e.length = (hn * wn) * pn) (hdb : AllB d) (heb : AllB e) :
  Ev (fun k => spec_blendPaste.f k an bn pn d wn hn pn e X Y mode alpha hid) (imgD (covPx an pn d X Y wn hn e mode alpha) an bn) := by
 unfold spec_blendPaste.f
 have hlen := covPx_len (X := X) (Y := Y) mode alpha hd he
 let I : Nat → Nat → List Int → Prop := fun r c s => s.length = (bn * an) * pn ∧ ∀ x y : Nat, x < an → y < bn → nx pn s (y * an + x) = if X ≤ (x : Int) ∧ (x : Int) < X + wn ∧ Y ≤ (y : Int) ∧ (y : Int) < Y + hn ∧ ((y : Int) < Y + r ∨ ((y : Int) = Y + r ∧ (x : Int) < X + c)) then covL mode alpha (nx pn d (y * an + x)) (nx pn e (((y : Int) - Y).toNat * wn + ((x : Int) - X).toNat)) else nx pn d (y * an + x)
 have inner : ∀ (r : Nat), r < hn → ∀ s : List Int, I r 0 s → ∃ s' : List Int, I (r + 1) 0 s' ∧
    ∀ res, Ev (fun k => spec_blendPaste.l0 k ((r + 1 : Nat) : Int) an bn pn s' wn hn pn e X Y mode alpha hid) res → Ev (fun k => spec_blendPaste.l1 k (r : Int) 0 an bn pn s wn hn pn e X Y mode alpha hid) res := by
  intro r hr s hs
  obtain ⟨s', i4, i5⟩ := ev_run wn (fun k c s => spec_blendPaste.l1 k (r : Int) (c : Int) an bn pn s wn hn pn e X Y mode alpha hid) (fun s k => spec_blendPaste.l0 k ((r + 1 : Nat) : Int) an bn pn s wn hn pn e X Y mode alpha hid) (fun c s => I r c s)
   (by
    intro c s hc ⟨hsl, i1⟩
    have w1 := w64 (x := X + (c : Int)) (by omega) (by omega)
    have w2 := w64 (x := Y + (r : Int)) (by omega) (by omega)
    by_cases on : 0 ≤ X + (c : Int) ∧ X + (c : Int) < an ∧ 0 ≤ Y + (r : Int) ∧ Y + (r : Int) < bn
    ·obtain ⟨x0, hx0⟩ := Int.eq_ofNat_of_zero_le on.1
     obtain ⟨y0, hy0⟩ := Int.eq_ofNat_of_zero_le on.2.2.1
     have hx0a : x0 < an := by omega
     have hy0b : y0 < bn := by omega
     have hel : (nx pn e (r * wn + c)).length = pn := nx_length he (lin_lt hc hr)
     have hdl : (nx pn d (y0 * an + x0)).length = pn := nx_length hd (lin_lt hx0a hy0b)
     have hlin := lin_lt hx0a hy0b
     obtain ⟨zs, hzs⟩ : ∃ zs, zs = covL mode alpha (nx pn d (y0 * an + x0)) (nx pn e (r * wn + c)) := ⟨_, rfl⟩
     have hyl : zs.length = pn := by rw [hzs]; exact covL_len hdl hel
     have hm : (y0 * an + x0 + 1) * pn ≤ (bn * an) * pn := Nat.mul_le_mul_right pn hlin
     rw [Nat.add_mul, Nat.one_mul] at hm
     have hme : (r * wn + c + 1) * pn ≤ (hn * wn) * pn := Nat.mul_le_mul_right pn (lin_lt hc hr)
     rw [Nat.add_mul, Nat.one_mul] at hme
     have sm := small h1.2 h2.2 h3
     have sme := small h4 h5 h3
     have hsd : nx pn s (y0 * an + x0) = nx pn d (y0 * an + x0) := by rw [i1 x0 y0 hx0a hy0b, if_neg (by omega)]
     refine ⟨laidOver s ((y0 * an + x0) * pn) zs, ⟨by rw [laidOver_length _ _ _ (by rw [hyl, hsl]; exact hm)]; exact hsl, ?_⟩, ?_⟩
     ·intro x y hx hy
      rw [nx_laid hsl hyl hlin (lin_lt hx hy)]
      by_cases q : x = x0 ∧ y = y0
      ·obtain ⟨rfl, rfl⟩ := q
       rw [if_pos rfl, if_pos (by omega), show ((y : Int) - Y).toNat = r by omega, show ((x : Int) - X).toNat = c by omega]
       exact hzs
      ·rw [if_neg (fun z => q (lin_ne hx hx0a z)), i1 x y hx hy]
       by_cases z : X ≤ (x : Int) ∧ (x : Int) < X + wn ∧ Y ≤ (y : Int) ∧ (y : Int) < Y + hn ∧ ((y : Int) < Y + r ∨ ((y : Int) = Y + r ∧ (x : Int) < X + c))
       ·rw [if_pos z, if_pos (by omega)]
       ·rw [if_neg z, if_neg (by omega)]
     ·intro res hres
      have HJ2 := Aside0.mk (at_px2 (X := X) (Y := Y) (x0 := x0) (y0 := y0) (r := r) (c := c) h1.2 (by omega) hx0 hy0 hX hY (by omega) (by omega) (pixJ_nat h1.2 h2.2 h3 hx0a hy0b).1)
      have HJe := Aside0.mk (pixJ_nat h4 h5 h3 hc hr).1
      have HB1 := Aside0.mk (show AllB (nx pn s (y0 * an + x0)) from by rw [hsd]; exact allB_nx hdb _ _)
      have q1 : s.length ≤ 1024 := by omega
      have q2 : e.length ≤ 1024 := by omega
      have q3 : (y0 * an + x0) * pn + pn ≤ s.length := by omega
      have q4 : (r * wn + c) * pn + pn ≤ e.length := by omega
      have HX1 := Aside0.mk (show zs = covL mode alpha (nx pn s (y0 * an + x0)) (nx pn e (r * wn + c)) from by rw [hzs, hsd])
      clear hzs hsd i1
      rw [HX1.out] at hres
      refine Ev.step (f := fun k => (spec_onImage.f an bn pn s (X + (c : Int)) (Y + (r : Int))).bind fun u => if u = true then spec_blendPaste.l2 k (r : Int) (c : Int) 0 an bn pn s wn hn pn e X Y mode alpha hid else spec_blendPaste.l1 k (r : Int) ((c + 1 : Nat) : Int) an bn pn s wn hn pn e X Y mode alpha hid) (fun k => ?_) (ev_now (onImage_eq h1 h2 _ _ _ _) (ev_pos (decide_eq_true on) (blendPx_ev hid hal r c (by omega) (by omega) s e (y0 * an + x0) (r * wn + c) q1 q2 q3 q4 h3 HB1.out (allB_nx heb _ _) HJ2.out HJe.out res hres)))
      simp only [spec_blendPaste.l1]
      rw [if_pos (by omega), w1, w2, w64n c (by omega)]
    ·refine ⟨s, ⟨hsl, fun x y hx hy => ?_⟩, ?_⟩
     ·rw [i1 x y hx hy]
      by_cases z : X ≤ (x : Int) ∧ (x : Int) < X + wn ∧ Y ≤ (y : Int) ∧ (y : Int) < Y + hn ∧ ((y : Int) < Y + r ∨ ((y : Int) = Y + r ∧ (x : Int) < X + c))
      ·rw [if_pos z, if_pos (by omega)]
      ·rw [if_neg z, if_neg (by omega)]
     ·intro res hres
      refine Ev.step (f := fun k => (spec_onImage.f an bn pn s (X + (c : Int)) (Y + (r : Int))).bind fun u => if u = true then spec_blendPaste.l2 k (r : Int) (c : Int) 0 an bn pn s wn hn pn e X Y mode alpha hid else spec_blendPaste.l1 k (r : Int) ((c + 1 : Nat) : Int) an bn pn s wn hn pn e X Y mode alpha hid) (fun k => ?_) (ev_now (onImage_eq h1 h2 _ _ _ _) (ev_neg (by simpa using on) hres))
      simp only [spec_blendPaste.l1]
      rw [if_pos (by omega), w1, w2, w64n c (by omega)])
   (by
    intro s _ res hres
    refine Ev.step (fun k => ?_) hres
    simp only [spec_blendPaste.l1]
    rw [if_neg (by omega), w64n r (by omega)])
   wn 0 s (by omega) hs
  refine ⟨s', ⟨i4.1, fun x y hx hy => ?_⟩, i5⟩
  rw [i4.2 x y hx hy]
  by_cases z : X ≤ (x : Int) ∧ (x : Int) < X + wn ∧ Y ≤ (y : Int) ∧ (y : Int) < Y + hn ∧ ((y : Int) < Y + r ∨ ((y : Int) = Y + r ∧ (x : Int) < X + wn))
  ·rw [if_pos z, if_pos (by omega)]
  ·rw [if_neg z, if_neg (by omega)]
 obtain ⟨s', i4, i5⟩ := ev_run hn (fun k r s => spec_blendPaste.l0 k (r : Int) an bn pn s wn hn pn e X Y mode alpha hid) (fun s _ => some s) (fun r s => I r 0 s)
  (by
   intro r s hr hs
   obtain ⟨s', i1, i2⟩ := inner r hr s hs
   refine ⟨s', i1, fun res hres => Ev.step (fun k => ?_) (i2 res hres)⟩
   simp only [spec_blendPaste.l0]
   rw [if_pos (by omega)])
  (by
   intro s _ res hres
   refine Ev.step (fun k => ?_) hres
   simp only [spec_blendPaste.l0]
   rw [if_neg (by omega)])
  hn 0 d (by omega) ⟨hd, fun x y hx hy => by rw [if_neg (by omega)]⟩
 have q : s' = imgD (covPx an pn d X Y wn hn e mode alpha) an bn := ext_img i4.1 (imgD_length hlen) (fun x y hx hy => by
  rw [i4.2 x y hx hy, nx_imgD hlen hx hy]
  unfold covPx
  by_cases z : X ≤ (x : Int) ∧ (x : Int) < X + wn ∧ Y ≤ (y : Int) ∧ (y : Int) < Y + hn
  ·rw [if_pos z, if_pos (by omega)]
  ·rw [if_neg z, if_neg (by omega)])
 subst q
 exact i5 _ (Ev.now _)

/- Layers that cover an image, one after the other, as the program and the reference have it. -/

abbrev Lay := S55
theorem valid_imgC {an bn pn : Nat} {px : Nat → Nat → List Int} (h1 : 1 ≤ an ∧ an ≤ 16) (h2 : 1 ≤ bn ∧ bn ≤ 16) (h3 : 1 ≤ pn ∧ pn ≤ 4) (hl : ∀ x y, x < an → y < bn → (px x y).length = pn) (hb : ∀ x y, x < an → y < bn → AllB (px x y)) : validI an bn pn (imgD px an bn) = true := by
 refine (validI_iff _ _ _ _).2 ⟨by omega, by rw [imgD_length hl, Nat.mul_comm bn an]; push_cast; rfl, fun n hn => ?_⟩
 unfold imgD rowD at hn
 obtain ⟨y, hy, hn⟩ := List.mem_flatMap.1 hn
 obtain ⟨x, hx, hn⟩ := List.mem_flatMap.1 hn
 exact hb x y (List.mem_range.1 hx) (List.mem_range.1 hy) n hn
theorem valid_le {a b p : Int} {d : List Int} (hv : validI a b p d = true) : d.length ≤ 1024 := by
 obtain ⟨an, bn, pn, _, _, _, q1, q2, q3, q4, q5, q6, q7⟩ := nat_of hv
 rw [q7]
 exact Nat.mul_le_mul (Nat.mul_le_mul q4 q2) q6
def okL (p : Int) (l : Lay) : Bool := layerV l.f0.f0 l.f0.f1 l.f0.f2 l.f0.f3 l.f1 l.f2 l.f3 l.f4 p
def covD (a b p : Int) (d : List Int) (l : Lay) : List Int := imgD (covPx a.toNat p.toNat d l.f1 l.f2 l.f0.f0.toNat l.f0.f1.toNat l.f0.f3 l.f3 l.f4) a.toNat b.toNat
def onD (a b p : Int) (d : List Int) (l : Lay) : List Int := if l.f5 = true then d else covD a b p d l
def flatD (a b p : Int) : List Int → List Lay → List Int
 | d, [] => d
 | d, l :: ls => flatD a b p (onD a b p d l) ls
def flatV (a b p : Int) (d : List Int) (ls : List Lay) : Int × Int × Int × List Int × Bool := if validI a b p d = true ∧ ls.length ≤ 6 ∧ ls.all (okL p) = true then (a, b, p, flatD a b p d ls, true) else (0, 0, 0, [], false)
theorem covD_valid {a b p : Int} {d : List Int} {l : Lay} (hv : validI a b p d = true) (ho : okL p l = true) : validI a b p (covD a b p d l) = true := by
 obtain ⟨hvl, e, hx1, hx2, hy1, hy2, _, _, ha1, ha2⟩ := (layerV_iff _ _ _ _ _ _ _ _ _).1 ho
 have hb1 := ((validI_iff _ _ _ _).1 hv).2.2
 have hb2 := ((validI_iff _ _ _ _).1 hvl).2.2
 obtain ⟨an, bn, pn, rfl, rfl, rfl, q1, q2, q3, q4, q5, q6, q7⟩ := nat_of hv
 obtain ⟨wn, hn, pm, e1, e2, hpm, q11, q12, q13, q14, _, _, q17⟩ := nat_of hvl
 obtain rfl : pn = pm := Int.ofNat.inj (e.symm.trans hpm)
 unfold covD
 rw [e1, e2]
 simp only [Int.toNat_natCast]
 refine valid_imgC ⟨q1, q2⟩ ⟨q3, q4⟩ ⟨q5, q6⟩ (covPx_len _ _ q7 q17) (fun x y hx hy => ?_)
 unfold covPx
 split
 ·exact covL_bytes ⟨ha1, ha2⟩ (allB_nx hb1 _ _) (allB_nx hb2 _ _)
 ·exact allB_nx hb1 _ _
theorem onD_valid {a b p : Int} {d : List Int} {l : Lay} (hv : validI a b p d = true) (ho : okL p l = true) : validI a b p (onD a b p d l) = true := by
 unfold onD
 split
 ·exact hv
 ·exact covD_valid hv ho
theorem flatD_valid {a b p : Int} : ∀ (ls : List Lay) {d : List Int}, validI a b p d = true → ls.all (okL p) = true → validI a b p (flatD a b p d ls) = true
 | [], d, hv, _ => hv
 | l :: ls, d, hv, ho => by
  rw [List.all_cons, Bool.and_eq_true] at ho
  exact flatD_valid ls (onD_valid hv ho.1) ho.2
theorem impl_cover {a b p : Int} {d : List Int} {l : Lay} (hid : Bool) (hv : validI a b p d = true) (ho : okL p l = true) : impl_coverImage.f a b p d l.f0.f0 l.f0.f1 l.f0.f2 l.f0.f3 l.f1 l.f2 l.f3 l.f4 hid = some (a, b, p, covD a b p d l) := by
 obtain ⟨hvl, e, hx1, hx2, hy1, hy2, _, _, ha1, ha2⟩ := (layerV_iff _ _ _ _ _ _ _ _ _).1 ho
 have hb1 := ((validI_iff _ _ _ _).1 hv).2.2
 have hb2 := ((validI_iff _ _ _ _).1 hvl).2.2
 unfold impl_coverImage.f covD
 rw [if_pos ⟨hv, hvl, e, ⟨hx1, hx2⟩, hy1, hy2⟩]
 obtain ⟨an, bn, pn, rfl, rfl, rfl, q1, q2, q3, q4, q5, q6, q7⟩ := nat_of hv
 obtain ⟨wn, hn, pm, e1, e2, _, q11, q12, q13, q14, _, _, _⟩ := nat_of hvl
 rw [e1, e2]
 simp only [Int.toNat_natCast]
 rw [imgD_congr (fun x y hx hy => coverPx_cov q2 q4 q6 q12 q14 ⟨ha1, ha2⟩ hb1 hb2 hx hy)]
theorem spec_cover {a b p : Int} {d : List Int} {l : Lay} (hid : Bool) (hv : validI a b p d = true) (ho : okL p l = true) : Ev (fun k => spec_blendPaste.f k a b p d l.f0.f0 l.f0.f1 l.f0.f2 l.f0.f3 l.f1 l.f2 l.f3 l.f4 hid) (covD a b p d l) := by
 obtain ⟨hvl, e, hx1, hx2, hy1, hy2, _, _, ha1, ha2⟩ := (layerV_iff _ _ _ _ _ _ _ _ _).1 ho
 have hb1 := ((validI_iff _ _ _ _).1 hv).2.2
 have hb2 := ((validI_iff _ _ _ _).1 hvl).2.2
 unfold covD
 obtain ⟨an, bn, pn, rfl, rfl, rfl, q1, q2, q3, q4, q5, q6, q7⟩ := nat_of hv
 obtain ⟨wn, hn, pm, e1, e2, hpm, q11, q12, q13, q14, _, _, q17⟩ := nat_of hvl
 obtain rfl : pn = pm := Int.ofNat.inj (e.symm.trans hpm)
 rw [e1, e2, hpm]
 simp only [Int.toNat_natCast]
 exact blendPaste_ev hid ⟨q1, q2⟩ ⟨q3, q4⟩ q6 q12 q14 ⟨hx1, hx2⟩ ⟨hy1, hy2⟩ ⟨ha1, ha2⟩ d l.f0.f3 q7 q17 hb1 hb2
theorem rdL_nat (l : List Lay) (i : Nat) (h : i < l.length) : rd_T55 l (i : Int) = l[i] := by simp [rd_T55, h]
theorem dropL (l : List Lay) (i : Nat) (h : i < l.length) : l.drop i = l[i] :: l.drop (i + 1) := List.drop_eq_getElem_cons h
theorem copyC_px (a b p : Int) (d : List Int) (hl : d.length ≤ 1000000) : spec_copyImage.f a b p d = some (a, b, p, d) := by
 unfold spec_copyImage.f
 rw [copyInts_px d hl]
 rfl
theorem impl_copyC_px (a b p : Int) (d : List Int) (hl : d.length ≤ 1000000) : impl_copyImage.f a b p d = some (a, b, p, d) := by
 unfold impl_copyImage.f
 simp only [Option.bind_some]
 rw [if_pos (by simp; omega)]
 simp
theorem specFlat_loop (ls : List Lay) (hl : ls.length ≤ 1000000000) (a b p : Int) : ∀ (n i : Nat) (d : List Int), i + n = ls.length → validI a b p d = true → ls.all (okL p) = true →
  Ev (fun k => spec_flatten.l0 k ls (i : Int) a b p d) (a, b, p, flatD a b p d (ls.drop i))
 | 0, i, d, hi, hv, ho => by
  rw [List.drop_of_length_le (by omega)]
  exact Ev.step (f := fun _ => some (a, b, p, d)) (fun k => by simp only [spec_flatten.l0]; rw [if_neg (by omega)]) (Ev.now _)
 | n + 1, i, d, hi, hv, ho => by
  have hlt : i < ls.length := by omega
  have hok : okL p ls[i] = true := List.all_eq_true.1 ho _ (List.getElem_mem hlt)
  rw [dropL ls i hlt, flatD]
  have ih := specFlat_loop ls hl a b p n (i + 1) (onD a b p d ls[i]) (by omega) (onD_valid hv hok) ho
  unfold onD at ih ⊢
  by_cases c : ls[i].f5 = true
  ·rw [if_pos c] at ih ⊢
   refine Ev.step (fun k => ?_) ih
   simp only [spec_flatten.l0]
   rw [if_pos (by omega), if_pos (by omega), rdL_nat ls i hlt, if_pos c, w64n i (by omega)]
  ·rw [if_neg c] at ih ⊢
   refine Ev.step (f := fun k => (spec_blendPaste.f k a b p d ls[i].f0.f0 ls[i].f0.f1 ls[i].f0.f2 ls[i].f0.f3 ls[i].f1 ls[i].f2 ls[i].f3 ls[i].f4 ls[i].f5).bind fun t => spec_flatten.l0 k ls ((i + 1 : Nat) : Int) a b p t) (fun k => ?_) (ev_bind (spec_cover _ hv hok) ih)
   simp only [spec_flatten.l0]
   rw [if_pos (by omega), if_pos (by omega), rdL_nat ls i hlt, if_neg c, w64n i (by omega)]
theorem validLayers_ev (ls : List Lay) (hl : ls.length ≤ 1000000000) (hd : ∀ l ∈ ls, l.f0.f3.length ≤ 1000000000) (p : Int) : ∀ (n i : Nat), i + n = ls.length →
  Ev (fun k => spec_validLayers.l0 k ls p (i : Int)) ((ls.drop i).all (okL p) && decide (ls.length ≤ 6))
 | 0, i, hi => by
  rw [List.drop_of_length_le (by omega)]
  refine ev_val (Ev.step (f := fun _ => some (decide ((ls.length : Int) ≤ 6))) (fun k => by simp only [spec_validLayers.l0]; rw [if_neg (by omega)]) (Ev.now _)) ?_
  rw [List.all_nil, Bool.true_and]
  exact decide_eq_decide.2 (by omega)
 | n + 1, i, hi => by
  have hlt : i < ls.length := by omega
  have hS := spec_validLayer_ev ls[i].f0.f0 ls[i].f0.f1 ls[i].f0.f2 ls[i].f0.f3 ls[i].f1 ls[i].f2 ls[i].f3 ls[i].f4 ls[i].f5 p (by have := hd _ (List.getElem_mem hlt); omega)
  have ih := validLayers_ev ls hl hd p n (i + 1) (by omega)
  rw [dropL ls i hlt, List.all_cons]
  refine Ev.step (f := fun k => (spec_validLayer.f k ls[i].f0.f0 ls[i].f0.f1 ls[i].f0.f2 ls[i].f0.f3 ls[i].f1 ls[i].f2 ls[i].f3 ls[i].f4 ls[i].f5 p).bind fun t => if t = true then spec_validLayers.l0 k ls p ((i + 1 : Nat) : Int) else some false) (fun k => ?_) (ev_bind hS ?_)
  ·simp only [spec_validLayers.l0]
   rw [if_pos (by omega), if_pos (by omega), rdL_nat ls i hlt, w64n i (by omega)]
  ·show Ev (fun k => if okL p ls[i] = true then spec_validLayers.l0 k ls p ((i + 1 : Nat) : Int) else some false) _
   by_cases c : okL p ls[i] = true
   ·rw [c, Bool.true_and]
    exact ev_pos rfl ih
   ·rw [Bool.eq_false_iff.2 c]
    exact ev_neg (by simp) (Ev.now _)
theorem spec_FlattenLayers_ev (a b p : Int) (d : List Int) (ls : List Lay) (h0 : d.length ≤ 2000000) (hl : ls.length ≤ 1000000000) (hd : ∀ l ∈ ls, l.f0.f3.length ≤ 1000000000) : Ev (fun k => spec_FlattenLayers.f k a b p d ls) (flatV a b p d ls) := by
 unfold spec_FlattenLayers.f flatV spec_validLayers.f spec_flatten.f
 refine ev_bind (spec_validImage_ev a b p d (by omega)) ?_
 by_cases c : validI a b p d = true
 ·refine ev_pos c (ev_bind (validLayers_ev ls hl hd p ls.length 0 (by omega)) ?_)
  rw [List.drop_zero]
  by_cases c2 : ls.length ≤ 6 ∧ ls.all (okL p) = true
  ·rw [if_pos ⟨c, c2⟩, c2.2, decide_eq_true c2.1]
   have h := specFlat_loop ls hl a b p ls.length 0 d (by omega) c c2.2
   rw [List.drop_zero] at h
   exact ev_pos rfl (ev_bind (ev_now (copyC_px a b p d (by have := valid_le c; omega)) h) (Ev.now _))
  ·rw [if_neg (fun h => c2 h.2)]
   refine ev_neg ?_ (Ev.now _)
   rw [Bool.and_eq_true, decide_eq_true_iff]
   exact fun h => c2 ⟨h.2, h.1⟩
 ·rw [if_neg (fun h => c h.1)]
  exact ev_neg c (Ev.now _)
theorem implFlat_loop (ls : List Lay) (hl : ls.length ≤ 1000000000) (a b p : Int) (d0 : List Int) : ∀ (n i : Nat) (d : List Int), i + n = ls.length → validI a b p d = true →
  Ev (fun k => impl_flatten.l0 k ls (ls.length : Int) (i : Int) a b p d0 a b p d) (if (ls.drop i).all (okL p) = true then (a, b, p, flatD a b p d (ls.drop i), true) else (0, 0, 0, [], false))
 | 0, i, d, hi, hv => by
  rw [List.drop_of_length_le (by omega)]
  exact Ev.step (f := fun _ => some (a, b, p, d, true)) (fun k => by simp only [impl_flatten.l0]; rw [if_neg (by omega)]) (Ev.now _)
 | n + 1, i, d, hi, hv => by
  have hlt : i < ls.length := by omega
  have hL := impl_isLayer_eq ls[i].f0.f0 ls[i].f0.f1 ls[i].f0.f2 ls[i].f0.f3 ls[i].f1 ls[i].f2 ls[i].f3 ls[i].f4 ls[i].f5 p
  rw [dropL ls i hlt, List.all_cons, flatD]
  refine Ev.step (f := fun k => (impl_isLayer.f ls[i].f0.f0 ls[i].f0.f1 ls[i].f0.f2 ls[i].f0.f3 ls[i].f1 ls[i].f2 ls[i].f3 ls[i].f4 ls[i].f5 p).bind fun t => if t = true then (if ls[i].f5 = true then impl_flatten.l0 k ls (ls.length : Int) ((i + 1 : Nat) : Int) a b p d0 a b p d else (impl_coverImage.f a b p d ls[i].f0.f0 ls[i].f0.f1 ls[i].f0.f2 ls[i].f0.f3 ls[i].f1 ls[i].f2 ls[i].f3 ls[i].f4 ls[i].f5).bind fun u => impl_flatten.l0 k ls (ls.length : Int) ((i + 1 : Nat) : Int) a b p d0 u.1 u.2.1 u.2.2.1 u.2.2.2) else some (0, 0, 0, [], false)) (fun k => ?_) (ev_now hL ?_)
  ·simp only [impl_flatten.l0]
   rw [if_pos (by omega), if_pos (by omega), if_pos (by omega), rdL_nat ls i hlt, w64n i (by omega)]
  ·show Ev (fun k => if okL p ls[i] = true then (if ls[i].f5 = true then impl_flatten.l0 k ls (ls.length : Int) ((i + 1 : Nat) : Int) a b p d0 a b p d else (impl_coverImage.f a b p d ls[i].f0.f0 ls[i].f0.f1 ls[i].f0.f2 ls[i].f0.f3 ls[i].f1 ls[i].f2 ls[i].f3 ls[i].f4 ls[i].f5).bind fun u => impl_flatten.l0 k ls (ls.length : Int) ((i + 1 : Nat) : Int) a b p d0 u.1 u.2.1 u.2.2.1 u.2.2.2) else some (0, 0, 0, [], false)) _
   by_cases hok : okL p ls[i] = true
   ·rw [hok, Bool.true_and]
    refine ev_pos rfl ?_
    have ih := implFlat_loop ls hl a b p d0 n (i + 1) (onD a b p d ls[i]) (by omega) (onD_valid hv hok)
    unfold onD at ih ⊢
    by_cases c : ls[i].f5 = true
    ·rw [if_pos c] at ih ⊢
     exact ev_pos c ih
    ·rw [if_neg c] at ih ⊢
     exact ev_neg c (ev_now (impl_cover _ hv hok) ih)
   ·rw [Bool.eq_false_iff.2 hok]
    exact ev_neg (by simp) (Ev.now _)
theorem impl_flatten_ev (a b p : Int) (d : List Int) (ls : List Lay) : Ev (fun k => impl_flatten.f k a b p d ls) (flatV a b p d ls) := by
 unfold impl_flatten.f flatV
 refine ev_now (impl_isImage_eq a b p d) ?_
 by_cases c : validI a b p d = true
 ·refine ev_pos c ?_
  by_cases c2 : ls.length ≤ 6
  ·have h := implFlat_loop ls (by omega) a b p d ls.length 0 d (by omega) c
   rw [List.drop_zero] at h
   refine Ev.step (f := fun k => (impl_copyImage.f a b p d).bind fun t => impl_flatten.l0 k ls (ls.length : Int) 0 a b p d t.1 t.2.1 t.2.2.1 t.2.2.2) (fun k => ?_) (ev_now (impl_copyC_px a b p d (by have := valid_le c; omega)) (ev_val h ?_))
   ·simp only [impl_flatten.j0]
    rw [if_neg (by simp; omega)]
   ·by_cases c3 : ls.all (okL p) = true
    ·rw [if_pos c3, if_pos ⟨c, c2, c3⟩]
    ·rw [if_neg c3, if_neg (fun h => c3 h.2.2)]
  ·rw [if_neg (fun h => c2 h.2.1)]
   refine Ev.step (f := fun _ => some (0, 0, 0, [], false)) (fun k => ?_) (Ev.now _)
   simp only [impl_flatten.j0]
   rw [if_pos (by simp; omega)]
 ·rw [if_neg (fun h => c h.1)]
  refine ev_neg c (Ev.step (f := fun _ => some (0, 0, 0, [], false)) (fun k => ?_) (Ev.now _))
  simp only [impl_flatten.j0]
  rw [if_pos trivial]

/- Copies of a list of Box: they are the list. -/

abbrev Box := S47

/- The boxes of an image's tiles, as the program and the reference have them. -/

def colsOf (w : Nat) : Nat := (w + 3) / 4
def tileN (w h : Nat) (t : Nat) : Box := ⟨((t % colsOf w * 4 : Nat) : Int), ((t / colsOf w * 4 : Nat) : Int), mn 4 ((w : Int) - ((t % colsOf w * 4 : Nat) : Int)), mn 4 ((h : Int) - ((t / colsOf w * 4 : Nat) : Int))⟩
def tilesN (w h : Nat) (n : Nat) : List Box := (List.range n).map (tileN w h)
def tilesV (w h : Nat) : List Box := tilesN w h (colsOf w * colsOf h)
theorem tilesN_length (w h n : Nat) : (tilesN w h n).length = n := by simp [tilesN]
theorem tilesN_succ (w h n : Nat) : tilesN w h (n + 1) = tilesN w h n ++ [tileN w h n] := by simp [tilesN, List.range_succ]
theorem cols_bounds (w : Nat) (h1 : 1 ≤ w) (h2 : w ≤ 16) : 1 ≤ colsOf w ∧ colsOf w ≤ 4 := by unfold colsOf; omega
theorem tiles_count (w h : Nat) (h1 : 1 ≤ w) (h2 : w ≤ 16) (h3 : 1 ≤ h) (h4 : h ≤ 16) : 1 ≤ colsOf w * colsOf h ∧ colsOf w * colsOf h ≤ 16 := by
 have a := cols_bounds w h1 h2
 have b := cols_bounds h h3 h4
 have := Nat.mul_le_mul a.2 b.2
 have := Nat.mul_le_mul a.1 b.1
 omega
theorem tileN_at (w h r c : Nat) (hc : c < colsOf w) : tileN w h (r * colsOf w + c) = ⟨((c * 4 : Nat) : Int), ((r * 4 : Nat) : Int), mn 4 ((w : Int) - ((c * 4 : Nat) : Int)), mn 4 ((h : Int) - ((r * 4 : Nat) : Int))⟩ := by
 have e1 : (r * colsOf w + c) % colsOf w = c := by rw [Nat.mul_comm, Nat.mul_add_mod, Nat.mod_eq_of_lt hc]
 have e2 : (r * colsOf w + c) / colsOf w = r := by rw [Nat.mul_comm, Nat.mul_add_div (by omega), Nat.div_eq_of_lt hc, Nat.add_zero]
 unfold tileN
 rw [e1, e2]
theorem impl_tileBoxes_ev (w h : Nat) (p : Int) (d : List Int) (h1 : 1 ≤ w) (h2 : w ≤ 16) (h3 : 1 ≤ h) (h4 : h ≤ 16) : Ev (fun k => impl_tileBoxes.f k w h p d) (tilesV w h) := by
 have hc := cols_bounds w h1 h2
 have hr := cols_bounds h h3 h4
 have key := ev_up2 (colsOf h) (fun k r (s : List Box) => impl_tileBoxes.l0 k s ((r * 4 : Nat) : Int) w h p d) (fun r s => s = tilesN w h (r * colsOf w)) (fun _ _ => tilesV w h)
  (by
   intro r s hrr hs
   right
   refine ⟨tilesN w h ((r + 1) * colsOf w), fun R hR => ?_, rfl, rfl⟩
   have inner := ev_up2 (colsOf w) (fun k c (s : List Box) => impl_tileBoxes.l1 k s ((r * 4 : Nat) : Int) ((c * 4 : Nat) : Int) w h p d) (fun c s => s = tilesN w h (r * colsOf w + c)) (fun _ _ => R)
    (by
     intro c s hcc hs
     right
     refine ⟨tilesN w h (r * colsOf w + (c + 1)), fun R' hR' => ?_, rfl, rfl⟩
     refine Ev.step (fun k => ?_) hR'
     have hlen : s.length = r * colsOf w + c := by rw [hs, tilesN_length]
     have hm : r * colsOf w ≤ 4 * 4 := Nat.mul_le_mul (by omega) hc.2
     have hcw : c * 4 < w := by unfold colsOf at hcc; omega
     have hrh : r * 4 < h := by unfold colsOf at hrr; omega
     simp only [impl_tileBoxes.l1]
     rw [if_pos (by omega), if_pos (by omega), w64 (x := ((c * 4 : Nat) : Int) + 4) (by omega) (by omega), w64 (x := (w : Int) - ((c * 4 : Nat) : Int)) (by omega) (by omega), w64 (x := (h : Int) - ((r * 4 : Nat) : Int)) (by omega) (by omega), ← Nat.add_assoc, tilesN_succ, tileN_at w h r c hcc, ← hs, show ((c * 4 : Nat) : Int) + 4 = (((c + 1) * 4 : Nat) : Int) by omega])
    (by
     intro s hs
     refine Ev.step (fun k => ?_) (show Ev (fun k => impl_tileBoxes.l0 k s (((r + 1) * 4 : Nat) : Int) w h p d) R from by rw [hs, ← Nat.succ_mul]; exact hR)
     have hcw : ¬ colsOf w * 4 < w := by unfold colsOf; omega
     simp only [impl_tileBoxes.l1]
     rw [if_neg (by omega), w64 (x := ((r * 4 : Nat) : Int) + 4) (by omega) (by omega), show ((r * 4 : Nat) : Int) + 4 = (((r + 1) * 4 : Nat) : Int) by omega])
    (colsOf w) 0 s (by omega) (by rw [hs, Nat.add_zero])
   have inner' : Ev (fun k => impl_tileBoxes.l1 k s ((r * 4 : Nat) : Int) 0 w h p d) R := inner
   refine Ev.step (fun k => ?_) inner'
   have hrh : r * 4 < h := by unfold colsOf at hrr; omega
   simp only [impl_tileBoxes.l0]
   rw [if_pos (by omega)])
  (by
   intro s hs
   refine Ev.step (f := fun _ => some s) (fun k => ?_) (ev_const ?_)
   ·have hrh : ¬ colsOf h * 4 < h := by unfold colsOf; omega
    simp only [impl_tileBoxes.l0]
    rw [if_neg (by omega)]
   ·rw [hs, Nat.mul_comm]; rfl)
  (colsOf h) 0 [] (by omega) (by simp [tilesN])
 unfold impl_tileBoxes.f
 simpa using key
theorem colsI (w : Nat) (h2 : w ≤ 16) : wrap64 (Int.tdiv (wrap64 ((wrap64 ((w : Int) + 4)) - 1)) 4) = ((colsOf w : Nat) : Int) := by
 rw [w64 (x := (w : Int) + 4) (by omega) (by omega), w64 (x := (w : Int) + 4 - 1) (by omega) (by omega), tdiv_nn _ _ (by omega), w64 (by omega) (by omega)]
 unfold colsOf
 omega
theorem spec_tileCount_eq (w h : Nat) (p : Int) (d : List Int) (h1 : 1 ≤ w) (h2 : w ≤ 16) (h3 : 1 ≤ h) (h4 : h ≤ 16) : spec_tileCount.f w h p d = some ((colsOf w * colsOf h : Nat) : Int) := by
 have := tiles_count w h h1 h2 h3 h4
 unfold spec_tileCount.f
 rw [colsI w h2, colsI h h4, ← Int.natCast_mul, w64 (by omega) (by omega)]
theorem spec_tileBox_eq (w h : Nat) (p : Int) (d : List Int) (t : Nat) (h1 : 1 ≤ w) (h2 : w ≤ 16) (h3 : 1 ≤ h) (h4 : h ≤ 16) (ht : t < 1000) : spec_tileBox.f w h p d t = some ((tileN w h t).f0, (tileN w h t).f1, (tileN w h t).f2, (tileN w h t).f3) := by
 have hc := cols_bounds w h1 h2
 have hm : t % colsOf w < colsOf w := Nat.mod_lt _ (by omega)
 have hd : t / colsOf w ≤ t := Nat.div_le_self _ _
 have e1 : Int.tmod (t : Int) ((colsOf w : Nat) : Int) = ((t % colsOf w : Nat) : Int) := by rw [tmod_nn _ _ (by omega)]; rfl
 have e2 : Int.tdiv (t : Int) ((colsOf w : Nat) : Int) = ((t / colsOf w : Nat) : Int) := by rw [tdiv_nn _ _ (by omega)]; rfl
 unfold spec_tileBox.f tileN
 rw [colsI w h2, if_neg (by omega), e1, e2]
 generalize t % colsOf w = a at *
 generalize t / colsOf w = b at *
 rw [w64 (x := ((b : Nat) : Int)) (by omega) (by omega), w64 (x := ((b : Nat) : Int) * 4) (by omega) (by omega), w64 (x := ((a : Nat) : Int) * 4) (by omega) (by omega), w64 (x := (w : Int) - ((a : Nat) : Int) * 4) (by omega) (by omega), w64 (x := (h : Int) - ((b : Nat) : Int) * 4) (by omega) (by omega)]
 simp

/- A tile that a layer does not touch is the same in the covered image. -/

theorem tile_box {an bn t : Nat} (h1 : 1 ≤ an ∧ an ≤ 16) (h2 : 1 ≤ bn ∧ bn ≤ 16) (ht : t < colsOf an * colsOf bn) : ∃ x0 y0 w0 h0 : Nat, tileN an bn t = ⟨(x0 : Int), (y0 : Int), (w0 : Int), (h0 : Int)⟩ ∧ 1 ≤ w0 ∧ 1 ≤ h0 ∧ x0 + w0 ≤ an ∧ y0 + h0 ≤ bn := by
 have hc := cols_bounds an h1.1 h1.2
 have hr := cols_bounds bn h2.1 h2.2
 have hx : t % colsOf an < colsOf an := Nat.mod_lt _ (by omega)
 have hy : t / colsOf an < colsOf bn := (Nat.div_lt_iff_lt_mul (by omega)).2 (by rw [Nat.mul_comm]; exact ht)
 refine ⟨t % colsOf an * 4, t / colsOf an * 4, (mn 4 ((an : Int) - ((t % colsOf an * 4 : Nat) : Int))).toNat, (mn 4 ((bn : Int) - ((t / colsOf an * 4 : Nat) : Int))).toNat, ?_⟩
 generalize hq' : t % colsOf an = q at *
 generalize ht' : t / colsOf an = r at *
 have hq4 : q * 4 < an := by unfold colsOf at hx; omega
 have hr4 : r * 4 < bn := by unfold colsOf at hy; omega
 have m1 : 1 ≤ mn 4 ((an : Int) - ((q * 4 : Nat) : Int)) ∧ mn 4 ((an : Int) - ((q * 4 : Nat) : Int)) ≤ (an : Int) - ((q * 4 : Nat) : Int) := by unfold mn; split <;> omega
 have m2 : 1 ≤ mn 4 ((bn : Int) - ((r * 4 : Nat) : Int)) ∧ mn 4 ((bn : Int) - ((r * 4 : Nat) : Int)) ≤ (bn : Int) - ((r * 4 : Nat) : Int) := by unfold mn; split <;> omega
 refine ⟨?_, by omega, by omega, by omega, by omega⟩
 rw [Int.toNat_of_nonneg (by omega), Int.toNat_of_nonneg (by omega)]
 unfold tileN
 rw [hq', ht']

/- RedrawTiles, as the program and the reference have it. -/

abbrev Bxx := S47
def rdN (ts : List Int) (i : Nat) : Int := ts.getD i 0
theorem rd_rdN (ts : List Int) (i : Nat) : rd ts (i : Int) = rdN ts i := by simp [rd, rdN]
def okAt (n : Nat) (ts : List Int) (i : Nat) : Bool := decide (0 ≤ rdN ts i ∧ rdN ts i < (n : Int) ∧ (0 < i → rdN ts (i - 1) < rdN ts i))
def okTs (n : Nat) (ts : List Int) : Bool := (List.range ts.length).all (okAt n ts)
theorem okTs_iff (n : Nat) (ts : List Int) : okTs n ts = true ↔ ∀ i, i < ts.length → okAt n ts i = true := by simp [okTs, List.all_eq_true]
theorem okAt_iff (n : Nat) (ts : List Int) (i : Nat) : okAt n ts i = true ↔ 0 ≤ rdN ts i ∧ rdN ts i < (n : Int) ∧ (0 < i → rdN ts (i - 1) < rdN ts i) := by unfold okAt; exact decide_eq_true_iff
def boxT (an bn : Nat) (t : Int) : Bxx := tileN an bn t.toNat
def boxesT (an bn : Nat) (ts : List Int) : List Bxx := ts.map (boxT an bn)
theorem rdN_get (ts : List Int) (i : Nat) (h : i < ts.length) : rdN ts i = ts[i] := by simp [rdN, h]
theorem boxT_on {an bn : Nat} (h1 : 1 ≤ an ∧ an ≤ 16) (h2 : 1 ≤ bn ∧ bn ≤ 16) {t : Int} (h0 : 0 ≤ t) (ht : t < (colsOf an * colsOf bn : Nat)) : onB an bn (boxT an bn t) = true := by
 obtain ⟨x0, y0, w0, h0', e, q1, q2, q3, q4⟩ := tile_box h1 h2 (t := t.toNat) (by omega)
 unfold boxT
 rw [e, onB_iff]
 refine ⟨?_, ?_, ?_, ?_, ?_, ?_, ?_, ?_⟩
 ·show (0 : Int) ≤ (x0 : Int); omega
 ·show (x0 : Int) < (an : Int); omega
 ·show (0 : Int) ≤ (y0 : Int); omega
 ·show (y0 : Int) < (bn : Int); omega
 ·show (1 : Int) ≤ (w0 : Int); omega
 ·show (w0 : Int) ≤ (an : Int) - (x0 : Int); omega
 ·show (1 : Int) ≤ (h0' : Int); omega
 ·show (h0' : Int) ≤ (bn : Int) - (y0 : Int); omega
theorem boxesT_on {an bn : Nat} (h1 : 1 ≤ an ∧ an ≤ 16) (h2 : 1 ≤ bn ∧ bn ≤ 16) {ts : List Int} (h : okTs (colsOf an * colsOf bn) ts = true) : (boxesT an bn ts).all (onB an bn) = true := by
 refine List.all_eq_true.2 fun r hr => ?_
 obtain ⟨t, ht, rfl⟩ := List.mem_map.1 hr
 obtain ⟨i, hi, rfl⟩ := List.mem_iff_getElem.1 ht
 obtain ⟨g1, g2, _⟩ := (okAt_iff _ _ _).1 ((okTs_iff _ _).1 h i hi)
 rw [rdN_get ts i hi] at g1 g2
 exact boxT_on h1 h2 g1 g2
theorem patched_is {a b p : Int} {d e : List Int} {l : List Bxx} (c1 : validI a b p d = true) (c2 : validI a b p e = true) (hall : l.all (onB a b) = true) : impl_patched.f a b p d a b p e l = some (a, b, p, imgD (patchPx a.toNat p.toNat d e l) a.toNat b.toNat) := by
 unfold impl_patched.f
 rw [if_pos ⟨c1, c2, rfl, rfl, rfl, hall⟩]
 obtain ⟨an, bn, pn, rfl, rfl, rfl, q1, q2, q3, q4, q5, q6, q7⟩ := nat_of c1
 obtain ⟨_, _, _, f1, f2, f3, _, _, _, _, _, _, q8⟩ := nat_of c2
 have f1 := Int.ofNat.inj f1
 have f2 := Int.ofNat.inj f2
 have f3 := Int.ofNat.inj f3
 subst f1 f2 f3
 obtain ⟨i1, i2⟩ := patchD_nx q2 q4 q6 q8 l (List.all_eq_true.1 hall) d q7
 simp only [Int.toNat_natCast]
 have hlen := patchPx_len q7 q8 l
 rw [ext_img i1 (imgD_length hlen) (fun x y hx hy => by rw [i2 x y hx hy, nx_imgD hlen hx hy])]
def redrawV (a b p : Int) (d : List Int) (a' b' p' : Int) (e : List Int) (ls : List Lay) (ts : List Int) : Int × Int × Int × List Int × Bool :=
 if sameV a b p d a' b' p' e = true ∧ (ls.length ≤ 6 ∧ ls.all (okL p') = true) ∧ okTs (colsOf a.toNat * colsOf b.toNat) ts = true then (a, b, p, imgD (patchPx a.toNat p.toNat d (flatD a b p e ls) (boxesT a.toNat b.toNat ts)) a.toNat b.toNat, true) else (0, 0, 0, [], false)
theorem spec_RedrawTiles_ev (a b p : Int) (d : List Int) (a' b' p' : Int) (e : List Int) (ls : List Lay) (ts : List Int) (hd0 : d.length ≤ 2000000) (he0 : e.length ≤ 2000000) (hl : ls.length ≤ 1000000000) (hpl : ∀ l ∈ ls, l.f0.f3.length ≤ 1000000000) (htl : ts.length ≤ 2000000) :
  Ev (fun k => spec_RedrawTiles.f k a b p d a' b' p' e ls ts) (redrawV a b p d a' b' p' e ls ts) := by
 unfold spec_RedrawTiles.f
 have stop : ∀ (q : Bool) (f0 f1 f2 : Int) (f3 : List Int), ¬ (sameV a b p d a' b' p' e = true ∧ (ls.length ≤ 6 ∧ ls.all (okL p') = true) ∧ okTs (colsOf a.toNat * colsOf b.toNat) ts = true) → q = true → Ev (fun k => spec_RedrawTiles.j0 k ts q a b p d a' b' p' e f0 f1 f2 f3) (redrawV a b p d a' b' p' e ls ts) := by
  intro q f0 f1 f2 f3 hn hq
  subst hq
  unfold redrawV
  rw [if_neg hn]
  refine Ev.step (f := fun _ => some (0, 0, 0, [], false)) (fun k => ?_) (Ev.now _)
  simp only [spec_RedrawTiles.j0]
  rw [if_pos trivial]
 have hF := spec_FlattenLayers_ev a' b' p' e ls he0 hl hpl
 by_cases cf : validI a' b' p' e = true ∧ ls.length ≤ 6 ∧ ls.all (okL p') = true
 ·have he : flatV a' b' p' e ls = (a', b', p', flatD a' b' p' e ls, true) := by unfold flatV; rw [if_pos cf]
  rw [he] at hF
  refine ev_bind hF (ev_pos rfl (ev_bind (spec_validImage_ev a b p d (by omega)) ?_))
  by_cases c1 : validI a b p d = true
  ·refine ev_pos c1 ?_
   by_cases e1 : a = a'
   ·refine ev_pos e1 ?_
    by_cases e2 : b = b'
    ·refine ev_pos e2 ?_
     by_cases e3 : p = p'
     ·subst e1 e2 e3
      have hsame : sameV a b p d a b p e = true := (sameV_iff _ _ _ _ _ _ _ _).2 ⟨c1, cf.1, rfl, rfl, rfl⟩
      have hfv := flatD_valid ls cf.1 cf.2.2
      generalize hD : flatD a b p e ls = D at *
      refine Ev.step (f := fun k => (spec_copyImage.f a b p d).bind fun t => spec_RedrawTiles.l0 k ts 0 a b p e a b p D t.1 t.2.1 t.2.2.1 t.2.2.2) (fun k => ?_) (ev_now (copyC_px a b p d (by have := valid_le c1; omega)) ?_)
      ·simp only [spec_RedrawTiles.j0]
       rw [if_neg (by simp)]
      ·have hV : ∀ x, okTs (colsOf a.toNat * colsOf b.toNat) ts = true → x = imgD (patchPx a.toNat p.toNat d D (boxesT a.toNat b.toNat ts)) a.toNat b.toNat → (a, b, p, x, true) = redrawV a b p d a b p e ls ts := by
        intro x ho hx
        unfold redrawV
        rw [if_pos ⟨hsame, cf.2, ho⟩, hD, hx]
       have hV0 : okTs (colsOf a.toNat * colsOf b.toNat) ts = false → ((0, 0, 0, [], false) : Int × Int × Int × List Int × Bool) = redrawV a b p d a b p e ls ts := by
        intro ho
        unfold redrawV
        rw [if_neg (fun h => by rw [ho] at h; cases h.2.2)]
       generalize redrawV a b p d a b p e ls ts = V at hV hV0
       obtain ⟨an, bn, pn, rfl, rfl, rfl, q1, q2, q3, q4, q5, q6, q7⟩ := nat_of c1
       obtain ⟨_, _, _, f1, f2, f3, _, _, _, _, _, _, q8⟩ := nat_of hfv
       have f1 := Int.ofNat.inj f1
       have f2 := Int.ofNat.inj f2
       have f3 := Int.ofNat.inj f3
       subst f1 f2 f3
       simp only [Int.toNat_natCast] at hV hV0
       have hcount := tiles_count an bn q1 q2 q3 q4
       have htc := spec_tileCount_eq an bn (pn : Int) e q1 q2 q3 q4
       generalize hN : colsOf an * colsOf bn = N at hV hV0 hcount htc
       refine ev_up2 ts.length (fun k i (s : List Int) => spec_RedrawTiles.l0 k ts (i : Int) an bn pn e an bn pn D an bn pn s) (fun i s => (∀ q, q < i → okAt N ts q = true) ∧ s.length = (bn * an) * pn ∧ ∀ x y, x < an → y < bn → nx pn s (y * an + x) = patchPx an pn d D (boxesT an bn (ts.take i)) x y) (fun _ _ => V) ?_ ?_ ts.length 0 d (by omega) ⟨fun q hq => by omega, q7, fun x y hx hy => by simp [patchPx, boxesT]⟩
       ·intro i s hi ⟨hinv, hsl, hpx⟩
        have hrd : rd ts (i : Int) = rdN ts i := rd_rdN ts i
        have hfl : (if (i : Int) > 0 then decide (rdN ts i ≤ rdN ts (i - 1)) else false) = decide (0 < i ∧ rdN ts i ≤ rdN ts (i - 1)) := by
         by_cases ci : 0 < i
         ·rw [if_pos (by omega)]
          exact decide_eq_decide.2 ⟨fun h => ⟨ci, h⟩, fun h => h.2⟩
         ·rw [if_neg (by omega), decide_eq_false (fun h => ci h.1)]
        cases hb : okAt N ts i with
        | false =>
         left
         have hnot : okTs N ts = false := by
          rw [Bool.eq_false_iff]
          intro h
          have := (okTs_iff _ _).1 h i hi
          rw [hb] at this; cases this
         rw [← hV0 hnot]
         have hn := fun h => Bool.eq_false_iff.1 hb ((okAt_iff N ts i).2 h)
         have stopj : Ev (fun k => spec_RedrawTiles.j2 k ts (i : Int) true an bn pn e an bn pn D an bn pn s) ((0, 0, 0, [], false) : Int × Int × Int × List Int × Bool) := by
          refine Ev.step (f := fun _ => some (0, 0, 0, [], false)) (fun k => ?_) (Ev.now _)
          simp only [spec_RedrawTiles.j2]
          rw [if_pos trivial]
         by_cases cr : 0 ≤ rdN ts i ∧ rdN ts i ≤ (N : Int) - 1
         ·have hord : 0 < i ∧ rdN ts i ≤ rdN ts (i - 1) := by
           by_cases ci : 0 < i
           ·refine ⟨ci, ?_⟩
            by_cases cl : rdN ts i ≤ rdN ts (i - 1)
            ·exact cl
            ·exact absurd ⟨cr.1, by omega, fun _ => by omega⟩ hn
           ·exact absurd ⟨cr.1, by omega, fun h => absurd h ci⟩ hn
          refine Ev.step (fun k => ?_) stopj
          simp only [spec_RedrawTiles.l0]
          rw [if_pos (by omega), if_pos (by omega), htc]
          simp only [Option.bind_some]
          rw [w64 (x := (N : Int) - 1) (by omega) (by omega), spec_inRangeI_eq, hrd]
          simp only [Option.bind_some]
          rw [decide_eq_true cr.1, decide_eq_true cr.2, if_pos (by rfl), if_pos (by omega), w64 (x := (i : Int) - 1) (by omega) (by omega), if_pos (by omega), if_pos (by omega), show (i : Int) - 1 = ((i - 1 : Nat) : Int) by omega, rd_rdN, decide_eq_true hord.2]
         ·refine Ev.step (fun k => ?_) stopj
          simp only [spec_RedrawTiles.l0]
          rw [if_pos (by omega), if_pos (by omega), htc]
          simp only [Option.bind_some]
          rw [w64 (x := (N : Int) - 1) (by omega) (by omega), spec_inRangeI_eq, hrd]
          simp only [Option.bind_some]
          rw [if_neg (by rw [Bool.and_eq_true, decide_eq_true_iff, decide_eq_true_iff]; exact cr)]
        | true =>
         right
         obtain ⟨g1, g2, g3⟩ := (okAt_iff N ts i).1 hb
         obtain ⟨t, ht⟩ := Int.eq_ofNat_of_zero_le g1
         have htN : t < colsOf an * colsOf bn := by rw [hN]; omega
         obtain ⟨X, Y, W, H, hr, hW, hH, hXW, hYH⟩ := tile_box ⟨q1, q2⟩ ⟨q3, q4⟩ htN
         have htb := spec_tileBox_eq an bn (pn : Int) e t q1 q2 q3 q4 (by omega)
         rw [hr] at htb
         have hcl := cropD_len (X := X) (Y := Y) (wn := W) (hn := H) q8 (by omega) (by omega)
         have hcD : (cropD an pn D X Y W H).length = (H * W) * pn := imgD_length hcl
         have hpl2 := pastePx_len (X := (X : Int)) (Y := (Y : Int)) hsl hcD
         refine ⟨imgD (pastePx an pn s X Y W H (cropD an pn D X Y W H)) an bn, fun res hres => ?_, ⟨fun q hq => ?_, imgD_length hpl2, fun x y hx hy => ?_⟩, rfl⟩
         ·have hj : Ev (fun k => spec_RedrawTiles.j2 k ts (i : Int) false an bn pn e an bn pn D an bn pn s) res := by
           refine Ev.step (f := fun k => (spec_tileBox.f an bn pn e (t : Int)).bind fun u => (spec_crop.f k an bn pn D u.1 u.2.1 u.2.2.1 u.2.2.2).bind fun g => (spec_paste.f k an bn pn s u.1 u.2.1 g.1 g.2.1 g.2.2.1 g.2.2.2).bind fun v => spec_RedrawTiles.l0 k ts ((i + 1 : Nat) : Int) an bn pn e an bn pn D an bn pn v) (fun k => ?_) (ev_now htb (ev_bind (crop_ev q2 q4 q6 (by omega) (by omega) D q8) (ev_bind (paste_ev (X := (X : Int)) (Y := (Y : Int)) ⟨q1, q2⟩ ⟨q3, q4⟩ q6 (by omega) (by omega) (by omega) (by omega) s _ hsl hcD) hres)))
           simp only [spec_RedrawTiles.j2]
           rw [if_neg (by simp), if_pos (by omega), if_pos (by omega), hrd, ht, w64n i (by omega)]
          refine Ev.step (fun k => ?_) hj
          simp only [spec_RedrawTiles.l0]
          rw [if_pos (by omega), if_pos (by omega), htc]
          simp only [Option.bind_some]
          rw [w64 (x := (N : Int) - 1) (by omega) (by omega), spec_inRangeI_eq, hrd]
          simp only [Option.bind_some]
          rw [decide_eq_true g1, decide_eq_true (show rdN ts i ≤ (N : Int) - 1 by omega), if_pos (by rfl)]
          by_cases ci : 0 < i
          ·rw [if_pos (by omega), w64 (x := (i : Int) - 1) (by omega) (by omega), if_pos (by omega), if_pos (by omega), show (i : Int) - 1 = ((i - 1 : Nat) : Int) by omega, rd_rdN, decide_eq_false (by have := g3 ci; omega)]
          ·rw [if_neg (by omega)]
         ·by_cases cq : q = i
          ·rw [cq]; exact hb
          ·exact hinv q (by omega)
         ·rw [nx_imgD hpl2 hx hy]
          have hbt : boxesT an bn (ts.take (i + 1)) = boxesT an bn (ts.take i) ++ [⟨X, Y, W, H⟩] := by
           unfold boxesT
           rw [List.take_succ_eq_append_getElem hi, List.map_append, List.map_cons, List.map_nil]
           congr 2
           unfold boxT
           rw [← rdN_get ts i hi, ht, Int.toNat_natCast, hr]
          rw [hbt]
          unfold pastePx patchPx
          rw [List.any_append, List.any_cons, List.any_nil, Bool.or_false]
          have hbx : inBx (⟨X, Y, W, H⟩ : Bxx) x y = decide ((X : Int) ≤ x ∧ (x : Int) < (X : Int) + W ∧ (Y : Int) ≤ y ∧ (y : Int) < (Y : Int) + H) := rfl
          rw [hbx]
          by_cases z : (X : Int) ≤ x ∧ (x : Int) < (X : Int) + W ∧ (Y : Int) ≤ y ∧ (y : Int) < (Y : Int) + H
          ·rw [if_pos z, decide_eq_true z, Bool.or_true, if_pos rfl]
           unfold cropD
           rw [nx_imgD hcl (by omega) (by omega)]
           congr 2
           ·congr 1
            omega
           ·omega
          ·rw [if_neg z, decide_eq_false z, Bool.or_false, hpx x y hx hy]
           rfl
       ·intro s ⟨hinv, hsl, hpx⟩
        rw [List.take_length] at hpx
        have ho : okTs N ts = true := (okTs_iff _ _).2 hinv
        have hlen := patchPx_len q7 q8 (boxesT an bn ts)
        rw [← hV s ho (ext_img hsl (imgD_length hlen) (fun x y hx hy => by rw [hpx x y hx hy, nx_imgD hlen hx hy]))]
        refine Ev.step (f := fun _ => some ((an : Int), (bn : Int), (pn : Int), s, true)) (fun k => ?_) (Ev.now _)
        simp only [spec_RedrawTiles.l0]
        rw [if_neg (by omega)]
     ·exact stop _ _ _ _ _ (fun h => e3 ((sameV_iff _ _ _ _ _ _ _ _).1 h.1).2.2.2.2) (by simpa using e3)
    ·exact ev_neg e2 (stop _ _ _ _ _ (fun h => e2 ((sameV_iff _ _ _ _ _ _ _ _).1 h.1).2.2.2.1) rfl)
   ·exact ev_neg e1 (stop _ _ _ _ _ (fun h => e1 ((sameV_iff _ _ _ _ _ _ _ _).1 h.1).2.2.1) rfl)
  ·exact ev_neg c1 (stop _ _ _ _ _ (fun h => c1 ((sameV_iff _ _ _ _ _ _ _ _).1 h.1).1) rfl)
 ·have he : flatV a' b' p' e ls = (0, 0, 0, [], false) := by unfold flatV; rw [if_neg cf]
  rw [he] at hF
  exact ev_bind hF (ev_neg (by simp) (stop _ _ _ _ _ (fun h => cf ⟨((sameV_iff _ _ _ _ _ _ _ _).1 h.1).2.1, h.2.1⟩) rfl))
theorem tilesV_get (an bn t : Nat) (ht : t < colsOf an * colsOf bn) : rd_T47 (tilesV an bn) (t : Int) = tileN an bn t := by
 have hl : t < (tilesV an bn).length := by unfold tilesV; rw [tilesN_length]; exact ht
 simp [rd_T47, tilesV, tilesN]
 rw [List.getElem?_range ht]
 rfl
theorem impl_RedrawTiles_ev (a b p : Int) (d : List Int) (a' b' p' : Int) (e : List Int) (ls : List Lay) (ts : List Int) (htl : ts.length ≤ 2000000) :
  Ev (fun k => impl_RedrawTiles.f k a b p d a' b' p' e ls ts) (redrawV a b p d a' b' p' e ls ts) := by
 unfold impl_RedrawTiles.f
 have stop : ∀ (q : Bool), ¬ (sameV a b p d a' b' p' e = true ∧ (ls.length ≤ 6 ∧ ls.all (okL p') = true) ∧ okTs (colsOf a.toNat * colsOf b.toNat) ts = true) → q = true → Ev (fun k => impl_RedrawTiles.j0 k ls ts q a b p d a' b' p' e) (redrawV a b p d a' b' p' e ls ts) := by
  intro q hn hq
  subst hq
  unfold redrawV
  rw [if_neg hn]
  refine Ev.step (f := fun _ => some (0, 0, 0, [], false)) (fun k => ?_) (Ev.now _)
  simp only [impl_RedrawTiles.j0]
  rw [if_pos trivial]
 refine ev_now (impl_isImage_eq a b p d) ?_
 by_cases c1 : validI a b p d = true
 ·refine ev_pos c1 (ev_now (impl_isImage_eq a' b' p' e) ?_)
  by_cases c2 : validI a' b' p' e = true
  ·refine ev_pos c2 (ev_now (impl_alike_eq a b p d a' b' p' e) ?_)
   by_cases c3 : a = a' ∧ b = b' ∧ p = p'
   ·have hsame : sameV a b p d a' b' p' e = true := (sameV_iff _ _ _ _ _ _ _ _).2 ⟨c1, c2, c3.1, c3.2.1, c3.2.2⟩
    rw [decide_eq_true c3]
    obtain ⟨rfl, rfl, rfl⟩ := c3
    have hF := impl_flatten_ev a b p e ls
    have hV : ls.length ≤ 6 ∧ ls.all (okL p) = true → okTs (colsOf a.toNat * colsOf b.toNat) ts = true → (a, b, p, imgD (patchPx a.toNat p.toNat d (flatD a b p e ls) (boxesT a.toNat b.toNat ts)) a.toNat b.toNat, true) = redrawV a b p d a b p e ls ts := by
     intro h1 h2
     unfold redrawV
     rw [if_pos ⟨hsame, h1, h2⟩]
    have hV0 : ¬ ((ls.length ≤ 6 ∧ ls.all (okL p) = true) ∧ okTs (colsOf a.toNat * colsOf b.toNat) ts = true) → ((0, 0, 0, [], false) : Int × Int × Int × List Int × Bool) = redrawV a b p d a b p e ls ts := by
     intro h
     unfold redrawV
     rw [if_neg (fun g => h g.2)]
    have hpatch : ls.length ≤ 6 ∧ ls.all (okL p) = true → okTs (colsOf a.toNat * colsOf b.toNat) ts = true → impl_patched.f a b p d a b p (flatD a b p e ls) (boxesT a.toNat b.toNat ts) = some (a, b, p, imgD (patchPx a.toNat p.toNat d (flatD a b p e ls) (boxesT a.toNat b.toNat ts)) a.toNat b.toNat) := by
     intro h1 h2
     refine patched_is c1 (flatD_valid ls c2 h1.2) ?_
     obtain ⟨an, bn, pn, rfl, rfl, rfl, q1, q2, q3, q4, q5, q6, q7⟩ := nat_of c1
     exact boxesT_on ⟨q1, q2⟩ ⟨q3, q4⟩ h2
    generalize redrawV a b p d a b p e ls ts = V at hV hV0
    have hfl : Ev (fun k => impl_flatten.f k a b p e ls) (if ls.length ≤ 6 ∧ ls.all (okL p) = true then (a, b, p, flatD a b p e ls, true) else (0, 0, 0, [], false)) := by
     refine ev_val hF ?_
     unfold flatV
     by_cases h : ls.length ≤ 6 ∧ ls.all (okL p) = true
     ·rw [if_pos ⟨c2, h⟩, if_pos h]
     ·rw [if_neg (fun g => h g.2), if_neg h]
    generalize flatD a b p e ls = D at hV hpatch hfl
    have htb : Ev (fun k => impl_tileBoxes.f k a b p e) (tilesV a.toNat b.toNat) := by
     obtain ⟨an, bn, pn, rfl, rfl, rfl, q1, q2, q3, q4, q5, q6, q7⟩ := nat_of c1
     exact impl_tileBoxes_ev an bn pn e q1 q2 q3 q4
    have hlen : (tilesV a.toNat b.toNat).length = colsOf a.toNat * colsOf b.toNat := tilesN_length _ _ _
    have hcount : colsOf a.toNat * colsOf b.toNat ≤ 16 := by
     obtain ⟨an, bn, pn, rfl, rfl, rfl, q1, q2, q3, q4, q5, q6, q7⟩ := nat_of c1
     exact (tiles_count an bn q1 q2 q3 q4).2
    have hget : ∀ t : Nat, t < colsOf a.toNat * colsOf b.toNat → rd_T47 (tilesV a.toNat b.toNat) (t : Int) = tileN a.toNat b.toNat t := fun t ht => tilesV_get _ _ t ht
    generalize hTB : tilesV a.toNat b.toNat = TB at htb hlen hget
    generalize hN : colsOf a.toNat * colsOf b.toNat = N at hV hV0 hpatch hlen hcount hget
    refine Ev.step (f := fun k => (impl_tileBoxes.f k a b p e).bind fun t => impl_RedrawTiles.l0 k ls ts t ts (ts.length : Int) 0 a b p d a b p e) (fun k => ?_) (ev_bind htb ?_)
    ·simp only [impl_RedrawTiles.j0]
     rw [if_neg (by simp)]
    ·refine ev_up2 ts.length (fun k i (_ : Unit) => impl_RedrawTiles.l0 k ls ts TB ts (ts.length : Int) (i : Int) a b p d a b p e) (fun i _ => ∀ q, q < i → okAt N ts q = true) (fun _ _ => V) ?_ ?_ ts.length 0 () (by omega) (fun q hq => by omega)
     ·intro i _ hi hinv
      have hrd : rd ts (i : Int) = rdN ts i := rd_rdN ts i
      cases hb : okAt N ts i with
      | false =>
       left
       have hnot : ¬ okTs N ts = true := fun h => by
        have := (okTs_iff _ _).1 h i hi
        rw [hb] at this; cases this
       rw [← hV0 (fun h => hnot h.2)]
       have hn := fun h => Bool.eq_false_iff.1 hb ((okAt_iff N ts i).2 h)
       refine Ev.step (f := fun _ => some (0, 0, 0, [], false)) (fun k => ?_) (Ev.now _)
       simp only [impl_RedrawTiles.l0]
       rw [if_pos (by omega), if_pos (by omega), if_pos (by omega), hrd]
       by_cases n1 : rdN ts i < 0
       ·rw [if_pos n1]
       ·rw [if_neg n1]
        by_cases n2 : rdN ts i ≥ (TB.length : Int)
        ·rw [if_pos n2]
        ·rw [if_neg n2]
         by_cases ci : 0 < i
         ·rw [if_pos (by omega), w64 (x := (i : Int) - 1) (by omega) (by omega), if_pos (by omega), if_pos (by omega), show (i : Int) - 1 = ((i - 1 : Nat) : Int) by omega, rd_rdN, if_pos]
          by_cases cl : rdN ts (i - 1) ≥ rdN ts i
          ·exact cl
          ·exact absurd ⟨by omega, by omega, fun _ => by omega⟩ hn
         ·exact absurd ⟨by omega, by omega, fun h => absurd h ci⟩ hn
      | true =>
       right
       obtain ⟨g1, g2, g3⟩ := (okAt_iff N ts i).1 hb
       refine ⟨(), fun res hres => Ev.step (fun k => ?_) hres, fun q hq => ?_, rfl⟩
       ·simp only [impl_RedrawTiles.l0]
        rw [if_pos (by omega), if_pos (by omega), if_pos (by omega), hrd, if_neg (by omega), if_neg (by omega), w64n i (by omega)]
        by_cases ci : 0 < i
        ·rw [if_pos (by omega), w64 (x := (i : Int) - 1) (by omega) (by omega), if_pos (by omega), if_pos (by omega), show (i : Int) - 1 = ((i - 1 : Nat) : Int) by omega, rd_rdN, if_neg (by have := g3 ci; omega)]
        ·rw [if_neg (by omega)]
       ·by_cases cq : q = i
        ·rw [cq]; exact hb
        ·exact hinv q (by omega)
     ·intro _ hinv
      have ho : okTs N ts = true := (okTs_iff _ _).2 hinv
      by_cases h : ls.length ≤ 6 ∧ ls.all (okL p) = true
      ·rw [if_pos h] at hfl
       rw [← hV h ho]
       have key := ev_up2 ts.length (fun k i (_ : Unit) => impl_RedrawTiles.l1 k TB (boxesT a.toNat b.toNat (ts.take i)) ts (ts.length : Int) (i : Int) a b p d a b p D) (fun _ _ => True) (fun _ _ => (a, b, p, imgD (patchPx a.toNat p.toNat d D (boxesT a.toNat b.toNat ts)) a.toNat b.toNat, true))
        (by
         intro i _ hi _
         right
         obtain ⟨g1, g2, _⟩ := (okAt_iff N ts i).1 (hinv i hi)
         obtain ⟨t, ht⟩ := Int.eq_ofNat_of_zero_le g1
         refine ⟨(), fun res hres => Ev.step (fun k => ?_) hres, trivial, rfl⟩
         have hbt : boxesT a.toNat b.toNat (ts.take (i + 1)) = boxesT a.toNat b.toNat (ts.take i) ++ [tileN a.toNat b.toNat t] := by
          unfold boxesT
          rw [List.take_succ_eq_append_getElem hi, List.map_append, List.map_cons, List.map_nil]
          congr 2
          unfold boxT
          rw [← rdN_get ts i hi, ht, Int.toNat_natCast]
         have hbl : (boxesT a.toNat b.toNat (ts.take i)).length ≤ 2000000 := by unfold boxesT; rw [List.length_map, List.length_take]; omega
         rw [hbt]
         simp only [impl_RedrawTiles.l1]
         rw [if_pos (by omega), if_pos (by omega), if_pos (by omega), rd_rdN ts i, ht, if_pos (by omega), if_pos (by omega), if_pos (by omega), hget t (by omega), w64n i (by omega)])
        (by
         intro _ _
         rw [List.take_length]
         refine Ev.step (f := fun _ => (impl_patched.f a b p d a b p D (boxesT a.toNat b.toNat ts)).bind fun t => some (t.1, t.2.1, t.2.2.1, t.2.2.2, true)) (fun k => ?_) (ev_now (hpatch h ho) (Ev.now _))
         simp only [impl_RedrawTiles.l1]
         rw [if_neg (by omega)])
        ts.length 0 () (by omega) trivial
       refine Ev.step (f := fun k => (impl_flatten.f k a b p e ls).bind fun t => if t.2.2.2.2 = true then impl_RedrawTiles.l1 k TB [] ts (ts.length : Int) 0 a b p d t.1 t.2.1 t.2.2.1 t.2.2.2.1 else some (0, 0, 0, [], false)) (fun k => ?_) (ev_bind hfl (ev_pos rfl key))
       simp only [impl_RedrawTiles.l0]
       rw [if_neg (by omega)]
      ·rw [if_neg h] at hfl
       rw [← hV0 (fun g => h g.1)]
       refine Ev.step (f := fun k => (impl_flatten.f k a b p e ls).bind fun t => if t.2.2.2.2 = true then impl_RedrawTiles.l1 k TB [] ts (ts.length : Int) 0 a b p d t.1 t.2.1 t.2.2.1 t.2.2.2.1 else some (0, 0, 0, [], false)) (fun k => ?_) (ev_bind hfl (ev_neg (by simp) (Ev.now _)))
       simp only [impl_RedrawTiles.l0]
       rw [if_neg (by omega)]
   ·rw [decide_eq_false c3]
    exact stop _ (fun h => c3 (by have := (sameV_iff _ _ _ _ _ _ _ _).1 h.1; exact this.2.2)) rfl
  ·exact ev_neg c2 (stop _ (fun h => c2 ((sameV_iff _ _ _ _ _ _ _ _).1 h.1).2.1) rfl)
 ·exact ev_neg c1 (stop _ (fun h => c1 ((sameV_iff _ _ _ _ _ _ _ _).1 h.1).1) rfl)
theorem redrawV_len (a b p : Int) (d : List Int) (a' b' p' : Int) (e : List Int) (ls : List Lay) (ts : List Int) : (redrawV a b p d a' b' p' e ls ts).2.2.2.1.length ≤ 1024 := by
 unfold redrawV
 split
 ·rename_i h
  obtain ⟨c1, c2, rfl, rfl, rfl⟩ := (sameV_iff _ _ _ _ _ _ _ _).1 h.1
  have hfv := flatD_valid ls c2 h.2.1.2
  generalize flatD a b p e ls = D at hfv
  obtain ⟨an, bn, pn, rfl, rfl, rfl, q1, q2, q3, q4, q5, q6, q7⟩ := nat_of c1
  obtain ⟨_, _, _, f1, f2, f3, _, _, _, _, _, _, q8⟩ := nat_of hfv
  have f1 := Int.ofNat.inj f1
  have f2 := Int.ofNat.inj f2
  have f3 := Int.ofNat.inj f3
  subst f1 f2 f3
  simp only [Int.toNat_natCast]
  rw [imgD_length (patchPx_len q7 q8 _)]
  exact Nat.mul_le_mul (Nat.mul_le_mul q4 q2) q6
 ·simp

/- Marks on numbers: what is written into a list, and read again. -/

def markedI (m : Nat) (n : Int) : List Int := (List.range m).map (fun j => n + ((j : Nat) : Int))
theorem markedI_length (m : Nat) (n : Int) : (markedI m n).length = m := by simp [markedI]
theorem markIntS_is (l : List Int) (n : Int) (hl : l.length ≤ 1000000000) (h0 : 0 ≤ n) (h1 : n ≤ 1000000000000) : Ev (fun k => laws_markIntS.f k l n) (n + (l.length : Int), markedI l.length n) := by
 have key := ev_up l.length (fun k i (s : List Int) => laws_markIntS.l0 k s (n + (i : Int)) (i : Int)) (fun i s => s.length = l.length ∧ s.take i = markedI i n) (fun _ _ => (n + (l.length : Int), markedI l.length n))
  (by
   intro i s hi hs
   refine .inr ⟨s.set i (n + (i : Int)), fun k => ?_, ⟨by simpa using hs.1, by rw [take_set s i _ (by omega), hs.2]; unfold markedI; rw [List.range_succ, List.map_append]; rfl⟩, rfl⟩
   simp only [laws_markIntS.l0]
   rw [if_pos (by omega), if_pos (by omega), w64n i (by omega), w64 (x := n + (i : Int) + 1) (by omega) (by omega), Int.toNat_natCast, show n + (i : Int) + 1 = n + ((i + 1 : Nat) : Int) by omega])
  (by
   intro s hs
   refine Ev.step (f := fun _ => some (n + (l.length : Int), s)) (fun k => ?_) (ev_const ?_)
   ·simp only [laws_markIntS.l0]
    rw [if_neg (by omega)]
   ·rw [← hs.2, ← hs.1, List.take_length])
  l.length 0 l (by omega) ⟨rfl, by simp [markedI]⟩
 unfold laws_markIntS.f
 simpa using key
theorem heldIntS_ev (m : Nat) (n : Int) (hl : m ≤ 1000000000) (h0 : 0 ≤ n) (h1 : n ≤ 1000000000000) : Ev (fun k => laws_heldIntS.f k (markedI m n) n) (n + (m : Int)) := by
 have key := ev_up m (fun k i (_ : Unit) => laws_heldIntS.l0 k (markedI m n) (n + (i : Int)) (i : Int)) (fun _ _ => True) (fun _ _ => n + (m : Int))
  (by
   intro i s hi _
   right
   refine ⟨(), fun k => ?_, trivial, rfl⟩
   simp only [laws_heldIntS.l0]
   have hr : rd (markedI m n) (i : Int) = n + (i : Int) := by
    rw [rd_nat _ i (by rw [markedI_length]; omega)]
    simp [markedI]
   rw [if_pos (by rw [markedI_length]; omega), if_pos (by omega), hr, w64n i (by omega), w64 (x := n + (i : Int) + 1) (by omega) (by omega)]
   have e : n + (i : Int) + 1 = n + ((i + 1 : Nat) : Int) := by omega
   rw [e]
   simp)
  (by
   intro s _
   refine Ev.step (f := fun _ => some (n + (m : Int))) (fun k => ?_) (ev_const rfl)
   simp only [laws_heldIntS.l0]
   rw [if_neg (by rw [markedI_length]; omega)])
  m 0 () (by omega) trivial
 unfold laws_heldIntS.f
 simpa using key

/- Images that are marked, and whether they hold their marks. -/

theorem markImage_is (w h p : Int) (d : List Int) (n : Int) (hl : d.length ≤ 1000000000) (h0 : 0 ≤ n) (h1 : n ≤ 1000000000000) : Ev (fun k => laws_markImage.f k w h p d n) (n + (d.length : Int), markedI d.length n) := by
 unfold laws_markImage.f
 exact ev_bind (markIntS_is d n hl h0 h1) (Ev.now _)
theorem heldImage_ev (w h p : Int) (m : Nat) (n : Int) (hl : m ≤ 1000000000) (h0 : 0 ≤ n) (h1 : n ≤ 1000000000000) : Ev (fun k => laws_heldImage.f k w h p (markedI m n) n) (n + (m : Int)) := by
 unfold laws_heldImage.f
 exact ev_bind (heldIntS_ev m n hl h0 h1) (ev_neg (by omega) (Ev.now _))

/- Rows of layers: sizes, copies, equality, marks. -/

abbrev RowI := S55
abbrev RowL := S51
def cRow (s : RowL) : RowI := ⟨⟨s.f0.f0, s.f0.f1, s.f0.f2, s.f0.f3⟩, s.f1, s.f2, s.f3, s.f4, s.f5⟩
def lenI (s : RowI) : Nat := s.f0.f3.length
def lenL (s : RowL) : Nat := s.f0.f3.length
def sumL (l : List RowL) : Nat := (l.map lenL).sum
theorem rdI_nat (l : List RowI) (i : Nat) (h : i < l.length) : rd_T55 l (i : Int) = l[i] := by simp [rd_T55, h]
theorem rdL_nat' (l : List RowL) (i : Nat) (h : i < l.length) : rd_T51 l (i : Int) = l[i] := by simp [rd_T51, h]
theorem sz_loop (l : List RowL) (hl : l.length ≤ 9223372036854775806) (hb : ∀ s ∈ l, lenL s ≤ 9223372036854775807) : ∀ (r i : Nat) (n : Int), i + r = l.length → 0 ≤ n → n ≤ 1048576 →
  ∃ m : Int, Ev (fun k => laws_szLayerS.l0 k l n (i : Int)) m ∧ (m < 0 ∨ (0 ≤ m ∧ m ≤ n - (sumL (l.drop i) : Int)))
 | 0, i, n, hi, h0, h1 => by
  refine ⟨n, Ev.step (f := fun _ => some n) (fun k => by simp only [laws_szLayerS.l0]; rw [if_neg (by omega)]) (Ev.now _), .inr ⟨h0, ?_⟩⟩
  rw [List.drop_of_length_le (by omega)]
  simp [sumL]
 | r + 1, i, n, hi, h0, h1 => by
  have hlt : i < l.length := by omega
  have hsum : (sumL (l.drop i) : Int) = (lenL l[i] : Int) + (sumL (l.drop (i + 1)) : Int) := by
   rw [List.drop_eq_getElem_cons hlt]
   simp only [sumL, List.map_cons, List.sum_cons]
   omega
  rcases szLayer_eq l[i].f0.f0 l[i].f0.f1 l[i].f0.f2 l[i].f0.f3 l[i].f1 l[i].f2 l[i].f3 l[i].f4 l[i].f5 n h0 h1 (hb _ (List.getElem_mem hlt)) with ⟨e1, e2, e3⟩ | e
  ·obtain ⟨m, r1, r2⟩ := sz_loop l hl hb r (i + 1) (n - (l[i].f0.f3.length : Int)) (by omega) (by omega) (by omega)
   refine ⟨m, Ev.step (f := fun k => (laws_szLayer.f l[i].f0.f0 l[i].f0.f1 l[i].f0.f2 l[i].f0.f3 l[i].f1 l[i].f2 l[i].f3 l[i].f4 l[i].f5 n).bind fun t => if t < 0 then some (-1) else laws_szLayerS.l0 k l t ((i + 1 : Nat) : Int)) (fun k => ?_) (ev_now e3 (ev_neg (by omega) r1)), ?_⟩
   ·simp only [laws_szLayerS.l0]
    rw [if_pos (by omega), if_pos (by omega), rdL_nat' l i hlt, w64n i (by omega)]
   ·have hlen : (lenL l[i] : Int) = (l[i].f0.f3.length : Int) := rfl
    omega
  ·refine ⟨-1, Ev.step (f := fun k => (laws_szLayer.f l[i].f0.f0 l[i].f0.f1 l[i].f0.f2 l[i].f0.f3 l[i].f1 l[i].f2 l[i].f3 l[i].f4 l[i].f5 n).bind fun t => if t < 0 then some (-1) else laws_szLayerS.l0 k l t ((i + 1 : Nat) : Int)) (fun k => ?_) (ev_now e (ev_pos (by omega) (Ev.now _))), .inl (by omega)⟩
   simp only [laws_szLayerS.l0]
   rw [if_pos (by omega), if_pos (by omega), rdL_nat' l i hlt, w64n i (by omega)]
theorem szRow_ev (l : List RowL) (hl : l.length ≤ 9223372036854775807) (hb : ∀ s ∈ l, lenL s ≤ 9223372036854775807) (n : Int) (h0 : 0 ≤ n) (h1 : n ≤ 1048576) :
  ∃ m : Int, Ev (fun k => laws_szLayerS.f k l n) m ∧ (m < 0 ∨ (0 ≤ m ∧ m ≤ n ∧ l.length ≤ 1048576 ∧ sumL l ≤ 1048576)) := by
 unfold laws_szLayerS.f
 rw [w64 (x := n - (l.length : Int)) (by omega) (by omega)]
 by_cases c : n - (l.length : Int) < 0
 ·exact ⟨-1, ev_pos c (Ev.now _), .inl (by omega)⟩
 ·obtain ⟨m, r1, r2⟩ := sz_loop l (by omega) hb l.length 0 (n - (l.length : Int)) (by omega) (by omega) (by omega)
  rw [List.drop_zero] at r2
  exact ⟨m, ev_neg c r1, by omega⟩
theorem len_sum : ∀ (l : List RowL) (s : RowL), s ∈ l → lenL s ≤ sumL l
 | x :: l, s, h => by
  rcases List.mem_cons.1 h with rfl | h
  ·simp [sumL]
  ·have := len_sum l s h
   simp only [sumL, List.map_cons, List.sum_cons] at this ⊢
   omega
theorem toRow_ev (l : List RowL) (hl : l.length ≤ 2000000) (hb : ∀ s ∈ l, lenL s ≤ 2000000) : Ev (fun k => laws_toLayerS.f k l) (l.map cRow) := by
 unfold laws_toLayerS.f
 refine ev_pos (by omega) (ev_pos (by omega) ?_)
 have key := ev_up2 l.length (fun k i (s : List RowI) => laws_toLayerS.l0 k l s (i : Int)) (fun i s => s.length = l.length ∧ s.take i = (l.take i).map cRow) (fun _ _ => l.map cRow)
  (by
   intro i s hi ⟨h1, h2⟩
   right
   have hc := toLayer_ev l[i].f0.f0 l[i].f0.f1 l[i].f0.f2 l[i].f0.f3 l[i].f1 l[i].f2 l[i].f3 l[i].f4 l[i].f5 (hb _ (List.getElem_mem hi))
   refine ⟨s.set i (cRow l[i]), fun res hres => ?_, ⟨by rw [List.length_set]; exact h1, by rw [take_set s i _ (by omega), h2, List.take_succ_eq_append_getElem hi, List.map_append]; rfl⟩, rfl⟩
   refine Ev.step (f := fun k => (laws_toLayer.f k l[i].f0.f0 l[i].f0.f1 l[i].f0.f2 l[i].f0.f3 l[i].f1 l[i].f2 l[i].f3 l[i].f4 l[i].f5).bind fun t => if (i : Int) < (s.length : Int) then laws_toLayerS.l0 k l (s.set i (⟨⟨t.1, t.2.1, t.2.2.1, t.2.2.2.1⟩, t.2.2.2.2.1, t.2.2.2.2.2.1, t.2.2.2.2.2.2.1, t.2.2.2.2.2.2.2.1, t.2.2.2.2.2.2.2.2⟩ : RowI)) ((i + 1 : Nat) : Int) else none) (fun k => ?_) (ev_bind hc (ev_pos (by omega) hres))
   simp only [laws_toLayerS.l0]
   rw [if_pos (by omega), if_pos (by omega), rdL_nat' l i hi, w64n i (by omega), Int.toNat_natCast])
  (by
   intro s ⟨h1, h2⟩
   refine Ev.step (f := fun _ => some s) (fun k => by simp only [laws_toLayerS.l0]; rw [if_neg (by omega)]) (ev_const ?_)
   rw [List.take_length, ← h1, List.take_length] at h2
   rw [h2])
  l.length 0 (List.replicate ((l.length : Int) : Int).toNat z55) (by omega) ⟨by simp, by simp⟩
 exact key
theorem eqRow_ev (l : List RowI) (hl : l.length ≤ 1000000000) (hb : ∀ s ∈ l, lenI s ≤ 1000000000000) : Ev (fun k => laws_eqLayerS.f k l l) true := by
 unfold laws_eqLayerS.f
 refine ev_pos rfl ?_
 have key := ev_up2 l.length (fun k i (_ : Unit) => laws_eqLayerS.l0 k l l (i : Int)) (fun _ _ => True) (fun _ _ => true)
  (by
   intro i _ hi _
   right
   have hc := eqLayer_ev l[i].f0.f0 l[i].f0.f1 l[i].f0.f2 l[i].f0.f3 l[i].f1 l[i].f2 l[i].f3 l[i].f4 l[i].f5 (hb _ (List.getElem_mem hi))
   refine ⟨(), fun res hres => ?_, trivial, rfl⟩
   refine Ev.step (f := fun k => (laws_eqLayer.f k l[i].f0.f0 l[i].f0.f1 l[i].f0.f2 l[i].f0.f3 l[i].f1 l[i].f2 l[i].f3 l[i].f4 l[i].f5 l[i].f0.f0 l[i].f0.f1 l[i].f0.f2 l[i].f0.f3 l[i].f1 l[i].f2 l[i].f3 l[i].f4 l[i].f5).bind fun t => if t = true then laws_eqLayerS.l0 k l l ((i + 1 : Nat) : Int) else some false) (fun k => ?_) (ev_bind hc (ev_pos rfl hres))
   simp only [laws_eqLayerS.l0]
   rw [if_pos (by omega), if_pos (by omega), if_pos (by omega), rdI_nat l i hi, w64n i (by omega)])
  (by
   intro _ _
   exact Ev.step (f := fun _ => some true) (fun k => by simp only [laws_eqLayerS.l0]; rw [if_neg (by omega)]) (Ev.now _))
  l.length 0 () (by omega) trivial
 exact key
def totI (l : List RowI) : Nat := (l.map fun s => lenI s + 8).sum
theorem mark_loop : ∀ (rest pre : List RowI) (n : Int), 0 ≤ n → n + (totI rest : Int) ≤ 1000000000 → pre.length + rest.length ≤ 1000000000 →
  ∃ (m : Int) (u : List RowI), 0 ≤ m ∧ m ≤ n + (totI rest : Int) ∧ Ev (fun k => laws_markLayerS.l0 k (pre ++ rest) n (pre.length : Int)) (m, u)
 | [], pre, n, h0, h1, hl => by
  refine ⟨n, pre ++ [], h0, by simp [totI], Ev.step (f := fun _ => some (n, pre ++ [])) (fun k => ?_) (Ev.now _)⟩
  simp only [laws_markLayerS.l0]
  rw [if_neg (by simp)]
 | x :: rest, pre, n, h0, h1, hl => by
  have htot : (totI (x :: rest) : Int) = (x.f0.f3.length : Int) + 8 + (totI rest : Int) := by
   simp [totI, lenI]
  have hM := markIntS_is x.f0.f3 (n + 3) (by omega) (by omega) (by omega)
  simp only [List.length_cons] at hl
  obtain ⟨m, u, r1, r3, r2⟩ := mark_loop rest (pre ++ [(fun t : Int × List Int => (⟨⟨n, wrap64 (n + 1), wrap64 (wrap64 (n + 1) + 1), t.2⟩, t.1, wrap64 (t.1 + 1), wrap64 (wrap64 (t.1 + 1) + 1), wrap64 (wrap64 (wrap64 (t.1 + 1) + 1) + 1), Int.tmod (wrap64 (wrap64 (wrap64 (wrap64 (t.1 + 1) + 1) + 1) + 1)) 3 == 0⟩ : RowI)) (n + 3 + (x.f0.f3.length : Int), markedI x.f0.f3.length (n + 3))]) (n + (x.f0.f3.length : Int) + 8) (by omega) (by omega) (by simp; omega)
  refine ⟨m, u, r1, by omega, ?_⟩
  have hrd : rd_T55 (pre ++ x :: rest) (pre.length : Int) = x := by simp [rd_T55]
  have hset : ∀ c : RowI, (pre ++ x :: rest).set pre.length c = (pre ++ [c]) ++ rest := by intro c; simp
  have harg : wrap64 (wrap64 (wrap64 (n + 1) + 1) + 1) = n + 3 := by rw [w64 (x := n + 1) (by omega) (by omega), w64 (x := n + 1 + 1) (by omega) (by omega), w64 (x := n + 1 + 1 + 1) (by omega) (by omega)]; omega
  rw [List.length_append, List.length_singleton] at r2
  refine Ev.step (f := fun k => (laws_markIntS.f k x.f0.f3 (n + 3)).bind fun t => laws_markLayerS.l0 k ((pre ++ [(⟨⟨n, wrap64 (n + 1), wrap64 (wrap64 (n + 1) + 1), t.2⟩, t.1, wrap64 (t.1 + 1), wrap64 (wrap64 (t.1 + 1) + 1), wrap64 (wrap64 (wrap64 (t.1 + 1) + 1) + 1), Int.tmod (wrap64 (wrap64 (wrap64 (wrap64 (t.1 + 1) + 1) + 1) + 1)) 3 == 0⟩ : RowI)]) ++ rest) (wrap64 (wrap64 (wrap64 (wrap64 (wrap64 (t.1 + 1) + 1) + 1) + 1) + 1)) ((pre.length + 1 : Nat) : Int)) (fun k => ?_) (ev_bind hM ?_)
  ·simp only [laws_markLayerS.l0]
   rw [if_pos (by simp; omega), if_pos (by omega), hrd, harg, w64n _ (by omega)]
   simp only [Int.toNat_natCast, hset]
  ·have hend : wrap64 (wrap64 (wrap64 (wrap64 (wrap64 ((n + 3 + (x.f0.f3.length : Int)) + 1) + 1) + 1) + 1) + 1) = n + (x.f0.f3.length : Int) + 8 := by rw [w64 (x := (n + 3 + (x.f0.f3.length : Int)) + 1) (by omega) (by omega), w64 (x := (n + 3 + (x.f0.f3.length : Int)) + 1 + 1) (by omega) (by omega), w64 (x := (n + 3 + (x.f0.f3.length : Int)) + 1 + 1 + 1) (by omega) (by omega), w64 (x := (n + 3 + (x.f0.f3.length : Int)) + 1 + 1 + 1 + 1) (by omega) (by omega), w64 (x := (n + 3 + (x.f0.f3.length : Int)) + 1 + 1 + 1 + 1 + 1) (by omega) (by omega)]; omega
   show Ev (fun k => laws_markLayerS.l0 k _ (wrap64 (wrap64 (wrap64 (wrap64 (wrap64 ((n + 3 + (x.f0.f3.length : Int)) + 1) + 1) + 1) + 1) + 1)) ((pre.length + 1 : Nat) : Int)) _
   rw [hend]
   exact r2
theorem markRow_le (l : List RowI) (n : Int) (hl : l.length ≤ 1048576) (hs : totI l ≤ 10000000) (h0 : 0 ≤ n) (h1 : n ≤ 10000000) : ∃ (m : Int) (u : List RowI), 0 ≤ m ∧ m ≤ n + (totI l : Int) ∧ Ev (fun k => laws_markLayerS.f k l n) (m, u) := by
 unfold laws_markLayerS.f
 obtain ⟨m, u, r1, r3, r2⟩ := mark_loop l [] n h0 (by omega) (by simp; omega)
 exact ⟨m, u, r1, r3, r2⟩
theorem tot_c : ∀ (l : List RowL), totI (l.map cRow) = sumL l + 8 * l.length
 | [] => by simp [totI, sumL]
 | x :: l => by
  have h := tot_c l
  simp only [totI, sumL, List.map_cons, List.sum_cons, List.length_cons] at h ⊢
  rw [h]
  show lenL x + 8 + _ = _
  omega

/- The program's RedrawTiles and the reference's return the same, and what is returned is held by nobody else: over lists of numbers alone. -/

theorem FnExactRedrawTiles : laws_FnExactRedrawTiles.Pure := by
 intro w h p d w' h' p' e l ts
 intros
 rename_i hl _ _ _ _ hl' hwf hll _ _
 have hb : ∀ s ∈ l, lenL s ≤ 9223372036854775807 := fun s hs => (hwf s hs).1.2.2.2.2
 by_cases cg : (ts.length : Int) > 1048576
 ·exact ⟨0, laws_FnExactRedrawTiles.f_of (Or.inr (Or.inr (Or.inr (Or.inl cg))))⟩
 rcases szImage_eq w h p d 1048576 (by omega) (by omega) (by first | exact hl | omega) with ⟨hn, h0, hs⟩ | hs
 ·rcases szImage_eq w' h' p' e (1048576 - (d.length : Int)) (by omega) (by omega) (by first | exact hl' | omega) with ⟨hn', h0', hs'⟩ | hs'
  ·obtain ⟨m, ⟨K0, e0⟩, hm⟩ := szRow_ev l hll hb (1048576 - (d.length : Int) - (e.length : Int)) (by omega) (by omega)
   by_cases cm : m < 0
   ·exact ⟨K0, laws_FnExactRedrawTiles.f_of (Or.inr (Or.inr (Or.inl ⟨_, _, _, cg, hs, by omega, hs', by omega, e0 _ (by omega), cm⟩)))⟩
   ·obtain ⟨_, _, hl1, hsum⟩ := hm.resolve_left cm
    have hb2 : ∀ s ∈ l, lenL s ≤ 1048576 := fun s hs => Nat.le_trans (len_sum l s hs) hsum
    obtain ⟨K1, e1⟩ := toImage_ev w h p d (by omega)
    obtain ⟨K1', e1'⟩ := toImage_ev w' h' p' e (by omega)
    obtain ⟨K2, e2⟩ := toRow_ev l (by omega) (fun s hs => by have := hb2 s hs; omega)
    obtain ⟨K3, e3⟩ := toIntS_ev ts (by omega)
    have hcl : (l.map cRow).length ≤ 1048576 := by rw [List.length_map]; exact hl1
    have hcb : ∀ s ∈ l.map cRow, lenI s ≤ 1048576 := fun s hs => by
     obtain ⟨x, hx, rfl⟩ := List.mem_map.1 hs
     exact hb2 x hx
    have htot : totI (l.map cRow) ≤ 9500000 := by rw [tot_c]; omega
    generalize l.map cRow = c at e2 hcl hcb htot
    obtain ⟨K4, e4⟩ := spec_RedrawTiles_ev w h p d w' h' p' e c ts (by omega) (by omega) (by omega) (fun s hs => by have h_ := hcb s hs; unfold lenI at h_; omega) (by omega)
    obtain ⟨K5, e5⟩ := impl_RedrawTiles_ev w h p d w' h' p' e c ts (by omega)
    have hVl := redrawV_len w h p d w' h' p' e c ts
    generalize redrawV w h p d w' h' p' e c ts = V at e4 e5 hVl
    obtain ⟨v0, v1, v2, v3, vok⟩ := V
    have hVl : v3.length ≤ 1024 := hVl
    obtain ⟨K6, e6⟩ := eqImage_ev v0 v1 v2 v3 (by omega)
    obtain ⟨K7, e7⟩ := eqImage_ev w h p d (by omega)
    obtain ⟨K7', e7'⟩ := eqImage_ev w' h' p' e (by omega)
    obtain ⟨K8, e8⟩ := eqRow_ev c (by omega) (fun s hs => by have := hcb s hs; omega)
    obtain ⟨K9, e9⟩ := eqIntS_ev ts (by omega)
    obtain ⟨K10, e10⟩ := markImage_is w h p d 1 (by omega) (by omega) (by omega)
    obtain ⟨K10', e10'⟩ := markImage_is w' h' p' e (1 + (d.length : Int)) (by omega) (by omega) (by omega)
    obtain ⟨k1, y1, hk1, hk2, ⟨K11, e11⟩⟩ := markRow_le c (1 + (d.length : Int) + (e.length : Int)) hcl (by omega) (by omega) (by omega)
    obtain ⟨K12, e12⟩ := markIntS_is ts k1 (by omega) hk1 (by omega)
    obtain ⟨K13, e13⟩ := markImage_is v0 v1 v2 v3 1 (by omega) (by omega) (by omega)
    obtain ⟨K14, e14⟩ := heldImage_ev v0 v1 v2 v3.length 1 (by omega) (by omega) (by omega)
    refine ⟨K0 + K1 + K1' + K2 + K3 + K4 + K5 + K6 + K7 + K7' + K8 + K9 + K10 + K10' + K11 + K12 + K13 + K14 + 1, laws_FnExactRedrawTiles.f_of (Or.inr (Or.inr (Or.inr (Or.inr ?_))))⟩
    exact ⟨_, _, _, w, h, p, d, w', h', p', e, c, ts, v0, v1, v2, v3, vok, _, _, _, _, _, _, _, _, _, _, hs, by omega, hs', by omega, e0 _ (by omega), cm, cg, e1 _ (by omega), e1' _ (by omega), e2 _ (by omega), e3 _ (by omega), e4 _ (by omega), e5 _ (by omega), e6 _ (by omega), e7 _ (by omega), e7' _ (by omega), e8 _ (by omega), e9 _ (by omega), e10 _ (by omega), e10' _ (by omega), e11 _ (by omega), e12 _ (by omega), by omega, e13 _ (by omega), e14 _ (by omega), by omega⟩
  ·exact ⟨0, laws_FnExactRedrawTiles.f_of (Or.inr (Or.inl ⟨_, _, cg, hs, by omega, hs', by omega⟩))⟩
 ·exact ⟨0, laws_FnExactRedrawTiles.f_of (Or.inl ⟨_, cg, hs, by omega⟩)⟩
end Go.Proofs.Ytnofkbbcbpjhfaa.Pure

/- The head of the translation reads as a plain cut. -/
namespace Go.Proofs.Ytnofkbbcbpjhfaa.Head
set_option maxRecDepth 100000
theorem wordsSigns_word (w r : List Char) (h : w.all (fun c => !(c == Char.ofNat 32)) = true) : wordsSigns (w ++ Char.ofNat 32 :: r) = w :: wordsSigns r := by
  induction w with
  | nil => rfl
  | cons c w ih =>
    simp only [List.all_cons, Bool.and_eq_true, Bool.not_eq_true', beq_eq_false_iff_ne, ne_eq] at h
    have h1 := ih (by simpa using h.2)
    rw [List.cons_append, wordsSigns.eq_3 c _ h.1, h1]
def w1 : List Char := [104, 97, 114, 110, 101, 115, 115].map Char.ofNat
def w2 : List Char := [98, 98, 56, 56, 48, 50, 51, 48, 99, 56, 98, 97, 54, 51, 51, 51, 48, 101, 54, 53, 56, 97, 98, 51, 97, 51, 99, 100, 54, 102, 98, 98, 55, 101, 51, 50, 99, 48, 56, 52, 55, 54, 49, 49, 100, 50, 51, 56, 55, 100, 54, 48, 49, 99, 100, 97, 51, 102, 50, 98, 48, 57, 53, 101].map Char.ofNat
def w3 : List Char := [99, 117, 116].map Char.ofNat
def w4 : List Char := [97, 116, 32, 108, 111, 111, 112, 46, 101, 120, 97, 109, 112, 108, 101, 47, 112, 105, 120, 101, 108, 119, 111, 114, 107, 115, 47, 108, 97, 119, 115, 46, 70, 110, 69, 120, 97, 99, 116, 71, 97, 112, 79, 102, 32, 108, 111, 111, 112, 46, 101, 120, 97, 109, 112, 108, 101, 47, 112, 105, 120, 101, 108, 119, 111, 114, 107, 115, 47, 108, 97, 119, 115, 46, 70, 110, 71, 97, 112, 79, 102, 32, 108, 111, 111, 112, 46, 101, 120, 97, 109, 112, 108, 101, 47, 112, 105, 120, 101, 108, 119, 111, 114, 107, 115, 47, 108, 97, 119, 115, 46, 70, 110, 69, 120, 97, 99, 116, 84, 105, 108, 101, 66, 111, 120, 101, 115, 32, 108, 111, 111, 112, 46, 101, 120, 97, 109, 112, 108, 101, 47, 112, 105, 120, 101, 108, 119, 111, 114, 107, 115, 47, 108, 97, 119, 115, 46, 70, 110, 84, 105, 108, 101, 66, 111, 120, 101, 115, 32, 108, 111, 111, 112, 46, 101, 120, 97, 109, 112, 108, 101, 47, 112, 105, 120, 101, 108, 119, 111, 114, 107, 115, 47, 108, 97, 119, 115, 46, 70, 110, 69, 120, 97, 99, 116, 68, 105, 114, 116, 121, 84, 105, 108, 101, 115, 32, 108, 111, 111, 112, 46, 101, 120, 97, 109, 112, 108, 101, 47, 112, 105, 120, 101, 108, 119, 111, 114, 107, 115, 47, 108, 97, 119, 115, 46, 70, 110, 68, 105, 114, 116, 121, 84, 105, 108, 101, 115, 32, 108, 111, 111, 112, 46, 101, 120, 97, 109, 112, 108, 101, 47, 112, 105, 120, 101, 108, 119, 111, 114, 107, 115, 47, 108, 97, 119, 115, 46, 70, 110, 69, 120, 97, 99, 116, 77, 101, 114, 103, 101, 80, 108, 97, 110, 101, 115, 32, 108, 111, 111, 112, 46, 101, 120, 97, 109, 112, 108, 101, 47, 112, 105, 120, 101, 108, 119, 111, 114, 107, 115, 47, 108, 97, 119, 115, 46, 70, 110, 69, 120, 97, 99, 116, 67, 111, 118, 101, 114, 73, 109, 97, 103, 101, 32, 108, 111, 111, 112, 46, 101, 120, 97, 109, 112, 108, 101, 47, 112, 105, 120, 101, 108, 119, 111, 114, 107, 115, 47, 108, 97, 119, 115, 46, 70, 110, 67, 111, 118, 101, 114, 73, 109, 97, 103, 101, 32, 108, 111, 111, 112, 46, 101, 120, 97, 109, 112, 108, 101, 47, 112, 105, 120, 101, 108, 119, 111, 114, 107, 115, 47, 108, 97, 119, 115, 46, 70, 110, 69, 120, 97, 99, 116, 70, 108, 97, 116, 116, 101, 110, 76, 97, 121, 101, 114, 115, 32, 108, 111, 111, 112, 46, 101, 120, 97, 109, 112, 108, 101, 47, 112, 105, 120, 101, 108, 119, 111, 114, 107, 115, 47, 108, 97, 119, 115, 46, 70, 110, 70, 108, 97, 116, 116, 101, 110, 76, 97, 121, 101, 114, 115, 32, 108, 111, 111, 112, 46, 101, 120, 97, 109, 112, 108, 101, 47, 112, 105, 120, 101, 108, 119, 111, 114, 107, 115, 47, 108, 97, 119, 115, 46, 70, 110, 70, 108, 97, 116, 116, 101, 110, 76, 97, 121, 101, 114, 115, 72, 105, 100, 100, 101, 110, 32, 108, 111, 111, 112, 46, 101, 120, 97, 109, 112, 108, 101, 47, 112, 105, 120, 101, 108, 119, 111, 114, 107, 115, 47, 108, 97, 119, 115, 46, 70, 110, 69, 120, 97, 99, 116, 80, 97, 116, 99, 104, 73, 109, 97, 103, 101, 32, 108, 111, 111, 112, 46, 101, 120, 97, 109, 112, 108, 101, 47, 112, 105, 120, 101, 108, 119, 111, 114, 107, 115, 47, 108, 97, 119, 115, 46, 70, 110, 80, 97, 116, 99, 104, 73, 109, 97, 103, 101, 84, 119, 105, 99, 101, 32, 108, 111, 111, 112, 46, 101, 120, 97, 109, 112, 108, 101, 47, 112, 105, 120, 101, 108, 119, 111, 114, 107, 115, 47, 108, 97, 119, 115, 46, 70, 110, 69, 120, 97, 99, 116, 82, 101, 100, 114, 97, 119, 84, 105, 108, 101, 115, 32, 108, 111, 111, 112, 46, 101, 120, 97, 109, 112, 108, 101, 47, 112, 105, 120, 101, 108, 119, 111, 114, 107, 115, 47, 108, 97, 119, 115, 46, 70, 110, 82, 101, 100, 114, 97, 119, 68, 105, 114, 116, 121, 32, 108, 111, 111, 112, 46, 101, 120, 97, 109, 112, 108, 101, 47, 112, 105, 120, 101, 108, 119, 111, 114, 107, 115, 47, 108, 97, 119, 115, 46, 70, 110, 82, 101, 100, 114, 97, 119, 84, 105, 108, 101, 115].map Char.ofNat
theorem signs0 : Try.prog.initOrder = String.ofList (w1 ++ Char.ofNat 32 :: (w2 ++ Char.ofNat 32 :: (w3 ++ Char.ofNat 32 :: w4))) := by kernel_rfl
theorem behind : behindMainWord (wordsSigns Try.prog.initOrder.toList) = w3 :: wordsSigns w4 := by
  rw [signs0, String.toList_ofList, wordsSigns_word w1 _ (by kernel_rfl), wordsSigns_word w2 _ (by kernel_rfl), wordsSigns_word w3 _ (by kernel_rfl)]
  unfold behindMainWord
  dsimp only
  rw [if_pos (by kernel_rfl)]
theorem strip_cut (R : List (List Char)) : stripLifts liftWords (w3 :: R) = ([], w3 :: R) := by kernel_rfl
theorem mayEnter_of (P : Program) (R : List (List Char)) (h : behindMainWord (wordsSigns P.initOrder.toList) = w3 :: R) (h1 : P.laysLater = false) (h2 : P.bearsReflect = false) (h3 : P.doorFits [] = true) : P.mayEnter = true := by
  unfold Program.mayEnter
  rw [h]
  dsimp only
  rw [strip_cut, h1, h2, h3]
  kernel_rfl
theorem liftsFinal_of (P : Program) (R : List (List Char)) (h : behindMainWord (wordsSigns P.initOrder.toList) = w3 :: R) : P.liftsFinal = false := by
  unfold Program.liftsFinal Program.headLifts
  rw [h]
  dsimp only
  rw [strip_cut]
  kernel_rfl
theorem make_of (P : Program) (R : List (List Char)) (h : behindMainWord (wordsSigns P.initOrder.toList) = w3 :: R) : P.make = some .cut := by
  unfold Program.make
  rw [h]
  kernel_rfl
theorem mayEnter : Try.prog.mayEnter = true := mayEnter_of _ _ behind (by kernel_rfl) (by kernel_rfl) (by kernel_rfl)
theorem liftsFinal : Try.prog.liftsFinal = false := liftsFinal_of _ _ behind
theorem make : Try.prog.make = some .cut := make_of _ _ behind
end Go.Proofs.Ytnofkbbcbpjhfaa.Head

-- the row of the law FnExactRedrawTiles
namespace Go.Proofs.Ytnofkbbcbpjhfaa.fnExactRedrawTiles
open Go.ChangeShapes Go.WideShapes Go.ChangeAt Go.RowKit Go.Proofs.Ytnofkbbcbpjhfaa.Q Go.Proofs.YtnofkbbcbpjhfaaW.PrintWords
open Go.ChangeMaps (open_string shut_string)
set_option linter.unusedVariables false
theorem own : ownKnob Try.prog.godebug = none := by kernel_rfl
theorem laidOut : laidOutB Try.prog = true := by kernel_rfl
set_option maxHeartbeats 4000000 in
set_option maxRecDepth 100000 in
theorem lifted (os : Os) (started : os.Started) (H : Type) (enc : TypeId × Value → H) :
    ReturnsInHanded {} Try.checked os 17 .any (Rows.fnExactRedrawTilesSpec.pre6 enc Try.prog Try.f17 Rows.fnExactRedrawTilesRow.domain false) (Rows.fnExactRedrawTilesSpec.post enc Try.prog Try.f17 false true false false) := by
  refine returnsInHanded_of_change_sized (C := Try.checked) own started (by kernel_rfl) Try.func17
    (ChangeSpec.witness6 (enc := enc) (C := Try.checked) false ⟨#[], #[.agg #[.int .i64 0, .int .i64 0, .int .i64 0, .slice none 0 0], .agg #[.int .i64 0, .int .i64 0, .int .i64 0, .slice none 0 0], .slice none 0 0, .slice none 0 0], []⟩ 8 (by kernel_rfl) (by kernel_rfl) (by kernel_rfl) (by kernel_rfl)) ?_
  intro W base args ds gs before hval0 hW hcnd hsz0 _
  have hval : ∀ (j : Nat) t v, Try.f17.params[j]? = some t → args[j]? = some v → Value.okWide Try.prog W .any base t v := hval0
  have hW' := hW
  obtain ⟨p, q, hA0, hV, rfl, hfz, hnd⟩ := hW
  have hA : DataW.TrodAll enc Try.prog W 0 (fun _ => true) true Try.f17.params.toList args.toList ds p := hA0
  rw [Try.params17] at hA hval
  obtain ⟨v0, vs0, d0, ds0, p0, q0, hargs, rfl, rfl, h0, r0⟩ := trodAll_cons hA
  obtain ⟨v1, vs1, d1, ds1, p1, q1, rfl, rfl, rfl, h1, r1⟩ := trodAll_cons r0
  obtain ⟨v2, vs2, d2, ds2, p2, q2, rfl, rfl, rfl, h2, r2⟩ := trodAll_cons r1
  obtain ⟨v3, vs3, d3, ds3, p3, q3, rfl, rfl, rfl, h3, r3⟩ := trodAll_cons r2
  obtain ⟨rfl, rfl, rfl⟩ := trodAll_nil r3
  obtain rfl : args = #[v0, v1, v2, v3] := by cases args; simp_all
  obtain ⟨rfl, rfl⟩ := trodVars_none hV
  have k0 := h0
  have lt0 : ∀ x ∈ p0, x.block < W.heap.size := by obtain ⟨m, hm⟩ := k0; exact DataW.trod_lt m _ _ _ hm
  obtain ⟨fuel0, hf0⟩ := h0
  obtain ⟨cs0, rfl, hsz0⟩ := okWide_struct Try.underlying24 (hval 0 24 v0 rfl rfl)
  obtain ⟨y0, hK0, hq0⟩ := o24 _ _ _ _ _ _ hf0
  obtain ⟨A0_3, c0_3, hcs0, hc0_3, hr0_3⟩ := k24_open hK0
  obtain rfl : cs0 = #[.int .i64 y0.f0, .int .i64 y0.f1, .int .i64 y0.f2, .slice A0_3 y0.f3.length c0_3] := by cases cs0; simpa [Value.cells] using hcs0
  have k1 := h1
  have lt1 : ∀ x ∈ p1, x.block < W.heap.size := by obtain ⟨m, hm⟩ := k1; exact DataW.trod_lt m _ _ _ hm
  obtain ⟨fuel1, hf1⟩ := h1
  obtain ⟨cs1, rfl, hsz1⟩ := okWide_struct Try.underlying24 (hval 1 24 v1 rfl rfl)
  obtain ⟨y1, hK1, hq1⟩ := o24 _ _ _ _ _ _ hf1
  obtain ⟨A1_3, c1_3, hcs1, hc1_3, hr1_3⟩ := k24_open hK1
  obtain rfl : cs1 = #[.int .i64 y1.f0, .int .i64 y1.f1, .int .i64 y1.f2, .slice A1_3 y1.f3.length c1_3] := by cases cs1; simpa [Value.cells] using hcs1
  have k2 := h2
  have lt2 : ∀ x ∈ p2, x.block < W.heap.size := by obtain ⟨m, hm⟩ := k2; exact DataW.trod_lt m _ _ _ hm
  obtain ⟨fuel2, hf2⟩ := h2
  obtain ⟨aa2, len2, cap2, rfl⟩ := okWide_slice Try.underlying78 (hval 2 78 v2 rfl rfl)
  obtain ⟨l2, ⟨A2, c2, hcs2, hc2, hr2⟩, hq2⟩ := (opens_slice Try.underlying78 (by kernel_rfl) og51) _ _ _ _ _ _ hf2
  have hcs2' : [Value.slice aa2 len2 cap2] = [.slice A2 l2.length c2] := hcs2
  injection hcs2' with hcs2' _
  injection hcs2' with e12 e22 e32
  subst e12 e22 e32
  have k3 := h3
  have lt3 : ∀ x ∈ p3, x.block < W.heap.size := by obtain ⟨m, hm⟩ := k3; exact DataW.trod_lt m _ _ _ hm
  obtain ⟨fuel3, hf3⟩ := h3
  obtain ⟨aa3, len3, cap3, rfl⟩ := okWide_slice Try.underlying22 (hval 3 22 v3 rfl rfl)
  obtain ⟨l3, ⟨A3, c3, hcs3, hc3, hr3⟩, hq3⟩ := (opens_slice Try.underlying22 (by kernel_rfl) (opens_i64 Try.underlying3)) _ _ _ _ _ _ hf3
  have hcs3' : [Value.slice aa3 len3 cap3] = [.slice A3 l3.length c3] := hcs3
  injection hcs3' with hcs3' _
  injection hcs3' with e13 e23 e33
  subst e13 e23 e33
  clear hA0 hval0 hsz0
  obtain ⟨k, hh⟩ := Pure.FnExactRedrawTiles y0.f0 y0.f1 y0.f2 y0.f3 y1.f0 y1.f1 y1.f2 y1.f3 l2 l3 hq0.1 hq0.2.1 hq0.2.2.1 hq0.2.2.2 hr0_3.2.1 hq1.1 hq1.2.1 hq1.2.2.1 hq1.2.2.2 hr1_3.2.1 hq2 hr2.2.1 hq3 hr3.2.1
  refine (Q.laws_FnExactRedrawTiles.calls k y0.f0 y0.f1 y0.f2 _ _ y0.f3 y1.f0 y1.f1 y1.f2 _ _ y1.f3 _ _ l2 _ _ l3 true W hr0_3 hc0_3 hr1_3 hc1_3 hr2 hc2 hr3 hc3 hh).mono fun e W' hpost => ?_
  obtain ⟨he, bel0⟩ := hpost
  have bel : Below W.heap.size W W' := bel0
  subst he
  exact ⟨_, rfl, _, _, _, [], _, [], hW', trodAll_mk1 (shut_bool Try.underlying4 _), (trodAll_cons_mk (Below.trod laidOut (by kernel_rfl) (of_decide_eq_true (by kernel_rfl)) k0 bel lt0) (trodAll_cons_mk (Below.trod laidOut (by kernel_rfl) (of_decide_eq_true (by kernel_rfl)) k1 bel lt1) (trodAll_cons_mk (Below.trod laidOut (by kernel_rfl) (of_decide_eq_true (by kernel_rfl)) k2 bel lt2) (trodAll_cons_mk (Below.trod laidOut (by kernel_rfl) (of_decide_eq_true (by kernel_rfl)) k3 bel lt3) trodAll_mk0)))), rfl, bel.frame _, fun h => by cases h⟩
set_option maxHeartbeats 4000000 in
theorem closed : joinedFacts Try.prog 17 Try.f17 Rows.fnExactRedrawTilesSpec Rows.fnExactRedrawTilesRow = true := by
  unfold joinedFacts
  rw [Head.mayEnter, Head.liftsFinal, Head.make]
  simp only [Bool.and_eq_true]
  repeat' apply And.intro
  all_goals first | exact True.intro | (as_aux_lemma => kernel_rfl)
set_option maxHeartbeats 4000000 in
theorem over : Rows.fnExactRedrawTilesRow.holds Try.pinned (OpenSpec.ofChange Rows.fnExactRedrawTilesSpec) :=
  OpenClaim.holds_of_wide 17 Try.f17 rfl rfl rfl rfl rfl rfl rfl ⟨rfl, rfl, rfl, rfl, rfl⟩ rfl rfl rfl rfl rfl (by kernel_rfl) Try.func17 closed
    (of_decide_eq_true (by kernel_rfl)) (by unfold Func.isWrapper; first | (rw [if_pos (by decide +kernel)]; kernel_rfl) | (rw [if_neg (by decide +kernel)]; exact ⟨rfl, rfl⟩))
    (fun os started H enc _ => lifted os started H enc)
theorem proved : Rows.FnExactRedrawTilesSaid := over
#print axioms proved
end Go.Proofs.Ytnofkbbcbpjhfaa.fnExactRedrawTiles
namespace Go.Proofs.Ytnofkbbcbpjhfaa
/-- The row, under a short name, for the claim. -/
theorem fnExactRedrawTiles_holds : Rows.FnExactRedrawTilesSaid := fnExactRedrawTiles.proved
end Go.Proofs.Ytnofkbbcbpjhfaa
