/- A part of the proof that the statement FnExactDoStepSaid holds, under no condition of its own: The program's DoStep and the reference's return the same, and what is returned is held by nobody else: over lists of numbers alone. -/
import Derived.Test.YtgccpcnakkioiaaCFnExactDoStep5
import Derived.Test.YtgccpcnakkioiaaCFnExactDoStep4
import Derived.Test.YtgccpcnakkioiaaCFnExactDoStep3
import Derived.Test.YtgccpcnakkioiaaRows
import Derived.JoinedOf
import Derived.KernelRfl
import Derived.WalkKit
import Derived.ProofKit
import Derived.OpenShut
import Derived.ShutString
import Derived.ChangeOld
import Derived.Below
import Derived.SizedLaws
import Derived.Carry
/- One step, as the program and the reference have it. -/
namespace Go.Proofs.Ytgccpcnakkioiaa.Pure
open Go.RowKit Go.Proofs.Ytgccpcnakkioiaa.Q Go.Proofs.YtgccpcnakkioiaaW.PrintWords Go.Proofs.YtgccpcnakkioiaaW.PrintLast Go.Proofs.YtgccpcnakkioiaaW.PrintMore
set_option linter.unusedVariables false
set_option linter.unusedSimpArgs false

theorem copyImage_px (a b p : Int) (d : List Int) (hl : d.length ≤ 1000000) : spec_copyImage.f a b p d = some (a, b, p, d) := by
  unfold spec_copyImage.f
  rw [copyInts_px d hl]
  rfl
/-- what mirror makes -/
def mirD (an bn pn : Nat) (d : List Int) : List Int := imgD (fun x y => nx pn d (y * an + (an - 1 - x))) an bn
theorem mirD_len {an bn pn : Nat} {d : List Int} (h1 : 1 ≤ an) (h2 : 1 ≤ bn) (hd : d.length = (bn * an) * pn) : ∀ x y, x < an → y < bn → (nx pn d (y * an + (an - 1 - x))).length = pn := fun x y hx hy => nx_length hd (lin_lt (by omega) (by omega))
theorem mirror_ev {an bn pn : Nat} (h1 : 1 ≤ an ∧ an ≤ 16) (h2 : 1 ≤ bn ∧ bn ≤ 16) (h3 : pn ≤ 4) (d : List Int) (hd : d.length = (bn * an) * pn) : Ev (fun k => spec_mirror.f k an bn pn d) ((an : Int), (bn : Int), (pn : Int), mirD an bn pn d) := by
  have sm := small h1.2 h2.2 h3
  unfold spec_mirror.f
  refine ev_now (copyImage_px _ _ _ d (by omega)) ?_
  have hlen := mirD_len h1.1 h2.1 hd
  let I : Nat → Nat → List Int → Prop := fun r c s => s.length = (bn * an) * pn ∧ ∀ x y : Nat, x < an → y < bn → (y < r ∨ (y = r ∧ x < c)) → nx pn s (y * an + (an - 1 - x)) = nx pn d (y * an + x)
  have inner : ∀ (r : Nat), r < bn → ∀ s : List Int, I r 0 s → ∃ s' : List Int, I (r + 1) 0 s' ∧
        ∀ res, Ev (fun k => spec_mirror.l0 k ((r + 1 : Nat) : Int) an bn pn d an bn pn s') res → Ev (fun k => spec_mirror.l1 k (r : Int) 0 an bn pn d an bn pn s) res := by
    intro r hr s hs
    obtain ⟨s', i4, i5⟩ := ev_run an (fun k c s => spec_mirror.l1 k (r : Int) (c : Int) an bn pn d an bn pn s) (fun s k => spec_mirror.l0 k ((r + 1 : Nat) : Int) an bn pn d an bn pn s) (fun c s => I r c s)
      (by
        intro c s hc ⟨hsl, i1⟩
        have hyl : (nx pn d (r * an + c)).length = pn := nx_length hd (lin_lt hc hr)
        have htx : an - 1 - c < an := by omega
        have hty : r < bn := by omega
        have hlin := lin_lt htx hty
        have hm : (r * an + (an - 1 - c) + 1) * pn ≤ (bn * an) * pn := Nat.mul_le_mul_right pn hlin
        rw [Nat.add_mul, Nat.one_mul] at hm
        refine ⟨laidOver s ((r * an + (an - 1 - c)) * pn) (nx pn d (r * an + c)), ⟨by rw [laidOver_length _ _ _ (by rw [hyl, hsl]; exact hm)]; exact hsl, ?_⟩, ?_⟩
        · intro x y hx hy hdn
          have hxy : an - 1 - x < an := by omega
          rw [nx_laid hsl hyl hlin (lin_lt hxy (by omega))]
          by_cases q : x = c ∧ y = r
          · obtain ⟨rfl, rfl⟩ := q
            rw [if_pos rfl]
          · rw [if_neg (fun z => q (by have t := lin_ne hxy htx z; omega))]
            exact i1 x y hx hy (by omega)
        · intro res hres
          clear hm hlin i1
          refine Ev.step (f := fun k => (spec_pixelAt.f an bn pn d (c : Int) (r : Int)).bind fun t => (spec_setPixel.f k an bn pn s ((an - 1 - c : Nat) : Int) ((r : Nat) : Int) t).bind fun u => spec_mirror.l1 k (r : Int) ((c + 1 : Nat) : Int) an bn pn d an bn pn u) (fun k => ?_) (ev_now (pixelAt_eq h1.2 h2.2 h3 hc hr d hd) (ev_bind (setPixel_ev (by omega) (by omega) h3 htx hty s _ hsl hyl) hres))
          simp only [spec_mirror.l1]
          rw [if_pos (by omega), w64 (x := (an : Int) - 1) (by omega) (by omega), w64 (x := (an : Int) - 1 - (c : Int)) (by omega) (by omega), show (an : Int) - 1 - (c : Int) = ((an - 1 - c : Nat) : Int) by omega, w64n c (by omega)])
      (by
        intro s _ res hres
        refine Ev.step (fun k => ?_) hres
        simp only [spec_mirror.l1]
        rw [if_neg (by omega), w64n r (by omega)])
      an 0 s (by omega) hs
    exact ⟨s', ⟨i4.1, fun x y hx hy hdn => i4.2 x y hx hy (by omega)⟩, i5⟩
  obtain ⟨s', i4, i5⟩ := ev_run bn (fun k r s => spec_mirror.l0 k (r : Int) an bn pn d an bn pn s) (fun s _ => some ((an : Int), (bn : Int), (pn : Int), s)) (fun r s => I r 0 s)
    (by
      intro r s hr hs
      obtain ⟨s', i1, i2⟩ := inner r hr s hs
      refine ⟨s', i1, fun res hres => Ev.step (fun k => ?_) (i2 res hres)⟩
      simp only [spec_mirror.l0]
      rw [if_pos (by omega)])
    (by
      intro s _ res hres
      refine Ev.step (fun k => ?_) hres
      simp only [spec_mirror.l0]
      rw [if_neg (by omega)])
    bn 0 (d) (by omega) ⟨by first | exact hd | simp, fun x y hx hy hdn => by omega⟩
  have q : s' = mirD an bn pn d := ext_img i4.1 (imgD_length hlen) (fun x y hx hy => by
    rw [show mirD an bn pn d = imgD (fun x y => nx pn d (y * an + (an - 1 - x))) an bn from rfl, nx_imgD hlen hx hy]
    have z := i4.2 (an - 1 - x) y (by omega) hy (by omega)
    rw [show an - 1 - (an - 1 - x) = x by omega] at z
    exact z)
  subst q
  exact i5 _ (Ev.now _)
/-- what turn makes -/
def turnD (an bn pn : Nat) (d : List Int) : List Int := imgD (fun x y => nx pn d ((bn - 1 - x) * an + y)) bn an
theorem turnD_len {an bn pn : Nat} {d : List Int} (h1 : 1 ≤ an) (h2 : 1 ≤ bn) (hd : d.length = (bn * an) * pn) : ∀ x y, x < bn → y < an → (nx pn d ((bn - 1 - x) * an + y)).length = pn := fun x y hx hy => nx_length hd (lin_lt (by omega) (by omega))
theorem turn_ev {an bn pn : Nat} (h1 : 1 ≤ an ∧ an ≤ 16) (h2 : 1 ≤ bn ∧ bn ≤ 16) (h3 : pn ≤ 4) (d : List Int) (hd : d.length = (bn * an) * pn) : Ev (fun k => spec_turn.f k an bn pn d) ((bn : Int), (an : Int), (pn : Int), turnD an bn pn d) := by
  have sm := small h1.2 h2.2 h3
  unfold spec_turn.f
  refine ev_now (newImg_eq h2.2 h1.2 h3) ?_
  have hlen := turnD_len h1.1 h2.1 hd
  let I : Nat → Nat → List Int → Prop := fun r c s => s.length = (an * bn) * pn ∧ ∀ x y : Nat, x < an → y < bn → (y < r ∨ (y = r ∧ x < c)) → nx pn s (x * bn + (bn - 1 - y)) = nx pn d (y * an + x)
  have inner : ∀ (r : Nat), r < bn → ∀ s : List Int, I r 0 s → ∃ s' : List Int, I (r + 1) 0 s' ∧
        ∀ res, Ev (fun k => spec_turn.l0 k ((r + 1 : Nat) : Int) an bn pn d bn an pn s') res → Ev (fun k => spec_turn.l1 k (r : Int) 0 an bn pn d bn an pn s) res := by
    intro r hr s hs
    obtain ⟨s', i4, i5⟩ := ev_run an (fun k c s => spec_turn.l1 k (r : Int) (c : Int) an bn pn d bn an pn s) (fun s k => spec_turn.l0 k ((r + 1 : Nat) : Int) an bn pn d bn an pn s) (fun c s => I r c s)
      (by
        intro c s hc ⟨hsl, i1⟩
        have hyl : (nx pn d (r * an + c)).length = pn := nx_length hd (lin_lt hc hr)
        have htx : bn - 1 - r < bn := by omega
        have hty : c < an := by omega
        have hlin := lin_lt htx hty
        have hm : (c * bn + (bn - 1 - r) + 1) * pn ≤ (an * bn) * pn := Nat.mul_le_mul_right pn hlin
        rw [Nat.add_mul, Nat.one_mul] at hm
        refine ⟨laidOver s ((c * bn + (bn - 1 - r)) * pn) (nx pn d (r * an + c)), ⟨by rw [laidOver_length _ _ _ (by rw [hyl, hsl]; exact hm)]; exact hsl, ?_⟩, ?_⟩
        · intro x y hx hy hdn
          have hxy : bn - 1 - y < bn := by omega
          rw [nx_laid hsl hyl hlin (lin_lt hxy (by omega))]
          by_cases q : x = c ∧ y = r
          · obtain ⟨rfl, rfl⟩ := q
            rw [if_pos rfl]
          · rw [if_neg (fun z => q (by have t := lin_ne hxy htx z; omega))]
            exact i1 x y hx hy (by omega)
        · intro res hres
          clear hm hlin i1
          refine Ev.step (f := fun k => (spec_pixelAt.f an bn pn d (c : Int) (r : Int)).bind fun t => (spec_setPixel.f k bn an pn s ((bn - 1 - r : Nat) : Int) ((c : Nat) : Int) t).bind fun u => spec_turn.l1 k (r : Int) ((c + 1 : Nat) : Int) an bn pn d bn an pn u) (fun k => ?_) (ev_now (pixelAt_eq h1.2 h2.2 h3 hc hr d hd) (ev_bind (setPixel_ev (by omega) (by omega) h3 htx hty s _ hsl hyl) hres))
          simp only [spec_turn.l1]
          rw [if_pos (by omega), w64 (x := (bn : Int) - 1) (by omega) (by omega), w64 (x := (bn : Int) - 1 - (r : Int)) (by omega) (by omega), show (bn : Int) - 1 - (r : Int) = ((bn - 1 - r : Nat) : Int) by omega, w64n c (by omega)])
      (by
        intro s _ res hres
        refine Ev.step (fun k => ?_) hres
        simp only [spec_turn.l1]
        rw [if_neg (by omega), w64n r (by omega)])
      an 0 s (by omega) hs
    exact ⟨s', ⟨i4.1, fun x y hx hy hdn => i4.2 x y hx hy (by omega)⟩, i5⟩
  obtain ⟨s', i4, i5⟩ := ev_run bn (fun k r s => spec_turn.l0 k (r : Int) an bn pn d bn an pn s) (fun s _ => some ((bn : Int), (an : Int), (pn : Int), s)) (fun r s => I r 0 s)
    (by
      intro r s hr hs
      obtain ⟨s', i1, i2⟩ := inner r hr s hs
      refine ⟨s', i1, fun res hres => Ev.step (fun k => ?_) (i2 res hres)⟩
      simp only [spec_turn.l0]
      rw [if_pos (by omega)])
    (by
      intro s _ res hres
      refine Ev.step (fun k => ?_) hres
      simp only [spec_turn.l0]
      rw [if_neg (by omega)])
    bn 0 (List.replicate ((an * bn) * pn) 0) (by omega) ⟨by first | exact hd | simp, fun x y hx hy hdn => by omega⟩
  have q : s' = turnD an bn pn d := ext_img i4.1 (imgD_length hlen) (fun x y hx hy => by
    rw [show turnD an bn pn d = imgD (fun x y => nx pn d ((bn - 1 - x) * an + y)) bn an from rfl, nx_imgD hlen hx hy]
    have z := i4.2 y (bn - 1 - x) hy (by omega) (by omega)
    rw [show bn - 1 - (bn - 1 - x) = x by omega] at z
    exact z)
  subst q
  exact i5 _ (Ev.now _)
theorem set_map (f : Int → Int) (d : List Int) (i : Nat) (hi : i < d.length) : ((d.take i).map f ++ d.drop i).set i (f d[i]) = (d.take (i + 1)).map f ++ d.drop (i + 1) := by
  have h1 : ((d.take i).map f).length = i := by rw [List.length_map, List.length_take]; omega
  rw [List.set_append_right _ _ (by omega), h1, Nat.sub_self, List.drop_eq_getElem_cons hi, List.set_cons_zero, List.take_succ_eq_append_getElem hi, List.map_append, List.append_assoc]
  rfl
theorem invert_ev (a b p : Int) (d : List Int) (hv : validI a b p d = true) (hl : d.length ≤ 1000000) : Ev (fun k => spec_InvertImage.f k a b p d) (a, b, p, invD d) := by
  unfold spec_InvertImage.f
  have hv0 := spec_validImage_ev a b p d (by omega)
  rw [hv] at hv0
  refine ev_bind hv0 (ev_pos rfl (ev_now (copyImage_px a b p d hl) ?_))
  refine ev_up d.length (fun k i s => spec_InvertImage.l0 k (i : Int) a b p d a b p s) (fun i s => s = (d.take i).map (fun n => wrap64 (255 - n)) ++ d.drop i) (fun _ _ => (a, b, p, invD d))
    (by
      intro i s hi hinv
      right
      refine ⟨(d.take (i + 1)).map (fun n => wrap64 (255 - n)) ++ d.drop (i + 1), fun k => ?_, rfl, rfl⟩
      have hsl : s.length = d.length := by rw [hinv, List.length_append, List.length_map, List.length_take, List.length_drop]; omega
      simp only [spec_InvertImage.l0]
      rw [if_pos (by rw [hsl]; omega), if_pos (by omega), if_pos (by omega), rd_nat d i hi, w64n i (by omega), Int.toNat_natCast, hinv, set_map (fun n => wrap64 (255 - n)) d i hi])
    (by
      intro s hinv
      have hsl : s.length = d.length := by rw [hinv, List.length_append, List.length_map, List.length_take, List.length_drop]; omega
      refine Ev.step (f := fun _ => some (a, b, p, invD d)) (fun k => ?_) (Ev.now _)
      simp only [spec_InvertImage.l0]
      rw [if_neg (by rw [hsl]; omega), hinv, List.take_length, List.drop_length, List.append_nil]
      rfl)
    d.length 0 d (by omega) (by simp)
theorem validBox_on {a b p : Int} {d : List Int} (hs : 1 ≤ a ∧ a ≤ 16 ∧ 1 ≤ b ∧ b ≤ 16) (x y wd hg : Int) : spec_validBox.f a b p d x y wd hg = some (boxOn a b x y wd hg) := by
  unfold spec_validBox.f boxOn
  simp only [spec_inRangeI_eq, Option.bind_some]
  rw [w64 (x := a - 1) (by omega) (by omega), w64 (x := b - 1) (by omega) (by omega)]
  by_cases c1 : 0 ≤ x ∧ x ≤ a - 1
  · rw [if_pos (by simpa using c1), w64 (x := a - x) (by omega) (by omega)]
    by_cases c2 : 0 ≤ y ∧ y ≤ b - 1
    · rw [if_pos (by simpa using c2), w64 (x := b - y) (by omega) (by omega)]
      by_cases c3 : 1 ≤ wd ∧ wd ≤ a - x
      · rw [if_pos (by simpa using c3)]
        congr 1; rw [Bool.eq_iff_iff]; simp; omega
      · rw [if_neg (by simpa using c3), decide_eq_false (by omega)]
    · rw [if_neg (by simpa using c2), decide_eq_false (by omega)]
  · rw [if_neg (by simpa using c1), decide_eq_false (by omega)]
theorem fill_ev {wn hn pn : Nat} (h1 : 1 ≤ wn ∧ wn ≤ 16) (h2 : 1 ≤ hn ∧ hn ≤ 16) (h3 : 1 ≤ pn ∧ pn ≤ 4) (pix : List Int) (hp : pix.length = pn) (hb : pix.all byteI = true) :
    ∃ e : List Int, e.length = (hn * wn) * pn ∧ (∀ x y, x < wn → y < hn → nx pn e (y * wn + x) = pix) ∧ Ev (fun k => spec_FillImage.f k wn hn pix) ((wn : Int), (hn : Int), (pn : Int), e) := by
  have sm := small h1.2 h2.2 h3.2
  obtain ⟨s', i4, i5⟩ := ev_run ((hn * wn) * pn) (fun k i s => spec_FillImage.l0 k pix (i : Int) wn hn pn s) (fun s _ => some ((wn : Int), (hn : Int), (pn : Int), s)) (fun i s => s.length = (hn * wn) * pn ∧ ∀ q, q < i → s.getD q 0 = pix.getD (q % pn) 0)
    (by
      intro i s hi ⟨hsl, i1⟩
      have hmod : i % pn < pn := Nat.mod_lt _ (by omega)
      have htm : Int.tmod (i : Int) (pix.length : Int) = ((i % pn : Nat) : Int) := by rw [hp]; rfl
      refine ⟨s.set i (pix.getD (i % pn) 0), ⟨by rw [List.length_set]; exact hsl, fun q hq => ?_⟩, fun res hres => Ev.step (fun k => ?_) hres⟩
      · by_cases e : q = i
        · subst e
          rw [List.getD_eq_getElem?_getD, List.getElem?_set_self (by omega)]
          rfl
        · rw [List.getD_eq_getElem?_getD, List.getElem?_set_ne (by omega), ← List.getD_eq_getElem?_getD]
          exact i1 q (by omega)
      · simp only [spec_FillImage.l0]
        rw [htm, if_pos (by omega), if_neg (by omega), if_pos (by omega), if_pos (by omega), if_pos (by omega), w64n i (by omega), Int.toNat_natCast]
        rfl)
    (by
      intro s ⟨hsl, _⟩ res hres
      refine Ev.step (fun k => ?_) hres
      simp only [spec_FillImage.l0]
      rw [if_neg (by omega)])
    ((hn * wn) * pn) 0 (List.replicate ((hn * wn) * pn) 0) (by omega) ⟨by simp, fun q hq => by omega⟩
  refine ⟨s', i4.1, fun x y hx hy => ?_, ?_⟩
  · have hl := lin_lt hx hy
    have hn1 : (nx pn s' (y * wn + x)).length = pn := nx_length i4.1 hl
    have hm : (y * wn + x + 1) * pn ≤ (hn * wn) * pn := Nat.mul_le_mul_right pn hl
    rw [Nat.add_mul, Nat.one_mul] at hm
    refine List.ext_getElem (by rw [hn1, hp]) (fun q hq1 hq2 => ?_)
    have z := i4.2 ((y * wn + x) * pn + q) (by omega)
    rw [Nat.mul_comm (y * wn + x) pn, Nat.mul_add_mod, Nat.mod_eq_of_lt (show q < pn by omega), Nat.mul_comm pn (y * wn + x)] at z
    have z1 : (nx pn s' (y * wn + x)).getD q 0 = pix.getD q 0 := by
      rw [← z]
      unfold nx
      rw [List.getD_eq_getElem?_getD, List.getElem?_take, if_pos (by omega), List.getElem?_drop, List.getD_eq_getElem?_getD]
    rw [List.getD_eq_getElem?_getD, List.getElem?_eq_getElem hq1, List.getD_eq_getElem?_getD, List.getElem?_eq_getElem hq2] at z1
    exact z1
  · unfold spec_FillImage.f
    have hsh : shapeI wn hn (pix.length : Int) = true := (shapeI_iff _ _ _).2 (by omega)
    have hb0 := spec_allInI_ev pix (by omega)
    rw [hb] at hb0
    refine ev_now ((spec_validShape_eq wn hn (pix.length : Int)).trans (by rw [hsh])) (ev_pos rfl (ev_bind hb0 ?_))
    refine Ev.step (f := fun k => (spec_newImage.f wn hn (pix.length : Int)).bind fun t => spec_FillImage.l0 k pix 0 t.1 t.2.1 t.2.2.1 t.2.2.2) (fun k => ?_) (ev_now (by rw [hp]; exact newImg_eq h1.2 h2.2 h3.2) (i5 _ (Ev.now _)))
    simp only [spec_FillImage.j0, Bool.not_true]
    rw [if_neg (by simp)]
theorem spec_doStep_ev (a b p : Int) (d : List Int) (kind x y wd hg : Int) (pix : List Int) (hv : validI a b p d = true) (hpl : pix.length ≤ 1000000000) : Ev (fun k => spec_doStep.f k a b p d kind x y wd hg pix) (doStepV a b p d kind x y wd hg pix) := by
  have hs := ((validI_iff a b p d).1 hv).1
  have hs' : 1 ≤ a ∧ a ≤ 16 ∧ 1 ≤ b ∧ b ≤ 16 := by omega
  have hvb := fun x y wd hg => validBox_on (p := p) (d := d) hs' x y wd hg
  have hv1 := hv
  obtain ⟨an, bn, pn, ea, eb, ep, q1, q2, q3, q4, q5, q6, q7⟩ := nat_of hv
  have sm := small q2 q4 q6
  unfold spec_doStep.f doStepV
  by_cases k0 : kind = 0
  · rw [if_pos k0]
    refine ev_pos k0 ?_
    subst ea eb ep
    rw [show imgD (mirPx an pn d) (an : Int).toNat (bn : Int).toNat = mirD an bn pn d from imgD_congr (fun x y hx hy => by
      simp only [Int.toNat_natCast] at hx hy
      unfold mirPx
      rw [show ((an : Int) - 1 - (x : Int)).toNat = an - 1 - x by omega, pxAt_nat q2 q4 q6 (by omega) hy])]
    exact ev_bind (mirror_ev ⟨q1, q2⟩ ⟨q3, q4⟩ q6 d q7) (Ev.now _)
  · rw [if_neg k0]
    refine ev_neg k0 ?_
    by_cases k1 : kind = 1
    · rw [if_pos k1]
      refine ev_pos k1 ?_
      subst ea eb ep
      rw [show imgD (turnPx an bn pn d) (bn : Int).toNat (an : Int).toNat = turnD an bn pn d from imgD_congr (fun x y hx hy => by
        simp only [Int.toNat_natCast] at hx hy
        unfold turnPx
        rw [show ((bn : Int) - 1 - (x : Int)).toNat = bn - 1 - x by omega, pxAt_nat q2 q4 q6 hy (by omega)])]
      exact ev_bind (turn_ev ⟨q1, q2⟩ ⟨q3, q4⟩ q6 d q7) (Ev.now _)
    · rw [if_neg k1]
      refine ev_neg k1 ?_
      by_cases k2 : kind = 2
      · rw [if_pos k2]
        exact ev_pos k2 (ev_bind (invert_ev a b p d hv (by omega)) (Ev.now _))
      · rw [if_neg k2]
        refine ev_neg k2 ?_
        by_cases k3 : kind = 3
        · rw [if_pos k3]
          refine ev_pos k3 ?_
          unfold spec_CropImage.f
          have hv0 := spec_validImage_ev a b p d (by omega)
          rw [hv] at hv0
          by_cases c : boxOn a b x y wd hg = true
          · rw [if_pos c]
            obtain ⟨b1, b2, b3, b4, b5, b6, b7, b8⟩ := (boxOn_iff _ _ _ _ _ _).1 c
            obtain ⟨X, eX⟩ := Int.eq_ofNat_of_zero_le b1
            obtain ⟨Y, eY⟩ := Int.eq_ofNat_of_zero_le b3
            obtain ⟨wn, ew⟩ := Int.eq_ofNat_of_zero_le (show 0 ≤ wd by omega)
            obtain ⟨hn, eh⟩ := Int.eq_ofNat_of_zero_le (show 0 ≤ hg by omega)
            subst ea eb ep eX eY ew eh
            rw [show imgD (cropPx an pn d (X : Int).toNat (Y : Int).toNat) (wn : Int).toNat (hn : Int).toNat = cropD an pn d X Y wn hn from imgD_congr (fun x y hx hy => by
              simp only [Int.toNat_natCast] at hx hy ⊢
              unfold cropPx
              rw [pxAt_nat q2 q4 q6 (by omega) (by omega)])]
            exact ev_bind (ev_bind hv0 (ev_pos rfl (ev_now (hvb _ _ _ _) (ev_pos c (ev_bind (crop_ev q2 q4 q6 (by omega) (by omega) d q7) (Ev.now _)))))) (Ev.now _)
          · rw [if_neg c]
            exact ev_bind (ev_bind hv0 (ev_pos rfl (ev_now (hvb _ _ _ _) (ev_neg c (Ev.now _))))) (Ev.now _)
        · rw [if_neg k3]
          refine ev_neg k3 ?_
          by_cases k4 : kind = 4
          · rw [if_pos k4]
            refine ev_pos k4 ?_
            have stop : ∀ q, ¬ (boxOn a b x y wd hg = true ∧ (pix.length : Int) = p ∧ pix.all byteI = true) → q = true → Ev (fun k => spec_doStep.j0 k q a b p d kind x y wd hg pix) (if boxOn a b x y wd hg = true ∧ (pix.length : Int) = p ∧ pix.all byteI = true then (a, b, p, imgD (fillPx a p d x.toNat y.toNat wd.toNat hg.toNat pix) a.toNat b.toNat, true) else (0, 0, 0, [], false)) := by
              intro q hn hq
              subst hq
              rw [if_neg hn]
              refine Ev.step (f := fun _ => some (0, 0, 0, [], false)) (fun k => ?_) (Ev.now _)
              simp only [spec_doStep.j0]
              rw [if_pos trivial]
            refine ev_now (hvb _ _ _ _) ?_
            by_cases c : boxOn a b x y wd hg = true
            · refine ev_pos c ?_
              by_cases c2 : (pix.length : Int) = p
              · refine ev_pos c2 (ev_bind (spec_allInI_ev pix (by omega)) ?_)
                by_cases c3 : pix.all byteI = true
                · rw [c3, if_pos ⟨c, c2, rfl⟩]
                  obtain ⟨b1, b2, b3, b4, b5, b6, b7, b8⟩ := (boxOn_iff _ _ _ _ _ _).1 c
                  obtain ⟨X, eX⟩ := Int.eq_ofNat_of_zero_le b1
                  obtain ⟨Y, eY⟩ := Int.eq_ofNat_of_zero_le b3
                  obtain ⟨wn, ew⟩ := Int.eq_ofNat_of_zero_le (show 0 ≤ wd by omega)
                  obtain ⟨hn, eh⟩ := Int.eq_ofNat_of_zero_le (show 0 ≤ hg by omega)
                  subst ea eb ep eX eY ew eh
                  have c2 := Int.ofNat.inj c2
                  obtain ⟨e, e1, e2, e3⟩ := fill_ev (wn := wn) (hn := hn) ⟨by omega, by omega⟩ ⟨by omega, by omega⟩ ⟨q5, q6⟩ pix c2 c3
                  rw [show imgD (fillPx an pn d (X : Int).toNat (Y : Int).toNat (wn : Int).toNat (hn : Int).toNat pix) (an : Int).toNat (bn : Int).toNat = imgD (pastePx an pn d X Y wn hn e) an bn from imgD_congr (fun x y hx hy => by
                    simp only [Int.toNat_natCast] at hx hy ⊢
                    unfold fillPx inBox pastePx
                    by_cases z : X ≤ x ∧ x < X + wn ∧ Y ≤ y ∧ y < Y + hn
                    · rw [if_pos (decide_eq_true z), if_pos (by omega), e2 _ _ (by omega) (by omega)]
                    · rw [if_neg (by simpa using z), if_neg (by omega), pxAt_nat q2 q4 q6 hx hy])]
                  refine Ev.step (f := fun k => (spec_copyImage.f an bn pn d).bind fun t => (spec_FillImage.f k wn hn pix).bind fun u => (spec_paste.f k t.1 t.2.1 t.2.2.1 t.2.2.2 X Y u.1 u.2.1 u.2.2.1 u.2.2.2).bind fun v => some (t.1, t.2.1, t.2.2.1, v, true)) (fun k => ?_) (ev_now (copyImage_px _ _ _ d (by omega)) (ev_bind e3 (ev_bind (paste_ev ⟨q1, q2⟩ ⟨q3, q4⟩ q6 (by omega) (by omega) ⟨by omega, by omega⟩ ⟨by omega, by omega⟩ d e q7 e1) (Ev.now _))))
                  simp only [spec_doStep.j0, Bool.not_true]
                  rw [if_neg (by simp)]
                · rw [Bool.eq_false_iff.2 c3]
                  have z := stop true (fun h => c3 h.2.2) rfl
                  rw [Bool.eq_false_iff.2 c3] at z
                  exact z
              · exact ev_neg c2 (stop _ (fun h => c2 h.2.1) rfl)
            · exact ev_neg c (stop _ (fun h => c h.1) rfl)
          · rw [if_neg k4]
            exact ev_neg k4 (Ev.now _)
/-- what DoStep answers -/
def doneV (a b p : Int) (d : List Int) (kind x y wd hg : Int) (pix : List Int) : Int × Int × Int × List Int × Bool := if validI a b p d = true then doStepV a b p d kind x y wd hg pix else (0, 0, 0, [], false)
theorem impl_DoStep_eq (a b p : Int) (d : List Int) (kind x y wd hg : Int) (pix : List Int) : impl_DoStep.f a b p d kind x y wd hg pix = some (doneV a b p d kind x y wd hg pix) := by
  unfold impl_DoStep.f doneV
  rw [impl_isImage_eq]
  simp only [Option.bind_some]
  by_cases c : validI a b p d = true
  · rw [if_pos c, if_pos c]
    unfold impl_doStep.f
    rw [if_pos c]
    rfl
  · rw [if_neg c, if_neg c]
theorem spec_DoStep_ev (a b p : Int) (d : List Int) (kind x y wd hg : Int) (pix : List Int) (hl : d.length ≤ 2000000) (hpl : pix.length ≤ 1000000000) : Ev (fun k => spec_DoStep.f k a b p d kind x y wd hg pix) (doneV a b p d kind x y wd hg pix) := by
  unfold spec_DoStep.f doneV
  refine ev_bind (spec_validImage_ev a b p d (by omega)) ?_
  by_cases c : validI a b p d = true
  · rw [if_pos c]
    exact ev_pos c (ev_bind (spec_doStep_ev a b p d kind x y wd hg pix c hpl) (Ev.now _))
  · rw [if_neg c]
    exact ev_neg c (Ev.now _)
theorem doneV_len (a b p : Int) (d : List Int) (kind x y wd hg : Int) (pix : List Int) (hpl : pix.length ≤ 1000000000) : (doneV a b p d kind x y wd hg pix).2.2.2.1.length ≤ 1024 := by
  unfold doneV
  by_cases c : validI a b p d = true
  · rw [if_pos c]
    obtain ⟨an, bn, pn, ea, eb, ep, q1, q2, q3, q4, q5, q6, q7⟩ := nat_of c
    have sm := small q2 q4 q6
    subst ea eb ep
    unfold doStepV
    split
    · show (imgD _ _ _).length ≤ 1024
      rw [imgD_length (n := pn) (fun x y hx hy => by
        simp only [Int.toNat_natCast] at hx hy
        unfold mirPx
        rw [pxAt_nat q2 q4 q6 (by omega) hy]
        exact nx_length q7 (lin_lt (by omega) hy))]
      exact sm
    · split
      · show (imgD _ _ _).length ≤ 1024
        rw [imgD_length (n := pn) (fun x y hx hy => by
          simp only [Int.toNat_natCast] at hx hy
          unfold turnPx
          rw [pxAt_nat q2 q4 q6 hy (by omega)]
          exact nx_length q7 (lin_lt hy (by omega)))]
        exact small q4 q2 q6
      · split
        · show (invD d).length ≤ 1024
          unfold invD
          rw [List.length_map]
          omega
        · split
          · split
            · rename_i cb
              obtain ⟨b1, b2, b3, b4, b5, b6, b7, b8⟩ := (boxOn_iff _ _ _ _ _ _).1 cb
              show (imgD _ _ _).length ≤ 1024
              rw [imgD_length (n := pn) (fun x y hx hy => by
                unfold cropPx
                rw [pxAt_nat q2 q4 q6 (by omega) (by omega)]
                exact nx_length q7 (lin_lt (by omega) (by omega)))]
              exact small (by omega) (by omega) q6
            · simp
          · split
            · split
              · rename_i cb
                obtain ⟨cb, cl, _⟩ := cb
                obtain ⟨b1, b2, b3, b4, b5, b6, b7, b8⟩ := (boxOn_iff _ _ _ _ _ _).1 cb
                have cl := Int.ofNat.inj cl
                show (imgD _ _ _).length ≤ 1024
                rw [imgD_length (n := pn) (fun x y hx hy => by
                  simp only [Int.toNat_natCast] at hx hy
                  unfold fillPx
                  split
                  · exact cl
                  · rw [pxAt_nat q2 q4 q6 hx hy]
                    exact nx_length q7 (lin_lt hx hy))]
                exact sm
              · simp
            · simp
  · rw [if_neg c]
    simp

/- Copies of an image: they are the image; marks on an image. -/

theorem toIntS_ev (l : List Int) (hl : l.length ≤ 2000000) : Ev (fun k => laws_toIntS.f k l) l := by
  have key := ev_up l.length (fun k i s => laws_toIntS.l0 k l s (i : Int)) (fun i s => s.length = l.length ∧ s.take i = l.take i) (fun i s => l)
    (by
      intro i s hi hs
      refine .inr ⟨s.set i l[i], fun k => ?_, ⟨by simpa using hs.1, ?_⟩, rfl⟩
      · simp only [laws_toIntS.l0]
        rw [if_pos (by omega), if_pos (by omega), rd_nat l i hi, if_pos (by omega), w64n i (by omega), Int.toNat_natCast]
      · rw [take_set s i _ (by omega), hs.2, List.take_succ_eq_append_getElem hi])
    (by
      intro s hs
      refine Ev.step (f := fun _ => some s) (fun k => ?_) (ev_const ?_)
      · simp only [laws_toIntS.l0]
        rw [if_neg (by omega)]
      · rw [← List.take_length (l := s), hs.1, hs.2, List.take_length])
    l.length 0 (List.replicate l.length 0) (by omega) ⟨by simp, by simp⟩
  unfold laws_toIntS.f
  refine Ev.congr (fun k => ?_) key
  rw [if_pos (by omega), if_pos (by omega)]
  simp
theorem eqIntS_ev (l : List Int) (hl : l.length ≤ 1000000000000) : Ev (fun k => laws_eqIntS.f k l l) true := by
  have key := ev_up l.length (fun k i (_ : Unit) => laws_eqIntS.l0 k l l (i : Int)) (fun _ _ => True) (fun _ _ => true)
    (by
      intro i s hi _
      refine .inr ⟨(), fun k => ?_, trivial, rfl⟩
      simp only [laws_eqIntS.l0]
      rw [if_pos (by omega), if_pos (by omega), if_pos (by omega), if_pos trivial, w64n i (by omega)])
    (by
      intro s _
      refine Ev.step (f := fun _ => some true) (fun k => ?_) (Ev.now true)
      simp only [laws_eqIntS.l0]
      rw [if_neg (by omega)])
    l.length 0 () (by omega) trivial
  unfold laws_eqIntS.f
  exact ev_pos rfl (by simpa using key)
theorem szIntS_eq (l : List Int) (n : Int) (h0 : 0 ≤ n) (h1 : n ≤ 1048576) (hl : l.length ≤ 9223372036854775807) :
    (l.length ≤ 1048576 ∧ n - (l.length : Int) ≥ 0 ∧ laws_szIntS.f l n = some (n - (l.length : Int))) ∨ laws_szIntS.f l n = some (-1) := by
  unfold laws_szIntS.f
  by_cases c : (l.length : Int) ≤ n
  · left
    rw [w64 (by omega) (by omega), if_neg (by omega)]
    exact ⟨by omega, by omega, rfl⟩
  · right
    rw [w64 (by omega) (by omega), if_pos (by omega)]
theorem szImage_eq (w h p : Int) (d : List Int) (n : Int) (h0 : 0 ≤ n) (h1 : n ≤ 1048576) (hl : d.length ≤ 9223372036854775807) :
    (d.length ≤ 1048576 ∧ n - (d.length : Int) ≥ 0 ∧ laws_szImage.f w h p d n = some (n - (d.length : Int))) ∨ laws_szImage.f w h p d n = some (-1) := by
  unfold laws_szImage.f
  rcases szIntS_eq d n h0 h1 hl with ⟨a, b, c⟩ | c
  · left
    rw [c]
    simp only [Option.bind_some]
    rw [if_neg (by omega)]
    exact ⟨a, b, rfl⟩
  · right
    rw [c]
    simp only [Option.bind_some]
    rw [if_pos (by omega)]
theorem toImage_ev (w h p : Int) (d : List Int) (hl : d.length ≤ 2000000) : Ev (fun k => laws_toImage.f k w h p d) (w, h, p, d) := by
  unfold laws_toImage.f
  exact ev_bind (toIntS_ev d hl) (Ev.now _)
theorem eqImage_ev (w h p : Int) (d : List Int) (hl : d.length ≤ 1000000000000) : Ev (fun k => laws_eqImage.f k w h p d w h p d) true := by
  unfold laws_eqImage.f
  exact ev_pos rfl (ev_pos rfl (ev_pos rfl (ev_bind (eqIntS_ev d hl) (ev_pos rfl (Ev.now _)))))

/- Marks on numbers: what is written into a list, and read again. -/

def markedI (m : Nat) (n : Int) : List Int := (List.range m).map (fun j => n + ((j : Nat) : Int))
theorem markedI_length (m : Nat) (n : Int) : (markedI m n).length = m := by simp [markedI]
theorem markIntS_is (l : List Int) (n : Int) (hl : l.length ≤ 1000000000) (h0 : 0 ≤ n) (h1 : n ≤ 1000000000000) : Ev (fun k => laws_markIntS.f k l n) (n + (l.length : Int), markedI l.length n) := by
  have key := ev_up l.length (fun k i (s : List Int) => laws_markIntS.l0 k s (n + (i : Int)) (i : Int)) (fun i s => s.length = l.length ∧ s.take i = markedI i n) (fun _ _ => (n + (l.length : Int), markedI l.length n))
    (by
      intro i s hi hs
      refine .inr ⟨s.set i (n + (i : Int)), fun k => ?_, ⟨by simpa using hs.1, by rw [take_set s i _ (by omega), hs.2]; unfold markedI; rw [List.range_succ, List.map_append]; rfl⟩, rfl⟩
      simp only [laws_markIntS.l0]
      rw [if_pos (by omega), if_pos (by omega), w64n i (by omega), w64 (x := n + (i : Int) + 1) (by omega) (by omega), Int.toNat_natCast, show n + (i : Int) + 1 = n + ((i + 1 : Nat) : Int) by omega])
    (by
      intro s hs
      refine Ev.step (f := fun _ => some (n + (l.length : Int), s)) (fun k => ?_) (ev_const ?_)
      · simp only [laws_markIntS.l0]
        rw [if_neg (by omega)]
      · rw [← hs.2, ← hs.1, List.take_length])
    l.length 0 l (by omega) ⟨rfl, by simp [markedI]⟩
  unfold laws_markIntS.f
  simpa using key
theorem heldIntS_ev (m : Nat) (n : Int) (hl : m ≤ 1000000000) (h0 : 0 ≤ n) (h1 : n ≤ 1000000000000) : Ev (fun k => laws_heldIntS.f k (markedI m n) n) (n + (m : Int)) := by
  have key := ev_up m (fun k i (_ : Unit) => laws_heldIntS.l0 k (markedI m n) (n + (i : Int)) (i : Int)) (fun _ _ => True) (fun _ _ => n + (m : Int))
    (by
      intro i s hi _
      right
      refine ⟨(), fun k => ?_, trivial, rfl⟩
      simp only [laws_heldIntS.l0]
      have hr : rd (markedI m n) (i : Int) = n + (i : Int) := by
        rw [rd_nat _ i (by rw [markedI_length]; omega)]
        simp [markedI]
      rw [if_pos (by rw [markedI_length]; omega), if_pos (by omega), hr, w64n i (by omega), w64 (x := n + (i : Int) + 1) (by omega) (by omega)]
      have e : n + (i : Int) + 1 = n + ((i + 1 : Nat) : Int) := by omega
      rw [e]
      simp)
    (by
      intro s _
      refine Ev.step (f := fun _ => some (n + (m : Int))) (fun k => ?_) (ev_const rfl)
      simp only [laws_heldIntS.l0]
      rw [if_neg (by rw [markedI_length]; omega)])
    m 0 () (by omega) trivial
  unfold laws_heldIntS.f
  simpa using key

/- Images that are marked, and whether they hold their marks. -/

theorem markImage_is (w h p : Int) (d : List Int) (n : Int) (hl : d.length ≤ 1000000000) (h0 : 0 ≤ n) (h1 : n ≤ 1000000000000) : Ev (fun k => laws_markImage.f k w h p d n) (n + (d.length : Int), markedI d.length n) := by
  unfold laws_markImage.f
  exact ev_bind (markIntS_is d n hl h0 h1) (Ev.now _)
theorem heldImage_ev (w h p : Int) (m : Nat) (n : Int) (hl : m ≤ 1000000000) (h0 : 0 ≤ n) (h1 : n ≤ 1000000000000) : Ev (fun k => laws_heldImage.f k w h p (markedI m n) n) (n + (m : Int)) := by
  unfold laws_heldImage.f
  exact ev_bind (heldIntS_ev m n hl h0 h1) (ev_neg (by omega) (Ev.now _))

/- Steps: sizes, copies, marks. -/

theorem szStep_eq (a x y w h : Int) (d : List Int) (n : Int) (h0 : 0 ≤ n) (h1 : n ≤ 1048576) (hl : d.length ≤ 9223372036854775807) :
    (d.length ≤ 1048576 ∧ n - (d.length : Int) ≥ 0 ∧ laws_szStep.f a x y w h d n = some (n - (d.length : Int))) ∨ laws_szStep.f a x y w h d n = some (-1) := by
  unfold laws_szStep.f
  rcases szIntS_eq d n h0 h1 hl with ⟨e1, e2, e3⟩ | e
  · left
    rw [e3]
    simp only [Option.bind_some]
    rw [if_neg (by omega)]
    exact ⟨e1, e2, rfl⟩
  · right
    rw [e]
    simp only [Option.bind_some]
    rw [if_pos (by omega)]
theorem toStep_ev (a x y w h : Int) (d : List Int) (hl : d.length ≤ 2000000) : Ev (fun k => laws_toStep.f k a x y w h d) (a, x, y, w, h, d) := by
  unfold laws_toStep.f
  exact ev_now (show laws_toBox.f x y w h = some (x, y, w, h) from rfl) (ev_bind (toIntS_ev d hl) (Ev.now _))
theorem eqStep_ev (a x y w h : Int) (d : List Int) (hl : d.length ≤ 1000000000000) : Ev (fun k => laws_eqStep.f k a x y w h d a x y w h d) true := by
  unfold laws_eqStep.f
  have hb : laws_eqBox.f x y w h x y w h = some true := by
    unfold laws_eqBox.f
    rw [if_pos rfl, if_pos rfl, if_pos rfl, if_pos rfl]
  exact ev_pos rfl (ev_now hb (ev_pos rfl (ev_bind (eqIntS_ev d hl) (ev_pos rfl (Ev.now _)))))
theorem markStep_is (a x y w h : Int) (d : List Int) (n : Int) (hl : d.length ≤ 1000000000) (h0 : 0 ≤ n) (h1 : n ≤ 1000000000000) : Ev (fun k => laws_markStep.f k a x y w h d n) (n + (d.length : Int), markedI d.length n) := by
  unfold laws_markStep.f
  exact ev_bind (markIntS_is d n hl h0 h1) (Ev.now _)

/- The program's DoStep and the reference's return the same, and what is returned is held by nobody else: over lists of numbers alone. -/

theorem FnExactDoStep : laws_FnExactDoStep.Pure := by
  intro w h p d a x y wd hg pix
  intros
  rename_i hl _ _ _ _ hl'
  rcases szImage_eq w h p d 1048576 (by omega) (by omega) (by first | exact hl | omega) with ⟨hn, h0, hs⟩ | hs
  · rcases szStep_eq a x y wd hg pix (1048576 - (d.length : Int)) (by omega) (by omega) (by first | exact hl' | omega) with ⟨hn', h0', hs'⟩ | hs'
    · obtain ⟨K1, e1⟩ := toImage_ev w h p d (by omega)
      obtain ⟨K2, e2⟩ := toStep_ev a x y wd hg pix (by omega)
      obtain ⟨K4, e4⟩ := spec_DoStep_ev w h p d a x y wd hg pix (by omega) (by omega)
      have e5 := impl_DoStep_eq w h p d a x y wd hg pix
      have hVl := doneV_len w h p d a x y wd hg pix (by omega)
      generalize doneV w h p d a x y wd hg pix = V at e4 e5 hVl
      obtain ⟨v0, v1, v2, v3, vok⟩ := V
      have hVl : v3.length ≤ 1024 := hVl
      obtain ⟨K6, e6⟩ := eqImage_ev v0 v1 v2 v3 (by omega)
      obtain ⟨K7, e7⟩ := eqImage_ev w h p d (by omega)
      obtain ⟨K8, e8⟩ := eqStep_ev a x y wd hg pix (by omega)
      obtain ⟨K10, e10⟩ := markImage_is w h p d 1 (by omega) (by omega) (by omega)
      obtain ⟨K11, e11⟩ := markStep_is a x y wd hg pix (1 + (d.length : Int)) (by omega) (by omega) (by omega)
      obtain ⟨K13, e13⟩ := markImage_is v0 v1 v2 v3 1 (by omega) (by omega) (by omega)
      obtain ⟨K14, e14⟩ := heldImage_ev v0 v1 v2 v3.length 1 (by omega) (by omega) (by omega)
      refine ⟨K1 + K2 + K4 + K6 + K7 + K8 + K10 + K11 + K13 + K14 + 1, laws_FnExactDoStep.f_of (Or.inr (Or.inr ?_))⟩
      exact ⟨_, _, w, h, p, d, a, x, y, wd, hg, pix, v0, v1, v2, v3, vok, _, _, _, _, _, _, hs, by omega, hs', by omega, e1 _ (by omega), e2 _ (by omega), e4 _ (by omega), e5, e6 _ (by omega), e7 _ (by omega), e8 _ (by omega), e10 _ (by omega), e11 _ (by omega), by omega, e13 _ (by omega), e14 _ (by omega), by omega⟩
    · exact ⟨0, laws_FnExactDoStep.f_of (Or.inr (Or.inl ⟨_, _, hs, by omega, hs', by omega⟩))⟩
  · exact ⟨0, laws_FnExactDoStep.f_of (Or.inl ⟨_, hs, by omega⟩)⟩
end Go.Proofs.Ytgccpcnakkioiaa.Pure

/- The head of the translation reads as a plain cut. -/
namespace Go.Proofs.Ytgccpcnakkioiaa.Head
set_option maxRecDepth 100000
theorem wordsSigns_word (w r : List Char) (h : w.all (fun c => !(c == Char.ofNat 32)) = true) : wordsSigns (w ++ Char.ofNat 32 :: r) = w :: wordsSigns r := by
  induction w with
  | nil => rfl
  | cons c w ih =>
    simp only [List.all_cons, Bool.and_eq_true, Bool.not_eq_true', beq_eq_false_iff_ne, ne_eq] at h
    have h1 := ih (by simpa using h.2)
    rw [List.cons_append, wordsSigns.eq_3 c _ h.1, h1]
def w1 : List Char := [104, 97, 114, 110, 101, 115, 115].map Char.ofNat
def w2 : List Char := [52, 49, 100, 48, 51, 48, 57, 101, 54, 52, 50, 98, 53, 55, 98, 54, 49, 99, 54, 49, 56, 48, 55, 53, 48, 48, 51, 50, 51, 98, 100, 52, 101, 99, 48, 51, 97, 52, 49, 54, 56, 100, 48, 98, 55, 54, 100, 54, 97, 97, 98, 98, 100, 98, 51, 102, 53, 102, 100, 102, 101, 51, 100, 56].map Char.ofNat
def w3 : List Char := [99, 117, 116].map Char.ofNat
def w4 : List Char := [97, 116, 32, 108, 111, 111, 112, 46, 101, 120, 97, 109, 112, 108, 101, 47, 112, 105, 120, 101, 108, 119, 111, 114, 107, 115, 47, 108, 97, 119, 115, 46, 70, 110, 69, 120, 97, 99, 116, 82, 117, 110, 83, 116, 101, 112, 115, 32, 108, 111, 111, 112, 46, 101, 120, 97, 109, 112, 108, 101, 47, 112, 105, 120, 101, 108, 119, 111, 114, 107, 115, 47, 108, 97, 119, 115, 46, 70, 110, 68, 111, 83, 116, 101, 112, 32, 108, 111, 111, 112, 46, 101, 120, 97, 109, 112, 108, 101, 47, 112, 105, 120, 101, 108, 119, 111, 114, 107, 115, 47, 108, 97, 119, 115, 46, 70, 110, 68, 111, 83, 116, 101, 112, 70, 105, 108, 108, 32, 108, 111, 111, 112, 46, 101, 120, 97, 109, 112, 108, 101, 47, 112, 105, 120, 101, 108, 119, 111, 114, 107, 115, 47, 108, 97, 119, 115, 46, 70, 110, 69, 120, 97, 99, 116, 68, 111, 83, 116, 101, 112, 32, 108, 111, 111, 112, 46, 101, 120, 97, 109, 112, 108, 101, 47, 112, 105, 120, 101, 108, 119, 111, 114, 107, 115, 47, 108, 97, 119, 115, 46, 70, 110, 82, 117, 110, 83, 116, 101, 112, 115, 80, 97, 114, 116, 115, 32, 108, 111, 111, 112, 46, 101, 120, 97, 109, 112, 108, 101, 47, 112, 105, 120, 101, 108, 119, 111, 114, 107, 115, 47, 108, 97, 119, 115, 46, 70, 110, 82, 117, 110, 83, 116, 101, 112, 115, 32, 108, 111, 111, 112, 46, 101, 120, 97, 109, 112, 108, 101, 47, 112, 105, 120, 101, 108, 119, 111, 114, 107, 115, 47, 108, 97, 119, 115, 46, 70, 110, 83, 105, 109, 112, 108, 105, 102, 121, 83, 116, 101, 112, 115].map Char.ofNat
theorem signs0 : Try.prog.initOrder = String.ofList (w1 ++ Char.ofNat 32 :: (w2 ++ Char.ofNat 32 :: (w3 ++ Char.ofNat 32 :: w4))) := by kernel_rfl
theorem behind : behindMainWord (wordsSigns Try.prog.initOrder.toList) = w3 :: wordsSigns w4 := by
  rw [signs0, String.toList_ofList, wordsSigns_word w1 _ (by kernel_rfl), wordsSigns_word w2 _ (by kernel_rfl), wordsSigns_word w3 _ (by kernel_rfl)]
  unfold behindMainWord
  dsimp only
  rw [if_pos (by kernel_rfl)]
theorem strip_cut (R : List (List Char)) : stripLifts liftWords (w3 :: R) = ([], w3 :: R) := by kernel_rfl
theorem mayEnter_of (P : Program) (R : List (List Char)) (h : behindMainWord (wordsSigns P.initOrder.toList) = w3 :: R) (h1 : P.laysLater = false) (h2 : P.bearsReflect = false) (h3 : P.doorFits [] = true) : P.mayEnter = true := by
  unfold Program.mayEnter
  rw [h]
  dsimp only
  rw [strip_cut, h1, h2, h3]
  kernel_rfl
theorem liftsFinal_of (P : Program) (R : List (List Char)) (h : behindMainWord (wordsSigns P.initOrder.toList) = w3 :: R) : P.liftsFinal = false := by
  unfold Program.liftsFinal Program.headLifts
  rw [h]
  dsimp only
  rw [strip_cut]
  kernel_rfl
theorem make_of (P : Program) (R : List (List Char)) (h : behindMainWord (wordsSigns P.initOrder.toList) = w3 :: R) : P.make = some .cut := by
  unfold Program.make
  rw [h]
  kernel_rfl
theorem mayEnter : Try.prog.mayEnter = true := mayEnter_of _ _ behind (by kernel_rfl) (by kernel_rfl) (by kernel_rfl)
theorem liftsFinal : Try.prog.liftsFinal = false := liftsFinal_of _ _ behind
theorem make : Try.prog.make = some .cut := make_of _ _ behind
end Go.Proofs.Ytgccpcnakkioiaa.Head

-- the row of the law FnExactDoStep
namespace Go.Proofs.Ytgccpcnakkioiaa.fnExactDoStep
open Go.ChangeShapes Go.WideShapes Go.ChangeAt Go.RowKit Go.Proofs.Ytgccpcnakkioiaa.Q Go.Proofs.YtgccpcnakkioiaaW.PrintWords
open Go.ChangeMaps (open_string shut_string)
set_option linter.unusedVariables false
theorem own : ownKnob Try.prog.godebug = none := by kernel_rfl
theorem laidOut : laidOutB Try.prog = true := by kernel_rfl
set_option maxHeartbeats 4000000 in
set_option maxRecDepth 100000 in
theorem lifted (os : Os) (started : os.Started) (H : Type) (enc : TypeId × Value → H) :
    ReturnsInHanded {} Try.checked os 6 .any (Rows.fnExactDoStepSpec.pre6 enc Try.prog Try.f6 Rows.fnExactDoStepRow.domain false) (Rows.fnExactDoStepSpec.post enc Try.prog Try.f6 false true false false) := by
  refine returnsInHanded_of_change_sized (C := Try.checked) own started (by kernel_rfl) Try.func6
    (ChangeSpec.witness6 (enc := enc) (C := Try.checked) false ⟨#[], #[.agg #[.int .i64 0, .int .i64 0, .int .i64 0, .slice none 0 0], .agg #[.int .i64 0, .int .i64 0, .int .i64 0, .int .i64 0, .int .i64 0, .slice none 0 0]], []⟩ 8 (by kernel_rfl) (by kernel_rfl) (by kernel_rfl) (by kernel_rfl)) ?_
  intro W base args ds gs before hval0 hW hcnd hsz0 _
  have hval : ∀ (j : Nat) t v, Try.f6.params[j]? = some t → args[j]? = some v → Value.okWide Try.prog W .any base t v := hval0
  have hW' := hW
  obtain ⟨p, q, hA0, hV, rfl, hfz, hnd⟩ := hW
  have hA : DataW.TrodAll enc Try.prog W 0 (fun _ => true) true Try.f6.params.toList args.toList ds p := hA0
  rw [Try.params6] at hA hval
  obtain ⟨v0, vs0, d0, ds0, p0, q0, hargs, rfl, rfl, h0, r0⟩ := trodAll_cons hA
  obtain ⟨v1, vs1, d1, ds1, p1, q1, rfl, rfl, rfl, h1, r1⟩ := trodAll_cons r0
  obtain ⟨rfl, rfl, rfl⟩ := trodAll_nil r1
  obtain rfl : args = #[v0, v1] := by cases args; simp_all
  obtain ⟨rfl, rfl⟩ := trodVars_none hV
  have k0 := h0
  have lt0 : ∀ x ∈ p0, x.block < W.heap.size := by obtain ⟨m, hm⟩ := k0; exact DataW.trod_lt m _ _ _ hm
  obtain ⟨fuel0, hf0⟩ := h0
  obtain ⟨cs0, rfl, hsz0⟩ := okWide_struct Try.underlying24 (hval 0 24 v0 rfl rfl)
  obtain ⟨y0, hK0, hq0⟩ := o24 _ _ _ _ _ _ hf0
  obtain ⟨A0_3, c0_3, hcs0, hc0_3, hr0_3⟩ := k24_open hK0
  obtain rfl : cs0 = #[.int .i64 y0.f0, .int .i64 y0.f1, .int .i64 y0.f2, .slice A0_3 y0.f3.length c0_3] := by cases cs0; simpa [Value.cells] using hcs0
  have k1 := h1
  have lt1 : ∀ x ∈ p1, x.block < W.heap.size := by obtain ⟨m, hm⟩ := k1; exact DataW.trod_lt m _ _ _ hm
  obtain ⟨fuel1, hf1⟩ := h1
  obtain ⟨cs1, rfl, hsz1⟩ := okWide_struct Try.underlying57 (hval 1 57 v1 rfl rfl)
  obtain ⟨y1, hK1, hq1⟩ := o57 _ _ _ _ _ _ hf1
  obtain ⟨A1_5, c1_5, hcs1, hc1_5, hr1_5⟩ := k57_open hK1
  obtain rfl : cs1 = #[.int .i64 y1.f0, .int .i64 y1.f1.f0, .int .i64 y1.f1.f1, .int .i64 y1.f1.f2, .int .i64 y1.f1.f3, .slice A1_5 y1.f2.length c1_5] := by cases cs1; simpa [Value.cells] using hcs1
  clear hA0 hval0 hsz0
  obtain ⟨k, hh⟩ := Pure.FnExactDoStep y0.f0 y0.f1 y0.f2 y0.f3 y1.f0 y1.f1.f0 y1.f1.f1 y1.f1.f2 y1.f1.f3 y1.f2 hq0.1 hq0.2.1 hq0.2.2.1 hq0.2.2.2 hr0_3.2.1 hq1.1 hq1.2.1.1 hq1.2.1.2.1 hq1.2.1.2.2.1 hq1.2.1.2.2.2 hq1.2.2 hr1_5.2.1
  refine (Q.laws_FnExactDoStep.calls k y0.f0 y0.f1 y0.f2 _ _ y0.f3 y1.f0 y1.f1.f0 y1.f1.f1 y1.f1.f2 y1.f1.f3 _ _ y1.f2 true W hr0_3 hc0_3 hr1_5 hc1_5 hh).mono fun e W' hpost => ?_
  obtain ⟨he, bel0⟩ := hpost
  have bel : Below W.heap.size W W' := bel0
  subst he
  exact ⟨_, rfl, _, _, _, [], _, [], hW', trodAll_mk1 (shut_bool Try.underlying4 _), (trodAll_cons_mk (Below.trod laidOut (by kernel_rfl) (of_decide_eq_true (by kernel_rfl)) k0 bel lt0) (trodAll_cons_mk (Below.trod laidOut (by kernel_rfl) (of_decide_eq_true (by kernel_rfl)) k1 bel lt1) trodAll_mk0)), rfl, bel.frame _, fun h => by cases h⟩
set_option maxHeartbeats 4000000 in
theorem closed : joinedFacts Try.prog 6 Try.f6 Rows.fnExactDoStepSpec Rows.fnExactDoStepRow = true := by
  unfold joinedFacts
  rw [Head.mayEnter, Head.liftsFinal, Head.make]
  simp only [Bool.and_eq_true]
  repeat' apply And.intro
  all_goals first | exact True.intro | (as_aux_lemma => kernel_rfl)
set_option maxHeartbeats 4000000 in
theorem over : Rows.fnExactDoStepRow.holds Try.pinned (OpenSpec.ofChange Rows.fnExactDoStepSpec) :=
  OpenClaim.holds_of_wide 6 Try.f6 rfl rfl rfl rfl rfl rfl rfl ⟨rfl, rfl, rfl, rfl, rfl⟩ rfl rfl rfl rfl rfl (by kernel_rfl) Try.func6 closed
    (of_decide_eq_true (by kernel_rfl)) (by unfold Func.isWrapper; first | (rw [if_pos (by decide +kernel)]; kernel_rfl) | (rw [if_neg (by decide +kernel)]; exact ⟨rfl, rfl⟩))
    (fun os started H enc _ => lifted os started H enc)
theorem proved : Rows.FnExactDoStepSaid := over
#print axioms proved
end Go.Proofs.Ytgccpcnakkioiaa.fnExactDoStep
namespace Go.Proofs.Ytgccpcnakkioiaa
/-- The row, under a short name, for the claim. -/
theorem fnExactDoStep_holds : Rows.FnExactDoStepSaid := fnExactDoStep.proved
end Go.Proofs.Ytgccpcnakkioiaa
