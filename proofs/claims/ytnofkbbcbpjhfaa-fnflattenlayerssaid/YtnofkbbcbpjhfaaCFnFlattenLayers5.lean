/- A part of the proof that the statement FnFlattenLayersSaid holds, under no condition of its own: Layers cover one after the other: the law FnFlattenLayers over lists of numbers alone. -/
import Derived.Test.YtnofkbbcbpjhfaaCFnFlattenLayers4
import Derived.Test.YtnofkbbcbpjhfaaCFnFlattenLayers2
import Derived.Test.YtnofkbbcbpjhfaaCFnFlattenLayers1
import Derived.Test.YtnofkbbcbpjhfaaCFnFlattenLayers3
import Derived.Test.YtnofkbbcbpjhfaaRows
import Derived.JoinedOf
import Derived.KernelRfl
import Derived.WalkKit
import Derived.ProofKit
import Derived.OpenShut
import Derived.ShutString
import Derived.ChangeOld
import Derived.Below
import Derived.SizedLaws
import Derived.Test.YtnofkbbcbpjhfaaCFnFlattenLayersW1
/- Layers that cover an image, one after the other, as the program and the reference have it. -/
namespace Go.Proofs.Ytnofkbbcbpjhfaa.Pure
open Go.RowKit Go.Proofs.Ytnofkbbcbpjhfaa.Q Go.Proofs.YtnofkbbcbpjhfaaW.PrintWords Go.Proofs.YtnofkbbcbpjhfaaW.PrintLast Go.Proofs.YtnofkbbcbpjhfaaW.PrintMore
set_option linter.unusedVariables false
set_option linter.unusedSimpArgs false

abbrev Lay := S55
theorem valid_imgC {an bn pn : Nat} {px : Nat → Nat → List Int} (h1 : 1 ≤ an ∧ an ≤ 16) (h2 : 1 ≤ bn ∧ bn ≤ 16) (h3 : 1 ≤ pn ∧ pn ≤ 4) (hl : ∀ x y, x < an → y < bn → (px x y).length = pn) (hb : ∀ x y, x < an → y < bn → AllB (px x y)) : validI an bn pn (imgD px an bn) = true := by
 refine (validI_iff _ _ _ _).2 ⟨by omega, by rw [imgD_length hl, Nat.mul_comm bn an]; push_cast; rfl, fun n hn => ?_⟩
 unfold imgD rowD at hn
 obtain ⟨y, hy, hn⟩ := List.mem_flatMap.1 hn
 obtain ⟨x, hx, hn⟩ := List.mem_flatMap.1 hn
 exact hb x y (List.mem_range.1 hx) (List.mem_range.1 hy) n hn
theorem valid_le {a b p : Int} {d : List Int} (hv : validI a b p d = true) : d.length ≤ 1024 := by
 obtain ⟨an, bn, pn, _, _, _, q1, q2, q3, q4, q5, q6, q7⟩ := nat_of hv
 rw [q7]
 exact Nat.mul_le_mul (Nat.mul_le_mul q4 q2) q6
def okL (p : Int) (l : Lay) : Bool := layerV l.f0.f0 l.f0.f1 l.f0.f2 l.f0.f3 l.f1 l.f2 l.f3 l.f4 p
def covD (a b p : Int) (d : List Int) (l : Lay) : List Int := imgD (covPx a.toNat p.toNat d l.f1 l.f2 l.f0.f0.toNat l.f0.f1.toNat l.f0.f3 l.f3 l.f4) a.toNat b.toNat
def onD (a b p : Int) (d : List Int) (l : Lay) : List Int := if l.f5 = true then d else covD a b p d l
def flatD (a b p : Int) : List Int → List Lay → List Int
 | d, [] => d
 | d, l :: ls => flatD a b p (onD a b p d l) ls
def flatV (a b p : Int) (d : List Int) (ls : List Lay) : Int × Int × Int × List Int × Bool := if validI a b p d = true ∧ ls.length ≤ 6 ∧ ls.all (okL p) = true then (a, b, p, flatD a b p d ls, true) else (0, 0, 0, [], false)
theorem covD_valid {a b p : Int} {d : List Int} {l : Lay} (hv : validI a b p d = true) (ho : okL p l = true) : validI a b p (covD a b p d l) = true := by
 obtain ⟨hvl, e, hx1, hx2, hy1, hy2, _, _, ha1, ha2⟩ := (layerV_iff _ _ _ _ _ _ _ _ _).1 ho
 have hb1 := ((validI_iff _ _ _ _).1 hv).2.2
 have hb2 := ((validI_iff _ _ _ _).1 hvl).2.2
 obtain ⟨an, bn, pn, rfl, rfl, rfl, q1, q2, q3, q4, q5, q6, q7⟩ := nat_of hv
 obtain ⟨wn, hn, pm, e1, e2, hpm, q11, q12, q13, q14, _, _, q17⟩ := nat_of hvl
 obtain rfl : pn = pm := Int.ofNat.inj (e.symm.trans hpm)
 unfold covD
 rw [e1, e2]
 simp only [Int.toNat_natCast]
 refine valid_imgC ⟨q1, q2⟩ ⟨q3, q4⟩ ⟨q5, q6⟩ (covPx_len _ _ q7 q17) (fun x y hx hy => ?_)
 unfold covPx
 split
 ·exact covL_bytes ⟨ha1, ha2⟩ (allB_nx hb1 _ _) (allB_nx hb2 _ _)
 ·exact allB_nx hb1 _ _
theorem onD_valid {a b p : Int} {d : List Int} {l : Lay} (hv : validI a b p d = true) (ho : okL p l = true) : validI a b p (onD a b p d l) = true := by
 unfold onD
 split
 ·exact hv
 ·exact covD_valid hv ho
theorem flatD_valid {a b p : Int} : ∀ (ls : List Lay) {d : List Int}, validI a b p d = true → ls.all (okL p) = true → validI a b p (flatD a b p d ls) = true
 | [], d, hv, _ => hv
 | l :: ls, d, hv, ho => by
  rw [List.all_cons, Bool.and_eq_true] at ho
  exact flatD_valid ls (onD_valid hv ho.1) ho.2
theorem impl_cover {a b p : Int} {d : List Int} {l : Lay} (hid : Bool) (hv : validI a b p d = true) (ho : okL p l = true) : impl_coverImage.f a b p d l.f0.f0 l.f0.f1 l.f0.f2 l.f0.f3 l.f1 l.f2 l.f3 l.f4 hid = some (a, b, p, covD a b p d l) := by
 obtain ⟨hvl, e, hx1, hx2, hy1, hy2, _, _, ha1, ha2⟩ := (layerV_iff _ _ _ _ _ _ _ _ _).1 ho
 have hb1 := ((validI_iff _ _ _ _).1 hv).2.2
 have hb2 := ((validI_iff _ _ _ _).1 hvl).2.2
 unfold impl_coverImage.f covD
 rw [if_pos ⟨hv, hvl, e, ⟨hx1, hx2⟩, hy1, hy2⟩]
 obtain ⟨an, bn, pn, rfl, rfl, rfl, q1, q2, q3, q4, q5, q6, q7⟩ := nat_of hv
 obtain ⟨wn, hn, pm, e1, e2, _, q11, q12, q13, q14, _, _, _⟩ := nat_of hvl
 rw [e1, e2]
 simp only [Int.toNat_natCast]
 rw [imgD_congr (fun x y hx hy => coverPx_cov q2 q4 q6 q12 q14 ⟨ha1, ha2⟩ hb1 hb2 hx hy)]
theorem spec_cover {a b p : Int} {d : List Int} {l : Lay} (hid : Bool) (hv : validI a b p d = true) (ho : okL p l = true) : Ev (fun k => spec_blendPaste.f k a b p d l.f0.f0 l.f0.f1 l.f0.f2 l.f0.f3 l.f1 l.f2 l.f3 l.f4 hid) (covD a b p d l) := by
 obtain ⟨hvl, e, hx1, hx2, hy1, hy2, _, _, ha1, ha2⟩ := (layerV_iff _ _ _ _ _ _ _ _ _).1 ho
 have hb1 := ((validI_iff _ _ _ _).1 hv).2.2
 have hb2 := ((validI_iff _ _ _ _).1 hvl).2.2
 unfold covD
 obtain ⟨an, bn, pn, rfl, rfl, rfl, q1, q2, q3, q4, q5, q6, q7⟩ := nat_of hv
 obtain ⟨wn, hn, pm, e1, e2, hpm, q11, q12, q13, q14, _, _, q17⟩ := nat_of hvl
 obtain rfl : pn = pm := Int.ofNat.inj (e.symm.trans hpm)
 rw [e1, e2, hpm]
 simp only [Int.toNat_natCast]
 exact blendPaste_ev hid ⟨q1, q2⟩ ⟨q3, q4⟩ q6 q12 q14 ⟨hx1, hx2⟩ ⟨hy1, hy2⟩ ⟨ha1, ha2⟩ d l.f0.f3 q7 q17 hb1 hb2
theorem rdL_nat (l : List Lay) (i : Nat) (h : i < l.length) : rd_T55 l (i : Int) = l[i] := by simp [rd_T55, h]
theorem dropL (l : List Lay) (i : Nat) (h : i < l.length) : l.drop i = l[i] :: l.drop (i + 1) := List.drop_eq_getElem_cons h
theorem copyC_px (a b p : Int) (d : List Int) (hl : d.length ≤ 1000000) : spec_copyImage.f a b p d = some (a, b, p, d) := by
 unfold spec_copyImage.f
 rw [copyInts_px d hl]
 rfl
theorem impl_copyC_px (a b p : Int) (d : List Int) (hl : d.length ≤ 1000000) : impl_copyImage.f a b p d = some (a, b, p, d) := by
 unfold impl_copyImage.f
 simp only [Option.bind_some]
 rw [if_pos (by simp; omega)]
 simp
theorem specFlat_loop (ls : List Lay) (hl : ls.length ≤ 1000000000) (a b p : Int) : ∀ (n i : Nat) (d : List Int), i + n = ls.length → validI a b p d = true → ls.all (okL p) = true →
  Ev (fun k => spec_flatten.l0 k ls (i : Int) a b p d) (a, b, p, flatD a b p d (ls.drop i))
 | 0, i, d, hi, hv, ho => by
  rw [List.drop_of_length_le (by omega)]
  exact Ev.step (f := fun _ => some (a, b, p, d)) (fun k => by simp only [spec_flatten.l0]; rw [if_neg (by omega)]) (Ev.now _)
 | n + 1, i, d, hi, hv, ho => by
  have hlt : i < ls.length := by omega
  have hok : okL p ls[i] = true := List.all_eq_true.1 ho _ (List.getElem_mem hlt)
  rw [dropL ls i hlt, flatD]
  have ih := specFlat_loop ls hl a b p n (i + 1) (onD a b p d ls[i]) (by omega) (onD_valid hv hok) ho
  unfold onD at ih ⊢
  by_cases c : ls[i].f5 = true
  ·rw [if_pos c] at ih ⊢
   refine Ev.step (fun k => ?_) ih
   simp only [spec_flatten.l0]
   rw [if_pos (by omega), if_pos (by omega), rdL_nat ls i hlt, if_pos c, w64n i (by omega)]
  ·rw [if_neg c] at ih ⊢
   refine Ev.step (f := fun k => (spec_blendPaste.f k a b p d ls[i].f0.f0 ls[i].f0.f1 ls[i].f0.f2 ls[i].f0.f3 ls[i].f1 ls[i].f2 ls[i].f3 ls[i].f4 ls[i].f5).bind fun t => spec_flatten.l0 k ls ((i + 1 : Nat) : Int) a b p t) (fun k => ?_) (ev_bind (spec_cover _ hv hok) ih)
   simp only [spec_flatten.l0]
   rw [if_pos (by omega), if_pos (by omega), rdL_nat ls i hlt, if_neg c, w64n i (by omega)]
theorem validLayers_ev (ls : List Lay) (hl : ls.length ≤ 1000000000) (hd : ∀ l ∈ ls, l.f0.f3.length ≤ 1000000) (p : Int) : ∀ (n i : Nat), i + n = ls.length →
  Ev (fun k => spec_validLayers.l0 k ls p (i : Int)) ((ls.drop i).all (okL p) && decide (ls.length ≤ 6))
 | 0, i, hi => by
  rw [List.drop_of_length_le (by omega)]
  refine ev_val (Ev.step (f := fun _ => some (decide ((ls.length : Int) ≤ 6))) (fun k => by simp only [spec_validLayers.l0]; rw [if_neg (by omega)]) (Ev.now _)) ?_
  rw [List.all_nil, Bool.true_and]
  exact decide_eq_decide.2 (by omega)
 | n + 1, i, hi => by
  have hlt : i < ls.length := by omega
  have hS := spec_validLayer_ev ls[i].f0.f0 ls[i].f0.f1 ls[i].f0.f2 ls[i].f0.f3 ls[i].f1 ls[i].f2 ls[i].f3 ls[i].f4 ls[i].f5 p (by have := hd _ (List.getElem_mem hlt); omega)
  have ih := validLayers_ev ls hl hd p n (i + 1) (by omega)
  rw [dropL ls i hlt, List.all_cons]
  refine Ev.step (f := fun k => (spec_validLayer.f k ls[i].f0.f0 ls[i].f0.f1 ls[i].f0.f2 ls[i].f0.f3 ls[i].f1 ls[i].f2 ls[i].f3 ls[i].f4 ls[i].f5 p).bind fun t => if t = true then spec_validLayers.l0 k ls p ((i + 1 : Nat) : Int) else some false) (fun k => ?_) (ev_bind hS ?_)
  ·simp only [spec_validLayers.l0]
   rw [if_pos (by omega), if_pos (by omega), rdL_nat ls i hlt, w64n i (by omega)]
  ·show Ev (fun k => if okL p ls[i] = true then spec_validLayers.l0 k ls p ((i + 1 : Nat) : Int) else some false) _
   by_cases c : okL p ls[i] = true
   ·rw [c, Bool.true_and]
    exact ev_pos rfl ih
   ·rw [Bool.eq_false_iff.2 c]
    exact ev_neg (by simp) (Ev.now _)
theorem spec_FlattenLayers_ev (a b p : Int) (d : List Int) (ls : List Lay) (h0 : d.length ≤ 2000000) (hl : ls.length ≤ 1000000000) (hd : ∀ l ∈ ls, l.f0.f3.length ≤ 1000000) : Ev (fun k => spec_FlattenLayers.f k a b p d ls) (flatV a b p d ls) := by
 unfold spec_FlattenLayers.f flatV spec_validLayers.f spec_flatten.f
 refine ev_bind (spec_validImage_ev a b p d (by omega)) ?_
 by_cases c : validI a b p d = true
 ·refine ev_pos c (ev_bind (validLayers_ev ls hl hd p ls.length 0 (by omega)) ?_)
  rw [List.drop_zero]
  by_cases c2 : ls.length ≤ 6 ∧ ls.all (okL p) = true
  ·rw [if_pos ⟨c, c2⟩, c2.2, decide_eq_true c2.1]
   have h := specFlat_loop ls hl a b p ls.length 0 d (by omega) c c2.2
   rw [List.drop_zero] at h
   exact ev_pos rfl (ev_bind (ev_now (copyC_px a b p d (by have := valid_le c; omega)) h) (Ev.now _))
  ·rw [if_neg (fun h => c2 h.2)]
   refine ev_neg ?_ (Ev.now _)
   rw [Bool.and_eq_true, decide_eq_true_iff]
   exact fun h => c2 ⟨h.2, h.1⟩
 ·rw [if_neg (fun h => c h.1)]
  exact ev_neg c (Ev.now _)
theorem implFlat_loop (ls : List Lay) (hl : ls.length ≤ 1000000000) (a b p : Int) (d0 : List Int) : ∀ (n i : Nat) (d : List Int), i + n = ls.length → validI a b p d = true →
  Ev (fun k => impl_flatten.l0 k ls (ls.length : Int) (i : Int) a b p d0 a b p d) (if (ls.drop i).all (okL p) = true then (a, b, p, flatD a b p d (ls.drop i), true) else (0, 0, 0, [], false))
 | 0, i, d, hi, hv => by
  rw [List.drop_of_length_le (by omega)]
  exact Ev.step (f := fun _ => some (a, b, p, d, true)) (fun k => by simp only [impl_flatten.l0]; rw [if_neg (by omega)]) (Ev.now _)
 | n + 1, i, d, hi, hv => by
  have hlt : i < ls.length := by omega
  have hL := impl_isLayer_eq ls[i].f0.f0 ls[i].f0.f1 ls[i].f0.f2 ls[i].f0.f3 ls[i].f1 ls[i].f2 ls[i].f3 ls[i].f4 ls[i].f5 p
  rw [dropL ls i hlt, List.all_cons, flatD]
  refine Ev.step (f := fun k => (impl_isLayer.f ls[i].f0.f0 ls[i].f0.f1 ls[i].f0.f2 ls[i].f0.f3 ls[i].f1 ls[i].f2 ls[i].f3 ls[i].f4 ls[i].f5 p).bind fun t => if t = true then (if ls[i].f5 = true then impl_flatten.l0 k ls (ls.length : Int) ((i + 1 : Nat) : Int) a b p d0 a b p d else (impl_coverImage.f a b p d ls[i].f0.f0 ls[i].f0.f1 ls[i].f0.f2 ls[i].f0.f3 ls[i].f1 ls[i].f2 ls[i].f3 ls[i].f4 ls[i].f5).bind fun u => impl_flatten.l0 k ls (ls.length : Int) ((i + 1 : Nat) : Int) a b p d0 u.1 u.2.1 u.2.2.1 u.2.2.2) else some (0, 0, 0, [], false)) (fun k => ?_) (ev_now hL ?_)
  ·simp only [impl_flatten.l0]
   rw [if_pos (by omega), if_pos (by omega), if_pos (by omega), rdL_nat ls i hlt, w64n i (by omega)]
  ·show Ev (fun k => if okL p ls[i] = true then (if ls[i].f5 = true then impl_flatten.l0 k ls (ls.length : Int) ((i + 1 : Nat) : Int) a b p d0 a b p d else (impl_coverImage.f a b p d ls[i].f0.f0 ls[i].f0.f1 ls[i].f0.f2 ls[i].f0.f3 ls[i].f1 ls[i].f2 ls[i].f3 ls[i].f4 ls[i].f5).bind fun u => impl_flatten.l0 k ls (ls.length : Int) ((i + 1 : Nat) : Int) a b p d0 u.1 u.2.1 u.2.2.1 u.2.2.2) else some (0, 0, 0, [], false)) _
   by_cases hok : okL p ls[i] = true
   ·rw [hok, Bool.true_and]
    refine ev_pos rfl ?_
    have ih := implFlat_loop ls hl a b p d0 n (i + 1) (onD a b p d ls[i]) (by omega) (onD_valid hv hok)
    unfold onD at ih ⊢
    by_cases c : ls[i].f5 = true
    ·rw [if_pos c] at ih ⊢
     exact ev_pos c ih
    ·rw [if_neg c] at ih ⊢
     exact ev_neg c (ev_now (impl_cover _ hv hok) ih)
   ·rw [Bool.eq_false_iff.2 hok]
    exact ev_neg (by simp) (Ev.now _)
theorem impl_flatten_ev (a b p : Int) (d : List Int) (ls : List Lay) : Ev (fun k => impl_flatten.f k a b p d ls) (flatV a b p d ls) := by
 unfold impl_flatten.f flatV
 refine ev_now (impl_isImage_eq a b p d) ?_
 by_cases c : validI a b p d = true
 ·refine ev_pos c ?_
  by_cases c2 : ls.length ≤ 6
  ·have h := implFlat_loop ls (by omega) a b p d ls.length 0 d (by omega) c
   rw [List.drop_zero] at h
   refine Ev.step (f := fun k => (impl_copyImage.f a b p d).bind fun t => impl_flatten.l0 k ls (ls.length : Int) 0 a b p d t.1 t.2.1 t.2.2.1 t.2.2.2) (fun k => ?_) (ev_now (impl_copyC_px a b p d (by have := valid_le c; omega)) (ev_val h ?_))
   ·simp only [impl_flatten.j0]
    rw [if_neg (by simp; omega)]
   ·by_cases c3 : ls.all (okL p) = true
    ·rw [if_pos c3, if_pos ⟨c, c2, c3⟩]
    ·rw [if_neg c3, if_neg (fun h => c3 h.2.2)]
  ·rw [if_neg (fun h => c2 h.2.1)]
   refine Ev.step (f := fun _ => some (0, 0, 0, [], false)) (fun k => ?_) (Ev.now _)
   simp only [impl_flatten.j0]
   rw [if_pos (by simp; omega)]
 ·rw [if_neg (fun h => c h.1)]
  refine ev_neg c (Ev.step (f := fun _ => some (0, 0, 0, [], false)) (fun k => ?_) (Ev.now _))
  simp only [impl_flatten.j0]
  rw [if_pos trivial]
theorem impl_FlattenLayers_ev (a b p : Int) (d : List Int) (ls : List Lay) : Ev (fun k => impl_FlattenLayers.f k a b p d ls) (flatV a b p d ls) := by
 unfold impl_FlattenLayers.f
 exact ev_bind (impl_flatten_ev a b p d ls) (Ev.now _)
theorem flatV_len (a b p : Int) (d : List Int) (ls : List Lay) : (flatV a b p d ls).2.2.2.1.length ≤ 1024 := by
 unfold flatV
 split
 ·rename_i h
  exact valid_le (flatD_valid ls h.1 h.2.2)
 ·simp

/- The reader of draws: whatever the code's bytes are, it answers, in range. -/

/-- What a reader reads from: at most 2000 bytes. -/
def Bytes (b : List Int) : Prop := b.length ≤ 2000 ∧ ∀ x ∈ b, 0 ≤ x ∧ x ≤ 255
theorem Bytes.rd_ {b : List Int} (h : Bytes b) (i : Int) : 0 ≤ rd b i ∧ rd b i ≤ 255 := by
  unfold rd
  by_cases c : i.toNat < b.length
  · rw [List.getD_eq_getElem?_getD, List.getElem?_eq_getElem c]; exact h.2 _ (List.getElem_mem c)
  · rw [List.getD_eq_getElem?_getD, List.getElem?_eq_none (by omega)]; simp
theorem xor_nn (a b : Int) (ha : 0 ≤ a) (ha' : a < 4611686018427387904) (hb : 0 ≤ b) (hb' : b < 4611686018427387904) : 0 ≤ Go.bits .xor .i64 a b := by
  obtain ⟨a, rfl⟩ := Int.eq_ofNat_of_zero_le ha
  obtain ⟨b, rfl⟩ := Int.eq_ofNat_of_zero_le hb
  have ha2 : a < 2 ^ 62 := by have : (2 : Nat) ^ 62 = 4611686018427387904 := by decide +kernel
                              omega
  have hb2 : b < 2 ^ 62 := by have : (2 : Nat) ^ 62 = 4611686018427387904 := by decide +kernel
                              omega
  have e64 : IntKind.bits .i64 = 64 := rfl
  have hx := Nat.xor_lt_two_pow ha2 hb2
  have h62 : (2 : Nat) ^ 62 = 4611686018427387904 := by decide +kernel
  have h64 : (2 : Nat) ^ 64 = 18446744073709551616 := by decide +kernel
  simp only [Go.bits, BitVec.ofInt_natCast, BitVec.toNat_xor, BitVec.toNat_ofNat, e64]
  rw [Nat.mod_eq_of_lt (by omega), Nat.mod_eq_of_lt (by omega), IntKind.wrap_i64]
  generalize a ^^^ b = z at *
  omega
theorem tmod_range (x n : Int) (hx : 0 ≤ x) (hn : 1 ≤ n) : 0 ≤ Int.tmod x n ∧ Int.tmod x n < n := by
  rw [tmod_nn _ _ hx]
  exact ⟨Int.emod_nonneg _ (by omega), Int.emod_lt_of_pos _ (by omega)⟩
theorem pick_at (b : List Int) (p n : Int) (hb : Bytes b) (hp0 : 0 ≤ p) (hp : p ≤ 1000000000000) :
    ∃ v, (∀ k, 0 < k → spec_reader_pick.f k b p n = some (v, p + 1)) ∧ 0 ≤ v ∧ (1 ≤ n → v < n) ∧ (n < 1 → v = 0) := by
  by_cases hn : n < 1
  · refine ⟨0, fun k hk => ?_, by omega, by omega, fun _ => rfl⟩
    obtain ⟨k, rfl⟩ : ∃ m, k = m + 1 := ⟨k - 1, by omega⟩
    unfold spec_reader_pick.f
    rw [if_pos hn, w64 (by omega) (by omega)]
    simp only [spec_reader_pick.j0, if_true]
  by_cases he : b.length = 0
  · refine ⟨0, fun k hk => ?_, by omega, by omega, fun _ => rfl⟩
    obtain ⟨k, rfl⟩ : ∃ m, k = m + 1 := ⟨k - 1, by omega⟩
    unfold spec_reader_pick.f
    rw [if_neg hn, w64 (by omega) (by omega)]
    simp only [spec_reader_pick.j0, he]; simp
  have hlen := hb.1
  by_cases hlt : p < (b.length : Int)
  · have hr := hb.rd_ p
    have ht := tmod_range (rd b p) n hr.1 (by omega)
    refine ⟨Int.tmod (rd b p) n, fun k hk => ?_, ht.1, fun _ => ht.2, by omega⟩
    obtain ⟨k, rfl⟩ : ∃ m, k = m + 1 := ⟨k - 1, by omega⟩
    unfold spec_reader_pick.f
    rw [if_neg hn, w64 (x := p + 1) (by omega) (by omega)]
    simp only [spec_reader_pick.j0]
    rw [if_neg (by simp only [beq_iff_eq]; omega), w64 (x := p + 1 - 1) (by omega) (by omega), show p + 1 - 1 = p by omega, if_pos hlt, if_pos hp0, if_neg (by omega), w64 (x := rd b p) (by omega) (by omega)]
  · have h1 := tmod_range p (b.length : Int) hp0 (by omega)
    have h2 := tmod_range (p * 7 + 3) (b.length : Int) (by omega) (by omega)
    have r1 := hb.rd_ (Int.tmod p (b.length : Int))
    have r2 := hb.rd_ (Int.tmod (p * 7 + 3) (b.length : Int))
    have hd : 0 ≤ Int.tdiv p (b.length : Int) ∧ Int.tdiv p (b.length : Int) ≤ p := by
      rw [tdiv_nn _ _ hp0]
      exact ⟨Int.ediv_nonneg hp0 (by omega), Int.ediv_le_self _ hp0⟩
    generalize h1e : Int.tmod p (b.length : Int) = t1 at *
    generalize h2e : Int.tmod (p * 7 + 3) (b.length : Int) = t2 at *
    generalize hde : Int.tdiv p (b.length : Int) = d at *
    generalize hr1e : rd b t1 = x1 at *
    generalize hr2e : rd b t2 = x2 at *
    have hx := xor_nn (x1 * 131 + x2 * 1117 + p * 29 + d * 53) ((x1 * 131 + x2 * 1117 + p * 29 + d * 53) / 64) (by omega) (by omega) (by omega) (by omega)
    have ht := tmod_range _ n hx (by omega)
    refine ⟨Int.tmod (Go.bits .xor .i64 (x1 * 131 + x2 * 1117 + p * 29 + d * 53) ((x1 * 131 + x2 * 1117 + p * 29 + d * 53) / 64)) n, fun k hk => ?_, ht.1, fun _ => ht.2, by omega⟩
    obtain ⟨k, rfl⟩ : ∃ m, k = m + 1 := ⟨k - 1, by omega⟩
    unfold spec_reader_pick.f
    rw [if_neg hn, w64 (x := p + 1) (by omega) (by omega)]
    simp only [spec_reader_pick.j0]
    rw [if_neg (by simp only [beq_iff_eq]; omega), w64 (x := p + 1 - 1) (by omega) (by omega), show p + 1 - 1 = p by omega, if_neg hlt, if_neg (by omega),
      w64 (x := p * 7) (by omega) (by omega), w64 (x := p * 7 + 3) (by omega) (by omega), h1e, h2e, hde, hr1e, hr2e, if_pos (by omega), if_pos (by omega), if_pos (by omega), if_pos (by omega), if_neg (by omega),
      w64 (x := x1) (by omega) (by omega), w64 (x := x2) (by omega) (by omega), w64 (x := d) (by omega) (by omega), w64 (x := x1 * 131) (by omega) (by omega), w64 (x := x2 * 1117) (by omega) (by omega), w64 (x := p * 29) (by omega) (by omega), w64 (x := d * 53) (by omega) (by omega),
      w64 (x := x1 * 131 + x2 * 1117) (by omega) (by omega), w64 (x := x1 * 131 + x2 * 1117 + p * 29) (by omega) (by omega), w64 (x := x1 * 131 + x2 * 1117 + p * 29 + d * 53) (by omega) (by omega), tdiv_nn _ 64 (by omega),
      w64 (x := (x1 * 131 + x2 * 1117 + p * 29 + d * 53) / 64) (by omega) (by omega)]
theorem one_at (b : List Int) (p : Int) (l : List Int) (hl : 0 < l.length) (hl' : l.length ≤ 1000) (hb : Bytes b) (hp0 : 0 ≤ p) (hp : p ≤ 1000000000000) :
    ∃ v, (∀ k, 0 < k → spec_reader_one.f k b p l = some (v, p + 1)) ∧ v ∈ l := by
  obtain ⟨v, hv, h0, h1, _⟩ := pick_at b p (l.length : Int) hb hp0 hp
  have h1' := h1 (by omega)
  obtain ⟨v, rfl⟩ := Int.eq_ofNat_of_zero_le h0
  refine ⟨l[v]'(by omega), fun k hk => ?_, List.getElem_mem _⟩
  unfold spec_reader_one.f
  rw [hv k hk]
  simp only [Option.bind_some]
  rw [if_pos (by omega), if_pos (by omega), rd_nat l v (by omega)]
theorem newReader_at (l : List Int) (h : ∀ x ∈ l, 0 ≤ x ∧ x ≤ 255) : ∃ b, spec_newReader.f l = some (b, 0) ∧ Bytes b := by
  unfold spec_newReader.f
  by_cases c : (l.length : Int) > 2000
  · rw [if_pos c, if_pos (by omega)]
    exact ⟨_, rfl, by rw [List.length_take]; omega, fun x hx => h x (List.mem_of_mem_take hx)⟩
  · rw [if_neg c]
    exact ⟨_, rfl, by omega, h⟩
/-- What a law is told of its code: bytes. -/
theorem code_bytes (l : List Int) (h : ∀ x ∈ l, (Lit.int .u8 x).wf = true) : ∀ x ∈ l, 0 ≤ x ∧ x ≤ 255 := by
  intro x hx
  have := h x hx
  simp only [Lit.wf, Bool.and_eq_true, decide_eq_true_eq] at this
  have e1 : IntKind.min .u8 = 0 := by decide
  have e2 : IntKind.max .u8 = 255 := by decide
  omega

/- Images that are drawn from bytes. -/

theorem one_in (b : List Int) (p : Int) (l : List Int) (hl : 0 < l.length) (hl' : l.length ≤ 1000) (hb : Bytes b) (hp0 : 0 ≤ p) (hp : p ≤ 1000000000000) : ∃ v, Ev (fun k => spec_reader_one.f k b p l) (v, p + 1) ∧ v ∈ l := by
 obtain ⟨v, h, hv⟩ := one_at b p l hl hl' hb hp0 hp
 exact ⟨v, ev_of 0 h, hv⟩
theorem pick_in (b : List Int) (p n : Int) (hn : 1 ≤ n) (hb : Bytes b) (hp0 : 0 ≤ p) (hp : p ≤ 1000000000000) : ∃ v, Ev (fun k => spec_reader_pick.f k b p n) (v, p + 1) ∧ 0 ≤ v ∧ v < n := by
 obtain ⟨v, h, h0, h1, _⟩ := pick_at b p n hb hp0 hp
 exact ⟨v, ev_of 0 h, h0, h1 hn⟩
theorem newImage_eq (w h p : Int) (hs : 1 ≤ w ∧ w ≤ 16 ∧ 1 ≤ h ∧ h ≤ 16 ∧ 1 ≤ p ∧ p ≤ 4) : spec_newImage.f w h p = some (w, h, p, List.replicate (w * h * p).toNat 0) := by
 have := shape_prod hs
 unfold spec_newImage.f
 rw [shape_wrap hs, if_pos (by omega), if_pos (by omega)]
theorem randomLoop (b : List Int) (hb : Bytes b) (m : Int) (w h p : Int) : ∀ (n i : Nat) (x pos : Int) (d : List Int), i + n = d.length → 0 ≤ pos → pos + n ≤ 1000000000000 → d.length ≤ 1000000 →
  ∃ (d' : List Int) (q : Int), d'.length = d.length ∧ pos ≤ q ∧ q ≤ pos + n ∧ Ev (fun k => spec_randomImage.l0 k m x (i : Int) b pos w h p d) (w, h, p, d', q) := by
 intro n
 induction n with
 | zero =>
  intro i x pos d hi h0 h1 h2
  refine ⟨d, pos, rfl, by omega, by omega, ?_⟩
  refine Ev.step (f := fun _ => some (w, h, p, d, pos)) (fun k => ?_) (Ev.now _)
  simp only [spec_randomImage.l0]
  rw [if_neg (by omega)]
 | succ n ih =>
  intro i x pos d hi h0 h1 h2
  have go : ∀ (v x' pos' : Int), pos ≤ pos' → pos' ≤ pos + 1 → ∃ (d' : List Int) (q : Int), d'.length = d.length ∧ pos ≤ q ∧ q ≤ pos + ((n + 1 : Nat) : Int) ∧ Ev (fun k => spec_randomImage.l0 k m x' ((i + 1 : Nat) : Int) b pos' w h p (d.set i v)) (w, h, p, d', q) := by
   intro v x' pos' a1 a2
   obtain ⟨d', q, e1, e2, e3, e4⟩ := ih (i + 1) x' pos' (d.set i v) (by rw [List.length_set]; omega) (by omega) (by omega) (by rw [List.length_set]; omega)
   exact ⟨d', q, by rw [e1, List.length_set], by omega, by omega, e4⟩
  by_cases c0 : m = 0
  ·obtain ⟨v, hv, _, _⟩ := pick_in b pos 256 (by omega) hb h0 (by omega)
   obtain ⟨d', q, e1, e2, e3, e4⟩ := go v v (pos + 1) (by omega) (by omega)
   refine ⟨d', q, e1, e2, e3, ?_⟩
   refine Ev.step (f := fun k => (spec_reader_pick.f k b pos 256).bind fun bt => if 0 ≤ (i : Int) then spec_randomImage.l0 k m bt.1 (wrap64 ((i : Int) + 1)) b bt.2 w h p (d.set (i : Int).toNat bt.1) else none) (fun k => ?_) ?_
   ·simp only [spec_randomImage.l0]
    rw [if_pos (by omega), if_pos c0]
   ·refine ev_bind hv (ev_pos (by omega) ?_)
    simp only [Int.toNat_natCast, w64n i (by omega)]
    exact e4
  ·by_cases c1 : m = 1
   ·obtain ⟨v, hv, _, _⟩ := pick_in b pos 5 (by omega) hb h0 (by omega)
    obtain ⟨d', q, e1, e2, e3, e4⟩ := go (Int.tmod (wrap64 ((wrap64 (x + v)) + 254)) 256) (Int.tmod (wrap64 ((wrap64 (x + v)) + 254)) 256) (pos + 1) (by omega) (by omega)
    refine ⟨d', q, e1, e2, e3, ?_⟩
    refine Ev.step (f := fun k => (spec_reader_pick.f k b pos 5).bind fun bt => if 0 ≤ (i : Int) then spec_randomImage.l0 k m (Int.tmod (wrap64 ((wrap64 (x + bt.1)) + 254)) 256) (wrap64 ((i : Int) + 1)) b bt.2 w h p (d.set (i : Int).toNat (Int.tmod (wrap64 ((wrap64 (x + bt.1)) + 254)) 256)) else none) (fun k => ?_) ?_
    ·simp only [spec_randomImage.l0]
     rw [if_pos (by omega), if_neg c0, if_pos c1]
    ·refine ev_bind hv (ev_pos (by omega) ?_)
     simp only [Int.toNat_natCast, w64n i (by omega)]
     exact e4
   ·by_cases c2 : m = 2
    ·obtain ⟨v, hv, _, _⟩ := pick_in b pos 4 (by omega) hb h0 (by omega)
     obtain ⟨d', q, e1, e2, e3, e4⟩ := go (wrap64 (60 * v)) (wrap64 (60 * v)) (pos + 1) (by omega) (by omega)
     refine ⟨d', q, e1, e2, e3, ?_⟩
     refine Ev.step (f := fun k => (spec_reader_pick.f k b pos 4).bind fun bt => if 0 ≤ (i : Int) then spec_randomImage.l0 k m (wrap64 (60 * bt.1)) (wrap64 ((i : Int) + 1)) b bt.2 w h p (d.set (i : Int).toNat (wrap64 (60 * bt.1))) else none) (fun k => ?_) ?_
     ·simp only [spec_randomImage.l0]
      rw [if_pos (by omega), if_neg c0, if_neg c1, if_pos c2]
     ·refine ev_bind hv (ev_pos (by omega) ?_)
      simp only [Int.toNat_natCast, w64n i (by omega)]
      exact e4
    ·obtain ⟨d', q, e1, e2, e3, e4⟩ := go x x pos (by omega) (by omega)
     refine ⟨d', q, e1, e2, e3, Ev.step (fun k => ?_) e4⟩
     simp only [spec_randomImage.l0]
     rw [if_pos (by omega), if_neg c0, if_neg c1, if_neg c2, if_pos (by omega), Int.toNat_natCast, w64n i (by omega)]
theorem randomImage_ev (b : List Int) (pos p : Int) (hb : Bytes b) (h0 : 0 ≤ pos) (h1 : pos ≤ 100000000) (hp : 1 ≤ p ∧ p ≤ 4) :
  ∃ (w h : Int) (d : List Int) (q : Int), 1 ≤ w ∧ w ≤ 8 ∧ 1 ≤ h ∧ h ≤ 8 ∧ (d.length : Int) = w * h * p ∧ 1 ≤ d.length ∧ d.length ≤ 1024 ∧ pos ≤ q ∧ q ≤ pos + 2000 ∧ Ev (fun k => spec_randomImage.f k b pos p) (w, h, p, d, q) := by
 obtain ⟨w, hw, mw⟩ := one_in b pos [3, 4, 2, 5, 1, 8, 6] (by simp) (by simp) hb h0 (by omega)
 obtain ⟨h, hh, mh⟩ := one_in b (pos + 1) [3, 2, 4, 1, 5, 8] (by simp) (by simp) hb (by omega) (by omega)
 obtain ⟨m, hm, _, _⟩ := pick_in b (pos + 1 + 1) 4 (by omega) hb (by omega) (by omega)
 obtain ⟨x, hx, _, _⟩ := pick_in b (pos + 1 + 1 + 1) 256 (by omega) hb (by omega) (by omega)
 have bw : 1 ≤ w ∧ w ≤ 8 := by simp only [List.mem_cons, List.not_mem_nil, or_false] at mw; omega
 have bh : 1 ≤ h ∧ h ≤ 8 := by simp only [List.mem_cons, List.not_mem_nil, or_false] at mh; omega
 have hs : 1 ≤ w ∧ w ≤ 16 ∧ 1 ≤ h ∧ h ≤ 16 ∧ 1 ≤ p ∧ p ≤ 4 := by omega
 have hpr := shape_prod hs
 have hpos : 1 ≤ w * h * p := by
  have e1 : 1 * 1 ≤ w * h := Int.mul_le_mul (by omega) (by omega) (by omega) (by omega)
  have e2 : 1 * 1 ≤ w * h * p := Int.mul_le_mul (by omega) (by omega) (by omega) (by omega)
  omega
 have hlen : (List.replicate (w * h * p).toNat (0 : Int)).length = (w * h * p).toNat := List.length_replicate
 obtain ⟨d', q, e1, e2, e3, e4⟩ := randomLoop b hb m w h p (w * h * p).toNat 0 x (pos + 1 + 1 + 1 + 1) (List.replicate (w * h * p).toNat 0) (by omega) (by omega) (by omega) (by omega)
 refine ⟨w, h, d', q, bw.1, bw.2, bh.1, bh.2, by omega, by omega, by omega, by omega, by omega, ?_⟩
 unfold spec_randomImage.f
 exact ev_bind hw (ev_bind hh (ev_now (newImage_eq w h p hs) (ev_bind hm (ev_bind hx e4))))
theorem anyPlanes_ev (b : List Int) (pos : Int) (hb : Bytes b) (h0 : 0 ≤ pos) (h1 : pos ≤ 100000000) : ∃ p, 1 ≤ p ∧ p ≤ 4 ∧ Ev (fun k => spec_anyPlanes.f k b pos) (p, pos + 1) := by
 obtain ⟨p, hp, mp⟩ := one_in b pos [1, 3, 1, 4, 2] (by simp) (by simp) hb h0 (by omega)
 simp only [List.mem_cons, List.not_mem_nil, or_false] at mp
 refine ⟨p, by omega, by omega, ?_⟩
 unfold spec_anyPlanes.f
 exact ev_bind hp (Ev.now _)
theorem spoilImage_ev (b : List Int) (pos : Int) (w h p : Int) (d : List Int) (hb : Bytes b) (h0 : 0 ≤ pos) (h1 : pos ≤ 100000000) (hd : 1 ≤ d.length) :
  ∃ (w' h' p' : Int) (d' : List Int) (q : Int), d'.length ≤ d.length ∧ pos ≤ q ∧ q ≤ pos + 2 ∧ Ev (fun k => spec_spoilImage.f k b pos w h p d) (w', h', p', d', q) := by
 obtain ⟨v, hv, _, _⟩ := pick_in b pos 40 (by omega) hb h0 (by omega)
 unfold spec_spoilImage.f
 by_cases c0 : v = 0
 ·obtain ⟨x, hx, _⟩ := one_in b (pos + 1) [0, 17, wrap64 (w + 1)] (by simp) (by simp) hb (by omega) (by omega)
  exact ⟨x, h, p, d, pos + 1 + 1, by omega, by omega, by omega, ev_bind hv (ev_pos c0 (ev_bind hx (Ev.now _)))⟩
 ·by_cases c1 : v = 1
  ·exact ⟨w, h, p, d.drop (1 : Int).toNat, pos + 1, by rw [List.length_drop]; omega, by omega, by omega, ev_bind hv (ev_neg c0 (ev_pos c1 (ev_pos (by omega) (Ev.now _))))⟩
  ·by_cases c2 : v = 2
   ·obtain ⟨x, hx, _⟩ := one_in b (pos + 1) [(-1), 256] (by simp) (by simp) hb (by omega) (by omega)
    exact ⟨w, h, p, d.set (0 : Int).toNat x, pos + 1 + 1, by rw [List.length_set]; omega, by omega, by omega, ev_bind hv (ev_neg c0 (ev_neg c1 (ev_pos c2 (ev_bind hx (ev_pos (by omega) (Ev.now _))))))⟩
   ·by_cases c3 : v = 3
    ·obtain ⟨x, hx, _⟩ := one_in b (pos + 1) [0, 5] (by simp) (by simp) hb (by omega) (by omega)
     exact ⟨w, h, x, d, pos + 1 + 1, by omega, by omega, by omega, ev_bind hv (ev_neg c0 (ev_neg c1 (ev_neg c2 (ev_pos c3 (ev_bind hx (Ev.now _))))))⟩
    ·exact ⟨w, h, p, d, pos + 1, by omega, by omega, by omega, ev_bind hv (ev_neg c0 (ev_neg c1 (ev_neg c2 (ev_neg c3 (Ev.now _)))))⟩
theorem anyImage_ev (b : List Int) (pos : Int) (hb : Bytes b) (h0 : 0 ≤ pos) (h1 : pos ≤ 90000000) :
  ∃ (w h p : Int) (d : List Int) (q : Int), d.length ≤ 1024 ∧ pos ≤ q ∧ q ≤ pos + 3000 ∧ Ev (fun k => spec_anyImage.f k b pos) (w, h, p, d, q) := by
 obtain ⟨p, p1, p2, hp⟩ := anyPlanes_ev b pos hb h0 (by omega)
 obtain ⟨w, h, d, q, _, _, _, _, _, d1, d2, q1, q2, hr⟩ := randomImage_ev b (pos + 1) p hb (by omega) (by omega) ⟨p1, p2⟩
 obtain ⟨w', h', p', d', q', d3, q3, q4, hs⟩ := spoilImage_ev b q w h p d hb (by omega) (by omega) d1
 refine ⟨w', h', p', d', q', by omega, by omega, by omega, ?_⟩
 unfold spec_anyImage.f
 exact ev_bind hp (ev_bind hr (ev_bind hs (Ev.now _)))

/- Layers that are drawn from bytes. -/

theorem randomLayer_ev (b : List Int) (pos p : Int) (hb : Bytes b) (h0 : 0 ≤ pos) (h1 : pos ≤ 50000000) (hp : 1 ≤ p ∧ p ≤ 4) :
  ∃ (w h : Int) (d : List Int) (x y m a : Int) (hid : Bool) (q : Int), d.length ≤ 1024 ∧ pos ≤ q ∧ q ≤ pos + 3000 ∧ Ev (fun k => spec_randomLayer.f k b pos p) (w, h, p, d, x, y, m, a, hid, q) := by
 obtain ⟨w, h, d, q, _, _, _, _, _, _, hd, q1, q2, hr⟩ := randomImage_ev b pos p hb h0 (by omega) hp
 obtain ⟨v1, g1, _⟩ := pick_in b q 7 (by omega) hb (by omega) (by omega)
 obtain ⟨v2, g2, _⟩ := pick_in b (q + 1) 5 (by omega) hb (by omega) (by omega)
 obtain ⟨v3, g3, _⟩ := pick_in b (q + 1 + 1) 5 (by omega) hb (by omega) (by omega)
 obtain ⟨v4, g4, _⟩ := pick_in b (q + 1 + 1 + 1) 5 (by omega) hb (by omega) (by omega)
 obtain ⟨v5, g5, _⟩ := one_in b (q + 1 + 1 + 1 + 1) [255, 128, 0, 200] (by simp) (by simp) hb (by omega) (by omega)
 refine ⟨w, h, d, wrap64 (v1 - 3), wrap64 (v2 - 2), v3, v5, v4 == 0, q + 1 + 1 + 1 + 1 + 1, hd, by omega, by omega, ?_⟩
 unfold spec_randomLayer.f
 exact ev_bind hr (ev_bind g1 (ev_bind g2 (ev_bind g3 (ev_bind g4 (ev_bind g5 (Ev.now _))))))
theorem anyLayer_ev (b : List Int) (pos p : Int) (hb : Bytes b) (h0 : 0 ≤ pos) (h1 : pos ≤ 40000000) :
  ∃ (w h p' : Int) (d : List Int) (x y m a : Int) (hid : Bool) (q : Int), d.length ≤ 1024 ∧ pos ≤ q ∧ q ≤ pos + 10000 ∧ Ev (fun k => spec_anyLayer.f k b pos p) (w, h, p', d, x, y, m, a, hid, q) := by
 have hp : 1 ≤ mx 1 (mn p 4) ∧ mx 1 (mn p 4) ≤ 4 := by
  unfold mx mn
  split <;> split <;> omega
 obtain ⟨w, h, d, x, y, m, a, hid, q, hd, q1, q2, hr⟩ := randomLayer_ev b pos (mx 1 (mn p 4)) hb h0 (by omega) hp
 obtain ⟨v, g, _⟩ := pick_in b q 24 (by omega) hb (by omega) (by omega)
 unfold spec_anyLayer.f
 by_cases c0 : v = 0
 ·obtain ⟨z, gz, _⟩ := one_in b (q + 1) [(-1), 5] (by simp) (by simp) hb (by omega) (by omega)
  exact ⟨w, h, _, d, x, y, z, a, hid, q + 1 + 1, hd, by omega, by omega, ev_bind hr (ev_bind g (ev_pos c0 (ev_bind gz (Ev.now _))))⟩
 ·by_cases c1 : v = 1
  ·obtain ⟨z, gz, _⟩ := one_in b (q + 1) [(-1), 256] (by simp) (by simp) hb (by omega) (by omega)
   exact ⟨w, h, _, d, x, y, m, z, hid, q + 1 + 1, hd, by omega, by omega, ev_bind hr (ev_bind g (ev_neg c0 (ev_pos c1 (ev_bind gz (Ev.now _)))))⟩
  ·by_cases c2 : v = 2
   ·obtain ⟨z, gz, _⟩ := one_in b (q + 1) [(-16), (-17), 16, 17] (by simp) (by simp) hb (by omega) (by omega)
    exact ⟨w, h, _, d, z, y, m, a, hid, q + 1 + 1, hd, by omega, by omega, ev_bind hr (ev_bind g (ev_neg c0 (ev_neg c1 (ev_pos c2 (ev_bind gz (Ev.now _))))))⟩
   ·by_cases c3 : v = 3
    ·obtain ⟨w2, h2, p2, d2, q', hd2, q3, q4, hi⟩ := anyImage_ev b (q + 1) hb (by omega) (by omega)
     exact ⟨w2, h2, p2, d2, x, y, m, a, hid, q', hd2, by omega, by omega, ev_bind hr (ev_bind g (ev_neg c0 (ev_neg c1 (ev_neg c2 (ev_pos c3 (ev_bind hi (Ev.now _)))))))⟩
    ·exact ⟨w, h, _, d, x, y, m, a, hid, q + 1, hd, by omega, by omega, ev_bind hr (ev_bind g (ev_neg c0 (ev_neg c1 (ev_neg c2 (ev_neg c3 (Ev.now _))))))⟩

/- Rows of layers that are drawn from bytes. -/

abbrev LayD := S55
theorem anyLayers_loop (b : List Int) (hb : Bytes b) (p : Int) : ∀ (n : Nat) (l : List LayD) (pos : Int), n ≤ 7 → 0 ≤ pos → pos ≤ 400000 - 20000 * n → l.length + n ≤ 7 → (∀ s ∈ l, s.f0.f3.length ≤ 1024) →
  ∃ (l' : List LayD) (q : Int), l'.length ≤ 7 ∧ (∀ s ∈ l', s.f0.f3.length ≤ 1024) ∧ pos ≤ q ∧ q ≤ 400000 ∧ Ev (fun k => spec_anyLayers.l0 k p l (n : Int) b pos) (l', q) := by
 intro n
 induction n with
 | zero => exact fun l pos _ h0 h1 hl hs => ⟨l, pos, by omega, hs, by omega, by omega, Ev.step (f := fun _ => some (l, pos)) (fun k => by simp only [spec_anyLayers.l0]; rw [if_neg (by simp)]) (Ev.now _)⟩
 | succ n ih =>
  intro l pos hn h0 h1 hl hs
  have hp : 1 ≤ mx 1 (mn p 4) ∧ mx 1 (mn p 4) ≤ 4 := by
   unfold mx mn
   split <;> split <;> omega
  obtain ⟨w, h, d, x, y, m, a, hid, q, hd, q1, q2, hr⟩ := randomLayer_ev b pos (mx 1 (mn p 4)) hb h0 (by omega) hp
  obtain ⟨v, hv, v0, v1⟩ := pick_in b q 20 (by omega) hb (by omega) (by omega)
  have e1 : wrap64 (((n + 1 : Nat) : Int) - 1) = (n : Int) := by rw [w64 (by omega) (by omega)]; omega
  by_cases c : v = 0
  ·obtain ⟨w2, h2, p2, d2, x2, y2, m2, a2, hid2, q', hd2, q3, q4, hr2⟩ := anyLayer_ev b (q + 1) p hb (by omega) (by omega)
   obtain ⟨l', z, r1, r2, r3, r4, r5⟩ := ih (l ++ [(⟨⟨w2, h2, p2, d2⟩, x2, y2, m2, a2, hid2⟩ : LayD)]) q' (by omega) (by omega) (by omega) (by simp; omega) (fun s h => by
    rcases List.mem_append.1 h with h | h
    ·exact hs s h
    ·rw [List.mem_singleton.1 h]; exact hd2)
   refine ⟨l', z, r1, r2, by omega, r4, Ev.step (f := fun k => (spec_randomLayer.f k b pos (mx 1 (mn p 4))).bind fun u => (spec_reader_pick.f k b u.2.2.2.2.2.2.2.2.2 20).bind fun t => if t.1 = 0 then ((spec_anyLayer.f k b t.2 p).bind fun g => if l.length < 1599289640401 then spec_anyLayers.l0 k p (l ++ [(⟨⟨g.1, g.2.1, g.2.2.1, g.2.2.2.1⟩, g.2.2.2.2.1, g.2.2.2.2.2.1, g.2.2.2.2.2.2.1, g.2.2.2.2.2.2.2.1, g.2.2.2.2.2.2.2.2.1⟩ : LayD)]) (n : Int) b g.2.2.2.2.2.2.2.2.2 else none) else (if l.length < 1599289640401 then spec_anyLayers.l0 k p (l ++ [(⟨⟨u.1, u.2.1, u.2.2.1, u.2.2.2.1⟩, u.2.2.2.2.1, u.2.2.2.2.2.1, u.2.2.2.2.2.2.1, u.2.2.2.2.2.2.2.1, u.2.2.2.2.2.2.2.2.1⟩ : LayD)]) (n : Int) b t.2 else none)) (fun k => ?_) (ev_bind hr (ev_bind hv (ev_pos c (ev_bind hr2 (ev_pos (by omega) r5)))))⟩
   simp only [spec_anyLayers.l0]
   rw [if_pos (by omega), e1]
  ·obtain ⟨l', z, r1, r2, r3, r4, r5⟩ := ih (l ++ [(⟨⟨w, h, mx 1 (mn p 4), d⟩, x, y, m, a, hid⟩ : LayD)]) (q + 1) (by omega) (by omega) (by omega) (by simp; omega) (fun s h => by
    rcases List.mem_append.1 h with h | h
    ·exact hs s h
    ·rw [List.mem_singleton.1 h]; exact hd)
   refine ⟨l', z, r1, r2, by omega, r4, Ev.step (f := fun k => (spec_randomLayer.f k b pos (mx 1 (mn p 4))).bind fun u => (spec_reader_pick.f k b u.2.2.2.2.2.2.2.2.2 20).bind fun t => if t.1 = 0 then ((spec_anyLayer.f k b t.2 p).bind fun g => if l.length < 1599289640401 then spec_anyLayers.l0 k p (l ++ [(⟨⟨g.1, g.2.1, g.2.2.1, g.2.2.2.1⟩, g.2.2.2.2.1, g.2.2.2.2.2.1, g.2.2.2.2.2.2.1, g.2.2.2.2.2.2.2.1, g.2.2.2.2.2.2.2.2.1⟩ : LayD)]) (n : Int) b g.2.2.2.2.2.2.2.2.2 else none) else (if l.length < 1599289640401 then spec_anyLayers.l0 k p (l ++ [(⟨⟨u.1, u.2.1, u.2.2.1, u.2.2.2.1⟩, u.2.2.2.2.1, u.2.2.2.2.2.1, u.2.2.2.2.2.2.1, u.2.2.2.2.2.2.2.1, u.2.2.2.2.2.2.2.2.1⟩ : LayD)]) (n : Int) b t.2 else none)) (fun k => ?_) (ev_bind hr (ev_bind hv (ev_neg c (ev_pos (by omega) r5))))⟩
   simp only [spec_anyLayers.l0]
   rw [if_pos (by omega), e1]
theorem drawLayers (code : List Int) (hw : ∀ x ∈ code, (Lit.int .u8 x).wf = true) : ∃ (w h p : Int) (d : List Int) (l : List LayD), d.length ≤ 1024 ∧ l.length ≤ 7 ∧ (∀ s ∈ l, s.f0.f3.length ≤ 1024) ∧ Ev (fun k => spec_DrawFlattenLayers.f k code) (w, h, p, d, l) := by
 obtain ⟨b, hb, hB⟩ := newReader_at code (code_bytes code hw)
 obtain ⟨w, h, p, d, q, hd, q1, q2, he⟩ := anyImage_ev b 0 hB (by omega) (by omega)
 obtain ⟨v, hv, hm⟩ := one_in b q [1, 2, 3, 0, 6, 7] (by simp) (by simp) hB (by omega) (by omega)
 have hn : 0 ≤ v ∧ v ≤ 7 := by simp at hm; omega
 obtain ⟨n, rfl⟩ := Int.eq_ofNat_of_zero_le hn.1
 obtain ⟨l', q', r1, r2, _, _, r3⟩ := anyLayers_loop b hB p n [] (q + 1) (by omega) (by omega) (by omega) (by simp; omega) (fun s h => by simp at h)
 refine ⟨w, h, p, d, l', hd, r1, r2, ?_⟩
 unfold spec_DrawFlattenLayers.f spec_anyLayers.f
 exact ev_now hb (ev_bind he (ev_bind (ev_bind hv r3) (Ev.now _)))

/- Lists of numbers and images, compared one by one. -/

theorem equalIntsC (l m : List Int) (hl : l.length ≤ 1000000) : Ev (fun k => laws_equalInts.f k l m) (decide (l = m)) := by
 unfold laws_equalInts.f
 by_cases hn : l.length = m.length
 ·have key := ev_up l.length (fun k i (_ : Unit) => laws_equalInts.l0 k l m (i : Int)) (fun _ _ => True) (fun i _ => decide (l.drop i = m.drop i))
   (by
    intro i s hi _
    have e1 := List.drop_eq_getElem_cons hi
    have e2 := List.drop_eq_getElem_cons (show i < m.length by omega)
    by_cases c : l[i] = m[i]'(by omega)
    ·refine .inr ⟨(), fun k => ?_, trivial, ?_⟩
     ·simp only [laws_equalInts.l0]
      rw [if_pos (by omega), if_pos (by omega), if_pos (by omega), rd_nat l i hi, rd_nat m i (by omega), if_pos c, w64n i (by omega)]
     ·rw [e1, e2, decide_eq_decide, List.cons.injEq]
      exact ⟨fun h => ⟨c, h⟩, fun h => h.2⟩
    ·left
     rw [e1, e2, decide_eq_false (by rw [List.cons.injEq]; exact fun h => c h.1)]
     refine Ev.step (f := fun _ => some false) (fun k => ?_) (Ev.now _)
     simp only [laws_equalInts.l0]
     rw [if_pos (by omega), if_pos (by omega), if_pos (by omega), rd_nat l i hi, rd_nat m i (by omega), if_neg c])
   (by
    intro s _
    refine Ev.step (f := fun _ => some true) (fun k => ?_) (ev_const (by rw [List.drop_length, hn, List.drop_length]; rfl))
    simp only [laws_equalInts.l0]
    rw [if_neg (by omega)])
   l.length 0 () (by omega) trivial
  exact ev_pos (by omega) (by simpa using key)
 ·refine ev_neg (by omega) ?_
  rw [decide_eq_false (fun h => hn (by rw [h]))]
  exact Ev.now _
theorem equalImage_ev (a b p : Int) (d : List Int) (a' b' p' : Int) (d' : List Int) (hl : d.length ≤ 1000000) : Ev (fun k => laws_equalImage.f k a b p d a' b' p' d') (decide (a = a' ∧ b = b' ∧ p = p' ∧ d = d')) := by
 unfold laws_equalImage.f
 by_cases c1 : a = a'
 ·refine ev_pos c1 ?_
  by_cases c2 : b = b'
  ·refine ev_pos c2 ?_
   by_cases c3 : p = p'
   ·refine ev_pos c3 ?_
    rw [decide_eq_decide.2 (show (a = a' ∧ b = b' ∧ p = p' ∧ d = d') ↔ d = d' from ⟨fun h => h.2.2.2, fun h => ⟨c1, c2, c3, h⟩⟩)]
    exact ev_bind (equalIntsC d d' hl) (Ev.now _)
   ·refine ev_neg c3 ?_
    rw [decide_eq_false (fun h => c3 h.2.2.1)]
    exact Ev.now _
  ·refine ev_neg c2 ?_
   rw [decide_eq_false (fun h => c2 h.2.1)]
   exact Ev.now _
 ·refine ev_neg c1 ?_
  rw [decide_eq_false (fun h => c1 h.1)]
  exact Ev.now _

/- Layers cover one after the other: the law FnFlattenLayers over lists of numbers alone. -/

theorem cover_is {a b p : Int} {d : List Int} {l : Lay} (hv : validI a b p d = true) (ho : okL p l = true) : coverV a b p d l.f0.f0 l.f0.f1 l.f0.f2 l.f0.f3 l.f1 l.f2 l.f3 l.f4 = (a, b, p, covD a b p d l, true) := by
 unfold coverV covD
 rw [if_pos ⟨hv, ho⟩]
theorem law_loop (ls : List Lay) (hl : ls.length ≤ 1000) (a b p : Int) (D : List Int) : ∀ (n i : Nat) (d : List Int), i + n = ls.length → validI a b p d = true → ls.all (okL p) = true → flatD a b p d (ls.drop i) = D →
  Ev (fun k => laws_FnFlattenLayers.l0 k ls (i : Int) a b p D a b p d) true
 | 0, i, d, hi, hv, ho, hD => by
  rw [List.drop_of_length_le (by omega)] at hD
  obtain rfl : d = D := hD
  have heq := ev_val (equalImage_ev a b p d a b p d (by have := valid_le hv; omega)) (decide_eq_true ⟨rfl, rfl, rfl, rfl⟩)
  refine Ev.step (f := fun k => (laws_equalImage.f k a b p d a b p d).bind fun t => some t) (fun k => ?_) (ev_bind heq (Ev.now _))
  simp only [laws_FnFlattenLayers.l0]
  rw [if_neg (by omega)]
 | n + 1, i, d, hi, hv, ho, hD => by
  have hlt : i < ls.length := by omega
  have hok : okL p ls[i] = true := List.all_eq_true.1 ho _ (List.getElem_mem hlt)
  rw [dropL ls i hlt, flatD] at hD
  have ih := law_loop ls hl a b p D n (i + 1) (onD a b p d ls[i]) (by omega) (onD_valid hv hok) ho hD
  unfold onD at ih
  by_cases c : ls[i].f5 = true
  ·rw [if_pos c] at ih
   refine Ev.step (fun k => ?_) ih
   simp only [laws_FnFlattenLayers.l0]
   rw [if_pos (by omega), if_pos (by omega), rdL_nat ls i hlt, if_pos c, w64n i (by omega)]
  ·rw [if_neg c] at ih
   have hI := impl_CoverImage_eq a b p d ls[i].f0.f0 ls[i].f0.f1 ls[i].f0.f2 ls[i].f0.f3 ls[i].f1 ls[i].f2 ls[i].f3 ls[i].f4 ls[i].f5
   rw [cover_is hv hok] at hI
   refine Ev.step (f := fun k => (impl_CoverImage.f a b p d ls[i].f0.f0 ls[i].f0.f1 ls[i].f0.f2 ls[i].f0.f3 ls[i].f1 ls[i].f2 ls[i].f3 ls[i].f4 ls[i].f5).bind fun t => if t.2.2.2.2 = true then laws_FnFlattenLayers.l0 k ls ((i + 1 : Nat) : Int) a b p D t.1 t.2.1 t.2.2.1 t.2.2.2.1 else some false) (fun k => ?_) (ev_now hI (ev_pos rfl ih))
   simp only [laws_FnFlattenLayers.l0]
   rw [if_pos (by omega), if_pos (by omega), rdL_nat ls i hlt, if_neg c, w64n i (by omega)]
theorem FnFlattenLayers : laws_FnFlattenLayers.Pure := by
 intro code _ _ hw
 apply Ev.rounds
 unfold laws_FnFlattenLayers.f
 by_cases c : (code.length : Int) > 1048576
 ·exact ev_pos c (Ev.now true)
 refine ev_neg c ?_
 obtain ⟨w, h, p, d, ls, hdl, hll, hpl, hd⟩ := drawLayers code hw
 have hI := impl_FlattenLayers_ev w h p d ls
 have hS := spec_FlattenLayers_ev w h p d ls (by omega) (by omega) (fun s hs => by have := hpl s hs; omega)
 have hVl := flatV_len w h p d ls
 by_cases hg : validI w h p d = true ∧ ls.length ≤ 6 ∧ ls.all (okL p) = true
 ·have he : flatV w h p d ls = (w, h, p, flatD w h p d ls, true) := by unfold flatV; rw [if_pos hg]
  have hloop := law_loop ls (by omega) w h p (flatD w h p d ls) ls.length 0 d (by omega) hg.1 hg.2.2 (by rw [List.drop_zero])
  rw [he] at hI hS hVl
  have hVl : (flatD w h p d ls).length ≤ 1024 := hVl
  generalize flatD w h p d ls = D at hI hS hVl hloop
  have heq := ev_val (equalImage_ev w h p D w h p D (by omega)) (decide_eq_true ⟨rfl, rfl, rfl, rfl⟩)
  refine ev_bind hd (ev_bind hI (ev_bind hS (ev_bind heq (ev_pos rfl (ev_neg (by simp) ?_)))))
  refine Ev.step (f := fun k => laws_FnFlattenLayers.l0 k ls 0 w h p D w h p d) (fun k => ?_) hloop
  simp only [laws_FnFlattenLayers.j0, Bool.not_true]
  rw [if_neg (by simp)]
 ·have he : flatV w h p d ls = (0, 0, 0, [], false) := by unfold flatV; rw [if_neg hg]
  rw [he] at hI hS
  have heq := ev_val (equalImage_ev 0 0 0 [] 0 0 0 [] (by simp)) (decide_eq_true ⟨rfl, rfl, rfl, rfl⟩)
  refine ev_bind hd (ev_bind hI (ev_bind hS (ev_bind heq (ev_pos rfl (ev_neg (by simp) ?_)))))
  refine Ev.step (f := fun k => (laws_equalImage.f k 0 0 0 [] 0 0 0 []).bind fun t => if t = true then some (false == false) else some false) (fun k => ?_) (ev_bind heq (ev_pos rfl (ev_const rfl)))
  simp only [laws_FnFlattenLayers.j0, Bool.not_false]
  rw [if_pos trivial]
end Go.Proofs.Ytnofkbbcbpjhfaa.Pure

/- The head of the translation reads as a plain cut. -/
namespace Go.Proofs.Ytnofkbbcbpjhfaa.Head
set_option maxRecDepth 100000
theorem wordsSigns_word (w r : List Char) (h : w.all (fun c => !(c == Char.ofNat 32)) = true) : wordsSigns (w ++ Char.ofNat 32 :: r) = w :: wordsSigns r := by
  induction w with
  | nil => rfl
  | cons c w ih =>
    simp only [List.all_cons, Bool.and_eq_true, Bool.not_eq_true', beq_eq_false_iff_ne, ne_eq] at h
    have h1 := ih (by simpa using h.2)
    rw [List.cons_append, wordsSigns.eq_3 c _ h.1, h1]
def w1 : List Char := [104, 97, 114, 110, 101, 115, 115].map Char.ofNat
def w2 : List Char := [98, 98, 56, 56, 48, 50, 51, 48, 99, 56, 98, 97, 54, 51, 51, 51, 48, 101, 54, 53, 56, 97, 98, 51, 97, 51, 99, 100, 54, 102, 98, 98, 55, 101, 51, 50, 99, 48, 56, 52, 55, 54, 49, 49, 100, 50, 51, 56, 55, 100, 54, 48, 49, 99, 100, 97, 51, 102, 50, 98, 48, 57, 53, 101].map Char.ofNat
def w3 : List Char := [99, 117, 116].map Char.ofNat
def w4 : List Char := [97, 116, 32, 108, 111, 111, 112, 46, 101, 120, 97, 109, 112, 108, 101, 47, 112, 105, 120, 101, 108, 119, 111, 114, 107, 115, 47, 108, 97, 119, 115, 46, 70, 110, 69, 120, 97, 99, 116, 71, 97, 112, 79, 102, 32, 108, 111, 111, 112, 46, 101, 120, 97, 109, 112, 108, 101, 47, 112, 105, 120, 101, 108, 119, 111, 114, 107, 115, 47, 108, 97, 119, 115, 46, 70, 110, 71, 97, 112, 79, 102, 32, 108, 111, 111, 112, 46, 101, 120, 97, 109, 112, 108, 101, 47, 112, 105, 120, 101, 108, 119, 111, 114, 107, 115, 47, 108, 97, 119, 115, 46, 70, 110, 69, 120, 97, 99, 116, 84, 105, 108, 101, 66, 111, 120, 101, 115, 32, 108, 111, 111, 112, 46, 101, 120, 97, 109, 112, 108, 101, 47, 112, 105, 120, 101, 108, 119, 111, 114, 107, 115, 47, 108, 97, 119, 115, 46, 70, 110, 84, 105, 108, 101, 66, 111, 120, 101, 115, 32, 108, 111, 111, 112, 46, 101, 120, 97, 109, 112, 108, 101, 47, 112, 105, 120, 101, 108, 119, 111, 114, 107, 115, 47, 108, 97, 119, 115, 46, 70, 110, 69, 120, 97, 99, 116, 68, 105, 114, 116, 121, 84, 105, 108, 101, 115, 32, 108, 111, 111, 112, 46, 101, 120, 97, 109, 112, 108, 101, 47, 112, 105, 120, 101, 108, 119, 111, 114, 107, 115, 47, 108, 97, 119, 115, 46, 70, 110, 68, 105, 114, 116, 121, 84, 105, 108, 101, 115, 32, 108, 111, 111, 112, 46, 101, 120, 97, 109, 112, 108, 101, 47, 112, 105, 120, 101, 108, 119, 111, 114, 107, 115, 47, 108, 97, 119, 115, 46, 70, 110, 69, 120, 97, 99, 116, 77, 101, 114, 103, 101, 80, 108, 97, 110, 101, 115, 32, 108, 111, 111, 112, 46, 101, 120, 97, 109, 112, 108, 101, 47, 112, 105, 120, 101, 108, 119, 111, 114, 107, 115, 47, 108, 97, 119, 115, 46, 70, 110, 69, 120, 97, 99, 116, 67, 111, 118, 101, 114, 73, 109, 97, 103, 101, 32, 108, 111, 111, 112, 46, 101, 120, 97, 109, 112, 108, 101, 47, 112, 105, 120, 101, 108, 119, 111, 114, 107, 115, 47, 108, 97, 119, 115, 46, 70, 110, 67, 111, 118, 101, 114, 73, 109, 97, 103, 101, 32, 108, 111, 111, 112, 46, 101, 120, 97, 109, 112, 108, 101, 47, 112, 105, 120, 101, 108, 119, 111, 114, 107, 115, 47, 108, 97, 119, 115, 46, 70, 110, 69, 120, 97, 99, 116, 70, 108, 97, 116, 116, 101, 110, 76, 97, 121, 101, 114, 115, 32, 108, 111, 111, 112, 46, 101, 120, 97, 109, 112, 108, 101, 47, 112, 105, 120, 101, 108, 119, 111, 114, 107, 115, 47, 108, 97, 119, 115, 46, 70, 110, 70, 108, 97, 116, 116, 101, 110, 76, 97, 121, 101, 114, 115, 32, 108, 111, 111, 112, 46, 101, 120, 97, 109, 112, 108, 101, 47, 112, 105, 120, 101, 108, 119, 111, 114, 107, 115, 47, 108, 97, 119, 115, 46, 70, 110, 70, 108, 97, 116, 116, 101, 110, 76, 97, 121, 101, 114, 115, 72, 105, 100, 100, 101, 110, 32, 108, 111, 111, 112, 46, 101, 120, 97, 109, 112, 108, 101, 47, 112, 105, 120, 101, 108, 119, 111, 114, 107, 115, 47, 108, 97, 119, 115, 46, 70, 110, 69, 120, 97, 99, 116, 80, 97, 116, 99, 104, 73, 109, 97, 103, 101, 32, 108, 111, 111, 112, 46, 101, 120, 97, 109, 112, 108, 101, 47, 112, 105, 120, 101, 108, 119, 111, 114, 107, 115, 47, 108, 97, 119, 115, 46, 70, 110, 80, 97, 116, 99, 104, 73, 109, 97, 103, 101, 84, 119, 105, 99, 101, 32, 108, 111, 111, 112, 46, 101, 120, 97, 109, 112, 108, 101, 47, 112, 105, 120, 101, 108, 119, 111, 114, 107, 115, 47, 108, 97, 119, 115, 46, 70, 110, 69, 120, 97, 99, 116, 82, 101, 100, 114, 97, 119, 84, 105, 108, 101, 115, 32, 108, 111, 111, 112, 46, 101, 120, 97, 109, 112, 108, 101, 47, 112, 105, 120, 101, 108, 119, 111, 114, 107, 115, 47, 108, 97, 119, 115, 46, 70, 110, 82, 101, 100, 114, 97, 119, 68, 105, 114, 116, 121, 32, 108, 111, 111, 112, 46, 101, 120, 97, 109, 112, 108, 101, 47, 112, 105, 120, 101, 108, 119, 111, 114, 107, 115, 47, 108, 97, 119, 115, 46, 70, 110, 82, 101, 100, 114, 97, 119, 84, 105, 108, 101, 115].map Char.ofNat
theorem signs0 : Try.prog.initOrder = String.ofList (w1 ++ Char.ofNat 32 :: (w2 ++ Char.ofNat 32 :: (w3 ++ Char.ofNat 32 :: w4))) := by kernel_rfl
theorem behind : behindMainWord (wordsSigns Try.prog.initOrder.toList) = w3 :: wordsSigns w4 := by
  rw [signs0, String.toList_ofList, wordsSigns_word w1 _ (by kernel_rfl), wordsSigns_word w2 _ (by kernel_rfl), wordsSigns_word w3 _ (by kernel_rfl)]
  unfold behindMainWord
  dsimp only
  rw [if_pos (by kernel_rfl)]
theorem strip_cut (R : List (List Char)) : stripLifts liftWords (w3 :: R) = ([], w3 :: R) := by kernel_rfl
theorem mayEnter_of (P : Program) (R : List (List Char)) (h : behindMainWord (wordsSigns P.initOrder.toList) = w3 :: R) (h1 : P.laysLater = false) (h2 : P.bearsReflect = false) (h3 : P.doorFits [] = true) : P.mayEnter = true := by
  unfold Program.mayEnter
  rw [h]
  dsimp only
  rw [strip_cut, h1, h2, h3]
  kernel_rfl
theorem liftsFinal_of (P : Program) (R : List (List Char)) (h : behindMainWord (wordsSigns P.initOrder.toList) = w3 :: R) : P.liftsFinal = false := by
  unfold Program.liftsFinal Program.headLifts
  rw [h]
  dsimp only
  rw [strip_cut]
  kernel_rfl
theorem make_of (P : Program) (R : List (List Char)) (h : behindMainWord (wordsSigns P.initOrder.toList) = w3 :: R) : P.make = some .cut := by
  unfold Program.make
  rw [h]
  kernel_rfl
theorem mayEnter : Try.prog.mayEnter = true := mayEnter_of _ _ behind (by kernel_rfl) (by kernel_rfl) (by kernel_rfl)
theorem liftsFinal : Try.prog.liftsFinal = false := liftsFinal_of _ _ behind
theorem make : Try.prog.make = some .cut := make_of _ _ behind
end Go.Proofs.Ytnofkbbcbpjhfaa.Head

-- PRINTED by print.py: the row of the law laws_FnFlattenLayers, out of its Pure (the session's) and the printed walk. Not trusted: Lean checks it.
namespace Go.Proofs.Ytnofkbbcbpjhfaa.fnFlattenLayers
open Go.ChangeShapes Go.WideShapes Go.ChangeAt Go.RowKit
open Go.ChangeMaps (open_string shut_string)
set_option linter.unusedVariables false
theorem own : ownKnob Try.prog.godebug = none := by kernel_rfl
theorem laidOut : laidOutB Try.prog = true := by kernel_rfl
def IsRow (k : IntKind) (w : World) (a : Option Addr) (len cap : Nat) (zs : List Int) : Prop :=
  (a = none ∧ len = 0 ∧ cap = 0 ∧ zs = []) ∨
  ∃ x, a = some x ∧ len ≤ cap ∧ cap ≤ maxLen ∧ zs.length = cap ∧ (∀ i, i < zs.length → w.cell? (x.add i) = some (.int k (zs.getD i 0))) ∧ ∀ n ∈ zs, (Lit.int k n).wf = true
set_option maxRecDepth 100000 in
theorem lifted (os : Os) (started : os.Started) (H : Type) (enc : TypeId × Value → H) :
    ReturnsInHanded {} Try.checked os 13 .any (Rows.fnFlattenLayersSpec.pre6 enc Try.prog Try.f13 Rows.fnFlattenLayersRow.domain false) (Rows.fnFlattenLayersSpec.post enc Try.prog Try.f13 false true false false) := by
  refine returnsInHanded_of_change_sized (C := Try.checked) own started (by kernel_rfl) Try.func13
    (ChangeSpec.witness6 (enc := enc) (C := Try.checked) false ⟨#[], #[.slice none 0 0], []⟩ 8 (by kernel_rfl) (by kernel_rfl) (by kernel_rfl) (by kernel_rfl)) ?_
  intro W base args ds gs before hval0 hW hcnd hsz0 _
  have hsz : (DataW.weightsEach Try.prog (Try.f13.params.toList ++ Rows.fnFlattenLayersSpec.plain.varTypes Try.prog) (ds ++ gs)).all (· ≤ reachBytes) = true := hsz0
  have hval : ∀ (j : Nat) t v, Try.f13.params[j]? = some t → args[j]? = some v → Value.okWide Try.prog W .any base t v := hval0
  have hW' := hW
  obtain ⟨p, q, hA0, hV, rfl, hfz, hnd⟩ := hW
  have hA : DataW.TrodAll enc Try.prog W 0 (fun _ => true) true Try.f13.params.toList args.toList ds p := hA0
  rw [Try.params13] at hA hval hsz
  obtain ⟨v0, vs0, d0, ds0, p0, q0, hargs, rfl, rfl, h0, r0⟩ := trodAll_cons hA
  obtain ⟨rfl, rfl, rfl⟩ := trodAll_nil r0
  obtain rfl : args = #[v0] := by cases args; simp_all
  obtain ⟨rfl, rfl⟩ := trodVars_none hV
  obtain ⟨a0, len0, cap0, rfl⟩ := okWide_slice Try.underlying31 (hval 0 31 v0 rfl rfl)
  have k0 := h0
  have lt0 : ∀ x ∈ p0, x.block < W.heap.size := by obtain ⟨m, hm⟩ := k0; exact DataW.trod_lt m _ _ _ hm
  obtain ⟨z0, w0⟩ : ∃ zs, IsRow .u8 W a0 len0 cap0 zs := by
    obtain ⟨fuel, hf⟩ := h0
    rcases open_ints Try.underlying31 Try.underlying5 (by kernel_rfl) hf with ⟨hcs, _⟩ | ⟨x, l, c, zs, hcs, _, hl, hm, hz, _, hcell, hwz⟩
    · simp [Value.cells] at hcs
      obtain ⟨rfl, rfl, rfl⟩ := hcs
      exact ⟨[], .inl ⟨rfl, rfl, rfl, rfl⟩⟩
    · simp [Value.cells] at hcs
      obtain ⟨rfl, rfl, rfl⟩ := hcs
      exact ⟨zs, .inr ⟨_, rfl, hl, hm, by simpa using hz, hcell, hwz⟩⟩
  have y0 : len0 * 1 ≤ 140737488351232 := Go.Proofs.YtnofkbbcbpjhfaaW.PrintWords.sized_ints hsz (j := 0) (t := 31) rfl rfl Try.underlying31 Try.underlying5 (by kernel_rfl) (by kernel_rfl) h0
  clear hA0 hval0 hsz0 hsz
  refine (Q.laws_FnFlattenLayers.walk Pure.FnFlattenLayers a0 len0 cap0 z0 W w0 y0).mono fun e W' ⟨he, bel⟩ => ?_
  subst he
  exact ⟨_, rfl, _, _, _, [], _, [], hW', trodAll_mk1 (shut_bool Try.underlying4 _), (trodAll_cons_mk (Below.trod laidOut (by kernel_rfl) (of_decide_eq_true (by kernel_rfl)) k0 bel lt0) trodAll_mk0), rfl, bel.frame _, fun h => by cases h⟩
set_option maxHeartbeats 4000000 in
theorem closed : joinedFacts Try.prog 13 Try.f13 Rows.fnFlattenLayersSpec Rows.fnFlattenLayersRow = true := by
  unfold joinedFacts
  rw [Head.mayEnter, Head.liftsFinal, Head.make]
  simp only [Bool.and_eq_true]
  repeat' apply And.intro
  all_goals first | exact True.intro | (as_aux_lemma => kernel_rfl)
theorem over : Rows.fnFlattenLayersRow.holds Try.pinned (OpenSpec.ofChange Rows.fnFlattenLayersSpec) :=
  OpenClaim.holds_of_wide 13 Try.f13 rfl rfl rfl rfl rfl rfl rfl ⟨rfl, rfl, rfl, rfl, rfl⟩ rfl rfl rfl rfl rfl (by kernel_rfl) Try.func13 closed
    (of_decide_eq_true (by kernel_rfl)) (by unfold Func.isWrapper; first | (rw [if_pos (by decide +kernel)]; kernel_rfl) | (rw [if_neg (by decide +kernel)]; exact ⟨rfl, rfl⟩))
    (fun os started H enc _ => lifted os started H enc)
theorem proved : Rows.FnFlattenLayersSaid := over
#print axioms proved
end Go.Proofs.Ytnofkbbcbpjhfaa.fnFlattenLayers
namespace Go.Proofs.Ytnofkbbcbpjhfaa
/-- The row, under a short name, for the claim. -/
theorem fnFlattenLayers_holds : Rows.FnFlattenLayersSaid := fnFlattenLayers.proved
end Go.Proofs.Ytnofkbbcbpjhfaa
