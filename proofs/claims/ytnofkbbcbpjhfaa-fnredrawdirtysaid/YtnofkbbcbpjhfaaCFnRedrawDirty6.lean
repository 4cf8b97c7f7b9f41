/- A part of the proof that the statement FnRedrawDirtySaid holds, under no condition of its own: Only dirty tiles need to be redrawn: the law FnRedrawDirty over lists of numbers alone. -/
import Derived.Test.YtnofkbbcbpjhfaaCFnRedrawDirty5
import Derived.Test.YtnofkbbcbpjhfaaCFnRedrawDirty2
import Derived.Test.YtnofkbbcbpjhfaaCFnRedrawDirty3
import Derived.Test.YtnofkbbcbpjhfaaCFnRedrawDirty4
import Derived.Test.YtnofkbbcbpjhfaaCFnRedrawDirty1
import Derived.Test.YtnofkbbcbpjhfaaRows
import Derived.JoinedOf
import Derived.KernelRfl
import Derived.WalkKit
import Derived.ProofKit
import Derived.OpenShut
import Derived.ShutString
import Derived.ChangeOld
import Derived.Below
import Derived.SizedLaws
import Derived.Test.YtnofkbbcbpjhfaaCFnRedrawDirtyW1
/- What the laws of redrawn tiles want. -/
namespace Go.Proofs.Ytnofkbbcbpjhfaa.Pure
open Go.RowKit Go.Proofs.Ytnofkbbcbpjhfaa.Q Go.Proofs.YtnofkbbcbpjhfaaW.PrintWords Go.Proofs.YtnofkbbcbpjhfaaW.PrintLast Go.Proofs.YtnofkbbcbpjhfaaW.PrintMore
set_option linter.unusedVariables false
set_option linter.unusedSimpArgs false

theorem tile_at {an bn x y : Nat} (h1 : 1 ≤ an ∧ an ≤ 16) (h2 : 1 ≤ bn ∧ bn ≤ 16) (hx : x < an) (hy : y < bn) : ∃ t, t < colsOf an * colsOf bn ∧ inBx (tileN an bn t) x y = true := by
 have hc : x / 4 < colsOf an := by unfold colsOf; omega
 have hr : y / 4 < colsOf bn := by unfold colsOf; omega
 refine ⟨y / 4 * colsOf an + x / 4, ?_, ?_⟩
 ·have h := Nat.mul_le_mul_right (colsOf an) (show y / 4 + 1 ≤ colsOf bn from hr)
  rw [Nat.add_mul, Nat.one_mul] at h
  rw [Nat.mul_comm (colsOf an) (colsOf bn)]
  omega
 ·rw [tileN_at an bn (y / 4) (x / 4) hc]
  have m1 : (x : Int) < ((x / 4 * 4 : Nat) : Int) + mn 4 ((an : Int) - ((x / 4 * 4 : Nat) : Int)) := by unfold mn; split <;> omega
  have m2 : (y : Int) < ((y / 4 * 4 : Nat) : Int) + mn 4 ((bn : Int) - ((y / 4 * 4 : Nat) : Int)) := by unfold mn; split <;> omega
  unfold inBx
  exact decide_eq_true ⟨show ((x / 4 * 4 : Nat) : Int) ≤ (x : Int) by omega, m1, show ((y / 4 * 4 : Nat) : Int) ≤ (y : Int) by omega, m2⟩
theorem patch_full {an bn pn : Nat} {d D : List Int} (hd : d.length = (bn * an) * pn) (hD : D.length = (bn * an) * pn) {l : List Bxx} (h : ∀ x y, x < an → y < bn → l.any (fun r => inBx r x y) = true ∨ nx pn d (y * an + x) = nx pn D (y * an + x)) : imgD (patchPx an pn d D l) an bn = D := by
 have hlen := patchPx_len hd hD l
 refine ext_img (imgD_length hlen) hD (fun x y hx hy => ?_)
 rw [nx_imgD hlen hx hy]
 unfold patchPx
 by_cases c : l.any (fun r => inBx r x y) = true
 ·rw [if_pos c]
 ·rw [if_neg c]
  exact (h x y hx hy).resolve_left c
theorem box_any {an bn : Nat} {ts : List Int} {t : Nat} {x y : Nat} (hm : (t : Int) ∈ ts) (h : inBx (tileN an bn t) x y = true) : (boxesT an bn ts).any (fun r => inBx r x y) = true := by
 refine List.any_eq_true.2 ⟨tileN an bn t, List.mem_map.2 ⟨(t : Int), hm, ?_⟩, h⟩
 unfold boxT
 rw [Int.toNat_natCast]

/- The reader of draws: whatever the code's bytes are, it answers, in range. -/

/-- What a reader reads from: at most 2000 bytes. -/
def Bytes (b : List Int) : Prop := b.length ≤ 2000 ∧ ∀ x ∈ b, 0 ≤ x ∧ x ≤ 255
theorem Bytes.rd_ {b : List Int} (h : Bytes b) (i : Int) : 0 ≤ rd b i ∧ rd b i ≤ 255 := by
  unfold rd
  by_cases c : i.toNat < b.length
  · rw [List.getD_eq_getElem?_getD, List.getElem?_eq_getElem c]; exact h.2 _ (List.getElem_mem c)
  · rw [List.getD_eq_getElem?_getD, List.getElem?_eq_none (by omega)]; simp
theorem xor_nn (a b : Int) (ha : 0 ≤ a) (ha' : a < 4611686018427387904) (hb : 0 ≤ b) (hb' : b < 4611686018427387904) : 0 ≤ Go.bits .xor .i64 a b := by
  obtain ⟨a, rfl⟩ := Int.eq_ofNat_of_zero_le ha
  obtain ⟨b, rfl⟩ := Int.eq_ofNat_of_zero_le hb
  have ha2 : a < 2 ^ 62 := by have : (2 : Nat) ^ 62 = 4611686018427387904 := by decide +kernel
                              omega
  have hb2 : b < 2 ^ 62 := by have : (2 : Nat) ^ 62 = 4611686018427387904 := by decide +kernel
                              omega
  have e64 : IntKind.bits .i64 = 64 := rfl
  have hx := Nat.xor_lt_two_pow ha2 hb2
  have h62 : (2 : Nat) ^ 62 = 4611686018427387904 := by decide +kernel
  have h64 : (2 : Nat) ^ 64 = 18446744073709551616 := by decide +kernel
  simp only [Go.bits, BitVec.ofInt_natCast, BitVec.toNat_xor, BitVec.toNat_ofNat, e64]
  rw [Nat.mod_eq_of_lt (by omega), Nat.mod_eq_of_lt (by omega), IntKind.wrap_i64]
  generalize a ^^^ b = z at *
  omega
theorem tmod_range (x n : Int) (hx : 0 ≤ x) (hn : 1 ≤ n) : 0 ≤ Int.tmod x n ∧ Int.tmod x n < n := by
  rw [tmod_nn _ _ hx]
  exact ⟨Int.emod_nonneg _ (by omega), Int.emod_lt_of_pos _ (by omega)⟩
theorem pick_at (b : List Int) (p n : Int) (hb : Bytes b) (hp0 : 0 ≤ p) (hp : p ≤ 1000000000000) :
    ∃ v, (∀ k, 0 < k → spec_reader_pick.f k b p n = some (v, p + 1)) ∧ 0 ≤ v ∧ (1 ≤ n → v < n) ∧ (n < 1 → v = 0) := by
  by_cases hn : n < 1
  · refine ⟨0, fun k hk => ?_, by omega, by omega, fun _ => rfl⟩
    obtain ⟨k, rfl⟩ : ∃ m, k = m + 1 := ⟨k - 1, by omega⟩
    unfold spec_reader_pick.f
    rw [if_pos hn, w64 (by omega) (by omega)]
    simp only [spec_reader_pick.j0, if_true]
  by_cases he : b.length = 0
  · refine ⟨0, fun k hk => ?_, by omega, by omega, fun _ => rfl⟩
    obtain ⟨k, rfl⟩ : ∃ m, k = m + 1 := ⟨k - 1, by omega⟩
    unfold spec_reader_pick.f
    rw [if_neg hn, w64 (by omega) (by omega)]
    simp only [spec_reader_pick.j0, he]; simp
  have hlen := hb.1
  by_cases hlt : p < (b.length : Int)
  · have hr := hb.rd_ p
    have ht := tmod_range (rd b p) n hr.1 (by omega)
    refine ⟨Int.tmod (rd b p) n, fun k hk => ?_, ht.1, fun _ => ht.2, by omega⟩
    obtain ⟨k, rfl⟩ : ∃ m, k = m + 1 := ⟨k - 1, by omega⟩
    unfold spec_reader_pick.f
    rw [if_neg hn, w64 (x := p + 1) (by omega) (by omega)]
    simp only [spec_reader_pick.j0]
    rw [if_neg (by simp only [beq_iff_eq]; omega), w64 (x := p + 1 - 1) (by omega) (by omega), show p + 1 - 1 = p by omega, if_pos hlt, if_pos hp0, if_neg (by omega), w64 (x := rd b p) (by omega) (by omega)]
  · have h1 := tmod_range p (b.length : Int) hp0 (by omega)
    have h2 := tmod_range (p * 7 + 3) (b.length : Int) (by omega) (by omega)
    have r1 := hb.rd_ (Int.tmod p (b.length : Int))
    have r2 := hb.rd_ (Int.tmod (p * 7 + 3) (b.length : Int))
    have hd : 0 ≤ Int.tdiv p (b.length : Int) ∧ Int.tdiv p (b.length : Int) ≤ p := by
      rw [tdiv_nn _ _ hp0]
      exact ⟨Int.ediv_nonneg hp0 (by omega), Int.ediv_le_self _ hp0⟩
    generalize h1e : Int.tmod p (b.length : Int) = t1 at *
    generalize h2e : Int.tmod (p * 7 + 3) (b.length : Int) = t2 at *
    generalize hde : Int.tdiv p (b.length : Int) = d at *
    generalize hr1e : rd b t1 = x1 at *
    generalize hr2e : rd b t2 = x2 at *
    have hx := xor_nn (x1 * 131 + x2 * 1117 + p * 29 + d * 53) ((x1 * 131 + x2 * 1117 + p * 29 + d * 53) / 64) (by omega) (by omega) (by omega) (by omega)
    have ht := tmod_range _ n hx (by omega)
    refine ⟨Int.tmod (Go.bits .xor .i64 (x1 * 131 + x2 * 1117 + p * 29 + d * 53) ((x1 * 131 + x2 * 1117 + p * 29 + d * 53) / 64)) n, fun k hk => ?_, ht.1, fun _ => ht.2, by omega⟩
    obtain ⟨k, rfl⟩ : ∃ m, k = m + 1 := ⟨k - 1, by omega⟩
    unfold spec_reader_pick.f
    rw [if_neg hn, w64 (x := p + 1) (by omega) (by omega)]
    simp only [spec_reader_pick.j0]
    rw [if_neg (by simp only [beq_iff_eq]; omega), w64 (x := p + 1 - 1) (by omega) (by omega), show p + 1 - 1 = p by omega, if_neg hlt, if_neg (by omega),
      w64 (x := p * 7) (by omega) (by omega), w64 (x := p * 7 + 3) (by omega) (by omega), h1e, h2e, hde, hr1e, hr2e, if_pos (by omega), if_pos (by omega), if_pos (by omega), if_pos (by omega), if_neg (by omega),
      w64 (x := x1) (by omega) (by omega), w64 (x := x2) (by omega) (by omega), w64 (x := d) (by omega) (by omega), w64 (x := x1 * 131) (by omega) (by omega), w64 (x := x2 * 1117) (by omega) (by omega), w64 (x := p * 29) (by omega) (by omega), w64 (x := d * 53) (by omega) (by omega),
      w64 (x := x1 * 131 + x2 * 1117) (by omega) (by omega), w64 (x := x1 * 131 + x2 * 1117 + p * 29) (by omega) (by omega), w64 (x := x1 * 131 + x2 * 1117 + p * 29 + d * 53) (by omega) (by omega), tdiv_nn _ 64 (by omega),
      w64 (x := (x1 * 131 + x2 * 1117 + p * 29 + d * 53) / 64) (by omega) (by omega)]
theorem one_at (b : List Int) (p : Int) (l : List Int) (hl : 0 < l.length) (hl' : l.length ≤ 1000) (hb : Bytes b) (hp0 : 0 ≤ p) (hp : p ≤ 1000000000000) :
    ∃ v, (∀ k, 0 < k → spec_reader_one.f k b p l = some (v, p + 1)) ∧ v ∈ l := by
  obtain ⟨v, hv, h0, h1, _⟩ := pick_at b p (l.length : Int) hb hp0 hp
  have h1' := h1 (by omega)
  obtain ⟨v, rfl⟩ := Int.eq_ofNat_of_zero_le h0
  refine ⟨l[v]'(by omega), fun k hk => ?_, List.getElem_mem _⟩
  unfold spec_reader_one.f
  rw [hv k hk]
  simp only [Option.bind_some]
  rw [if_pos (by omega), if_pos (by omega), rd_nat l v (by omega)]
theorem newReader_at (l : List Int) (h : ∀ x ∈ l, 0 ≤ x ∧ x ≤ 255) : ∃ b, spec_newReader.f l = some (b, 0) ∧ Bytes b := by
  unfold spec_newReader.f
  by_cases c : (l.length : Int) > 2000
  · rw [if_pos c, if_pos (by omega)]
    exact ⟨_, rfl, by rw [List.length_take]; omega, fun x hx => h x (List.mem_of_mem_take hx)⟩
  · rw [if_neg c]
    exact ⟨_, rfl, by omega, h⟩
/-- What a law is told of its code: bytes. -/
theorem code_bytes (l : List Int) (h : ∀ x ∈ l, (Lit.int .u8 x).wf = true) : ∀ x ∈ l, 0 ≤ x ∧ x ≤ 255 := by
  intro x hx
  have := h x hx
  simp only [Lit.wf, Bool.and_eq_true, decide_eq_true_eq] at this
  have e1 : IntKind.min .u8 = 0 := by decide
  have e2 : IntKind.max .u8 = 255 := by decide
  omega

/- Images that are drawn from bytes. -/

theorem one_in (b : List Int) (p : Int) (l : List Int) (hl : 0 < l.length) (hl' : l.length ≤ 1000) (hb : Bytes b) (hp0 : 0 ≤ p) (hp : p ≤ 1000000000000) : ∃ v, Ev (fun k => spec_reader_one.f k b p l) (v, p + 1) ∧ v ∈ l := by
 obtain ⟨v, h, hv⟩ := one_at b p l hl hl' hb hp0 hp
 exact ⟨v, ev_of 0 h, hv⟩
theorem pick_in (b : List Int) (p n : Int) (hn : 1 ≤ n) (hb : Bytes b) (hp0 : 0 ≤ p) (hp : p ≤ 1000000000000) : ∃ v, Ev (fun k => spec_reader_pick.f k b p n) (v, p + 1) ∧ 0 ≤ v ∧ v < n := by
 obtain ⟨v, h, h0, h1, _⟩ := pick_at b p n hb hp0 hp
 exact ⟨v, ev_of 0 h, h0, h1 hn⟩
theorem newImage_eq (w h p : Int) (hs : 1 ≤ w ∧ w ≤ 16 ∧ 1 ≤ h ∧ h ≤ 16 ∧ 1 ≤ p ∧ p ≤ 4) : spec_newImage.f w h p = some (w, h, p, List.replicate (w * h * p).toNat 0) := by
 have := shape_prod hs
 unfold spec_newImage.f
 rw [shape_wrap hs, if_pos (by omega), if_pos (by omega)]
theorem randomLoop (b : List Int) (hb : Bytes b) (m : Int) (w h p : Int) : ∀ (n i : Nat) (x pos : Int) (d : List Int), i + n = d.length → 0 ≤ pos → pos + n ≤ 1000000000000 → d.length ≤ 1000000 →
  ∃ (d' : List Int) (q : Int), d'.length = d.length ∧ pos ≤ q ∧ q ≤ pos + n ∧ Ev (fun k => spec_randomImage.l0 k m x (i : Int) b pos w h p d) (w, h, p, d', q) := by
 intro n
 induction n with
 | zero =>
  intro i x pos d hi h0 h1 h2
  refine ⟨d, pos, rfl, by omega, by omega, ?_⟩
  refine Ev.step (f := fun _ => some (w, h, p, d, pos)) (fun k => ?_) (Ev.now _)
  simp only [spec_randomImage.l0]
  rw [if_neg (by omega)]
 | succ n ih =>
  intro i x pos d hi h0 h1 h2
  have go : ∀ (v x' pos' : Int), pos ≤ pos' → pos' ≤ pos + 1 → ∃ (d' : List Int) (q : Int), d'.length = d.length ∧ pos ≤ q ∧ q ≤ pos + ((n + 1 : Nat) : Int) ∧ Ev (fun k => spec_randomImage.l0 k m x' ((i + 1 : Nat) : Int) b pos' w h p (d.set i v)) (w, h, p, d', q) := by
   intro v x' pos' a1 a2
   obtain ⟨d', q, e1, e2, e3, e4⟩ := ih (i + 1) x' pos' (d.set i v) (by rw [List.length_set]; omega) (by omega) (by omega) (by rw [List.length_set]; omega)
   exact ⟨d', q, by rw [e1, List.length_set], by omega, by omega, e4⟩
  by_cases c0 : m = 0
  ·obtain ⟨v, hv, _, _⟩ := pick_in b pos 256 (by omega) hb h0 (by omega)
   obtain ⟨d', q, e1, e2, e3, e4⟩ := go v v (pos + 1) (by omega) (by omega)
   refine ⟨d', q, e1, e2, e3, ?_⟩
   refine Ev.step (f := fun k => (spec_reader_pick.f k b pos 256).bind fun bt => if 0 ≤ (i : Int) then spec_randomImage.l0 k m bt.1 (wrap64 ((i : Int) + 1)) b bt.2 w h p (d.set (i : Int).toNat bt.1) else none) (fun k => ?_) ?_
   ·simp only [spec_randomImage.l0]
    rw [if_pos (by omega), if_pos c0]
   ·refine ev_bind hv (ev_pos (by omega) ?_)
    simp only [Int.toNat_natCast, w64n i (by omega)]
    exact e4
  ·by_cases c1 : m = 1
   ·obtain ⟨v, hv, _, _⟩ := pick_in b pos 5 (by omega) hb h0 (by omega)
    obtain ⟨d', q, e1, e2, e3, e4⟩ := go (Int.tmod (wrap64 ((wrap64 (x + v)) + 254)) 256) (Int.tmod (wrap64 ((wrap64 (x + v)) + 254)) 256) (pos + 1) (by omega) (by omega)
    refine ⟨d', q, e1, e2, e3, ?_⟩
    refine Ev.step (f := fun k => (spec_reader_pick.f k b pos 5).bind fun bt => if 0 ≤ (i : Int) then spec_randomImage.l0 k m (Int.tmod (wrap64 ((wrap64 (x + bt.1)) + 254)) 256) (wrap64 ((i : Int) + 1)) b bt.2 w h p (d.set (i : Int).toNat (Int.tmod (wrap64 ((wrap64 (x + bt.1)) + 254)) 256)) else none) (fun k => ?_) ?_
    ·simp only [spec_randomImage.l0]
     rw [if_pos (by omega), if_neg c0, if_pos c1]
    ·refine ev_bind hv (ev_pos (by omega) ?_)
     simp only [Int.toNat_natCast, w64n i (by omega)]
     exact e4
   ·by_cases c2 : m = 2
    ·obtain ⟨v, hv, _, _⟩ := pick_in b pos 4 (by omega) hb h0 (by omega)
     obtain ⟨d', q, e1, e2, e3, e4⟩ := go (wrap64 (60 * v)) (wrap64 (60 * v)) (pos + 1) (by omega) (by omega)
     refine ⟨d', q, e1, e2, e3, ?_⟩
     refine Ev.step (f := fun k => (spec_reader_pick.f k b pos 4).bind fun bt => if 0 ≤ (i : Int) then spec_randomImage.l0 k m (wrap64 (60 * bt.1)) (wrap64 ((i : Int) + 1)) b bt.2 w h p (d.set (i : Int).toNat (wrap64 (60 * bt.1))) else none) (fun k => ?_) ?_
     ·simp only [spec_randomImage.l0]
      rw [if_pos (by omega), if_neg c0, if_neg c1, if_pos c2]
     ·refine ev_bind hv (ev_pos (by omega) ?_)
      simp only [Int.toNat_natCast, w64n i (by omega)]
      exact e4
    ·obtain ⟨d', q, e1, e2, e3, e4⟩ := go x x pos (by omega) (by omega)
     refine ⟨d', q, e1, e2, e3, Ev.step (fun k => ?_) e4⟩
     simp only [spec_randomImage.l0]
     rw [if_pos (by omega), if_neg c0, if_neg c1, if_neg c2, if_pos (by omega), Int.toNat_natCast, w64n i (by omega)]
theorem randomImage_ev (b : List Int) (pos p : Int) (hb : Bytes b) (h0 : 0 ≤ pos) (h1 : pos ≤ 100000000) (hp : 1 ≤ p ∧ p ≤ 4) :
  ∃ (w h : Int) (d : List Int) (q : Int), 1 ≤ w ∧ w ≤ 8 ∧ 1 ≤ h ∧ h ≤ 8 ∧ (d.length : Int) = w * h * p ∧ 1 ≤ d.length ∧ d.length ≤ 1024 ∧ pos ≤ q ∧ q ≤ pos + 2000 ∧ Ev (fun k => spec_randomImage.f k b pos p) (w, h, p, d, q) := by
 obtain ⟨w, hw, mw⟩ := one_in b pos [3, 4, 2, 5, 1, 8, 6] (by simp) (by simp) hb h0 (by omega)
 obtain ⟨h, hh, mh⟩ := one_in b (pos + 1) [3, 2, 4, 1, 5, 8] (by simp) (by simp) hb (by omega) (by omega)
 obtain ⟨m, hm, _, _⟩ := pick_in b (pos + 1 + 1) 4 (by omega) hb (by omega) (by omega)
 obtain ⟨x, hx, _, _⟩ := pick_in b (pos + 1 + 1 + 1) 256 (by omega) hb (by omega) (by omega)
 have bw : 1 ≤ w ∧ w ≤ 8 := by simp only [List.mem_cons, List.not_mem_nil, or_false] at mw; omega
 have bh : 1 ≤ h ∧ h ≤ 8 := by simp only [List.mem_cons, List.not_mem_nil, or_false] at mh; omega
 have hs : 1 ≤ w ∧ w ≤ 16 ∧ 1 ≤ h ∧ h ≤ 16 ∧ 1 ≤ p ∧ p ≤ 4 := by omega
 have hpr := shape_prod hs
 have hpos : 1 ≤ w * h * p := by
  have e1 : 1 * 1 ≤ w * h := Int.mul_le_mul (by omega) (by omega) (by omega) (by omega)
  have e2 : 1 * 1 ≤ w * h * p := Int.mul_le_mul (by omega) (by omega) (by omega) (by omega)
  omega
 have hlen : (List.replicate (w * h * p).toNat (0 : Int)).length = (w * h * p).toNat := List.length_replicate
 obtain ⟨d', q, e1, e2, e3, e4⟩ := randomLoop b hb m w h p (w * h * p).toNat 0 x (pos + 1 + 1 + 1 + 1) (List.replicate (w * h * p).toNat 0) (by omega) (by omega) (by omega) (by omega)
 refine ⟨w, h, d', q, bw.1, bw.2, bh.1, bh.2, by omega, by omega, by omega, by omega, by omega, ?_⟩
 unfold spec_randomImage.f
 exact ev_bind hw (ev_bind hh (ev_now (newImage_eq w h p hs) (ev_bind hm (ev_bind hx e4))))
theorem anyPlanes_ev (b : List Int) (pos : Int) (hb : Bytes b) (h0 : 0 ≤ pos) (h1 : pos ≤ 100000000) : ∃ p, 1 ≤ p ∧ p ≤ 4 ∧ Ev (fun k => spec_anyPlanes.f k b pos) (p, pos + 1) := by
 obtain ⟨p, hp, mp⟩ := one_in b pos [1, 3, 1, 4, 2] (by simp) (by simp) hb h0 (by omega)
 simp only [List.mem_cons, List.not_mem_nil, or_false] at mp
 refine ⟨p, by omega, by omega, ?_⟩
 unfold spec_anyPlanes.f
 exact ev_bind hp (Ev.now _)
theorem spoilImage_ev (b : List Int) (pos : Int) (w h p : Int) (d : List Int) (hb : Bytes b) (h0 : 0 ≤ pos) (h1 : pos ≤ 100000000) (hd : 1 ≤ d.length) :
  ∃ (w' h' p' : Int) (d' : List Int) (q : Int), d'.length ≤ d.length ∧ pos ≤ q ∧ q ≤ pos + 2 ∧ Ev (fun k => spec_spoilImage.f k b pos w h p d) (w', h', p', d', q) := by
 obtain ⟨v, hv, _, _⟩ := pick_in b pos 40 (by omega) hb h0 (by omega)
 unfold spec_spoilImage.f
 by_cases c0 : v = 0
 ·obtain ⟨x, hx, _⟩ := one_in b (pos + 1) [0, 17, wrap64 (w + 1)] (by simp) (by simp) hb (by omega) (by omega)
  exact ⟨x, h, p, d, pos + 1 + 1, by omega, by omega, by omega, ev_bind hv (ev_pos c0 (ev_bind hx (Ev.now _)))⟩
 ·by_cases c1 : v = 1
  ·exact ⟨w, h, p, d.drop (1 : Int).toNat, pos + 1, by rw [List.length_drop]; omega, by omega, by omega, ev_bind hv (ev_neg c0 (ev_pos c1 (ev_pos (by omega) (Ev.now _))))⟩
  ·by_cases c2 : v = 2
   ·obtain ⟨x, hx, _⟩ := one_in b (pos + 1) [(-1), 256] (by simp) (by simp) hb (by omega) (by omega)
    exact ⟨w, h, p, d.set (0 : Int).toNat x, pos + 1 + 1, by rw [List.length_set]; omega, by omega, by omega, ev_bind hv (ev_neg c0 (ev_neg c1 (ev_pos c2 (ev_bind hx (ev_pos (by omega) (Ev.now _))))))⟩
   ·by_cases c3 : v = 3
    ·obtain ⟨x, hx, _⟩ := one_in b (pos + 1) [0, 5] (by simp) (by simp) hb (by omega) (by omega)
     exact ⟨w, h, x, d, pos + 1 + 1, by omega, by omega, by omega, ev_bind hv (ev_neg c0 (ev_neg c1 (ev_neg c2 (ev_pos c3 (ev_bind hx (Ev.now _))))))⟩
    ·exact ⟨w, h, p, d, pos + 1, by omega, by omega, by omega, ev_bind hv (ev_neg c0 (ev_neg c1 (ev_neg c2 (ev_neg c3 (Ev.now _)))))⟩
theorem anyImage_ev (b : List Int) (pos : Int) (hb : Bytes b) (h0 : 0 ≤ pos) (h1 : pos ≤ 90000000) :
  ∃ (w h p : Int) (d : List Int) (q : Int), d.length ≤ 1024 ∧ pos ≤ q ∧ q ≤ pos + 3000 ∧ Ev (fun k => spec_anyImage.f k b pos) (w, h, p, d, q) := by
 obtain ⟨p, p1, p2, hp⟩ := anyPlanes_ev b pos hb h0 (by omega)
 obtain ⟨w, h, d, q, _, _, _, _, _, d1, d2, q1, q2, hr⟩ := randomImage_ev b (pos + 1) p hb (by omega) (by omega) ⟨p1, p2⟩
 obtain ⟨w', h', p', d', q', d3, q3, q4, hs⟩ := spoilImage_ev b q w h p d hb (by omega) (by omega) d1
 refine ⟨w', h', p', d', q', by omega, by omega, by omega, ?_⟩
 unfold spec_anyImage.f
 exact ev_bind hp (ev_bind hr (ev_bind hs (Ev.now _)))

/- Layers that are drawn from bytes. -/

theorem randomLayer_ev (b : List Int) (pos p : Int) (hb : Bytes b) (h0 : 0 ≤ pos) (h1 : pos ≤ 50000000) (hp : 1 ≤ p ∧ p ≤ 4) :
  ∃ (w h : Int) (d : List Int) (x y m a : Int) (hid : Bool) (q : Int), d.length ≤ 1024 ∧ pos ≤ q ∧ q ≤ pos + 3000 ∧ Ev (fun k => spec_randomLayer.f k b pos p) (w, h, p, d, x, y, m, a, hid, q) := by
 obtain ⟨w, h, d, q, _, _, _, _, _, _, hd, q1, q2, hr⟩ := randomImage_ev b pos p hb h0 (by omega) hp
 obtain ⟨v1, g1, _⟩ := pick_in b q 7 (by omega) hb (by omega) (by omega)
 obtain ⟨v2, g2, _⟩ := pick_in b (q + 1) 5 (by omega) hb (by omega) (by omega)
 obtain ⟨v3, g3, _⟩ := pick_in b (q + 1 + 1) 5 (by omega) hb (by omega) (by omega)
 obtain ⟨v4, g4, _⟩ := pick_in b (q + 1 + 1 + 1) 5 (by omega) hb (by omega) (by omega)
 obtain ⟨v5, g5, _⟩ := one_in b (q + 1 + 1 + 1 + 1) [255, 128, 0, 200] (by simp) (by simp) hb (by omega) (by omega)
 refine ⟨w, h, d, wrap64 (v1 - 3), wrap64 (v2 - 2), v3, v5, v4 == 0, q + 1 + 1 + 1 + 1 + 1, hd, by omega, by omega, ?_⟩
 unfold spec_randomLayer.f
 exact ev_bind hr (ev_bind g1 (ev_bind g2 (ev_bind g3 (ev_bind g4 (ev_bind g5 (Ev.now _))))))
theorem anyLayer_ev (b : List Int) (pos p : Int) (hb : Bytes b) (h0 : 0 ≤ pos) (h1 : pos ≤ 40000000) :
  ∃ (w h p' : Int) (d : List Int) (x y m a : Int) (hid : Bool) (q : Int), d.length ≤ 1024 ∧ pos ≤ q ∧ q ≤ pos + 10000 ∧ Ev (fun k => spec_anyLayer.f k b pos p) (w, h, p', d, x, y, m, a, hid, q) := by
 have hp : 1 ≤ mx 1 (mn p 4) ∧ mx 1 (mn p 4) ≤ 4 := by
  unfold mx mn
  split <;> split <;> omega
 obtain ⟨w, h, d, x, y, m, a, hid, q, hd, q1, q2, hr⟩ := randomLayer_ev b pos (mx 1 (mn p 4)) hb h0 (by omega) hp
 obtain ⟨v, g, _⟩ := pick_in b q 24 (by omega) hb (by omega) (by omega)
 unfold spec_anyLayer.f
 by_cases c0 : v = 0
 ·obtain ⟨z, gz, _⟩ := one_in b (q + 1) [(-1), 5] (by simp) (by simp) hb (by omega) (by omega)
  exact ⟨w, h, _, d, x, y, z, a, hid, q + 1 + 1, hd, by omega, by omega, ev_bind hr (ev_bind g (ev_pos c0 (ev_bind gz (Ev.now _))))⟩
 ·by_cases c1 : v = 1
  ·obtain ⟨z, gz, _⟩ := one_in b (q + 1) [(-1), 256] (by simp) (by simp) hb (by omega) (by omega)
   exact ⟨w, h, _, d, x, y, m, z, hid, q + 1 + 1, hd, by omega, by omega, ev_bind hr (ev_bind g (ev_neg c0 (ev_pos c1 (ev_bind gz (Ev.now _)))))⟩
  ·by_cases c2 : v = 2
   ·obtain ⟨z, gz, _⟩ := one_in b (q + 1) [(-16), (-17), 16, 17] (by simp) (by simp) hb (by omega) (by omega)
    exact ⟨w, h, _, d, z, y, m, a, hid, q + 1 + 1, hd, by omega, by omega, ev_bind hr (ev_bind g (ev_neg c0 (ev_neg c1 (ev_pos c2 (ev_bind gz (Ev.now _))))))⟩
   ·by_cases c3 : v = 3
    ·obtain ⟨w2, h2, p2, d2, q', hd2, q3, q4, hi⟩ := anyImage_ev b (q + 1) hb (by omega) (by omega)
     exact ⟨w2, h2, p2, d2, x, y, m, a, hid, q', hd2, by omega, by omega, ev_bind hr (ev_bind g (ev_neg c0 (ev_neg c1 (ev_neg c2 (ev_pos c3 (ev_bind hi (Ev.now _)))))))⟩
    ·exact ⟨w, h, _, d, x, y, m, a, hid, q + 1, hd, by omega, by omega, ev_bind hr (ev_bind g (ev_neg c0 (ev_neg c1 (ev_neg c2 (ev_neg c3 (Ev.now _))))))⟩

/- Rows of layers that are drawn from bytes. -/

abbrev LayD := S55
theorem anyLayers_loop (b : List Int) (hb : Bytes b) (p : Int) : ∀ (n : Nat) (l : List LayD) (pos : Int), n ≤ 7 → 0 ≤ pos → pos ≤ 400000 - 20000 * n → l.length + n ≤ 7 → (∀ s ∈ l, s.f0.f3.length ≤ 1024) →
  ∃ (l' : List LayD) (q : Int), l'.length ≤ 7 ∧ (∀ s ∈ l', s.f0.f3.length ≤ 1024) ∧ pos ≤ q ∧ q ≤ 400000 ∧ Ev (fun k => spec_anyLayers.l0 k p l (n : Int) b pos) (l', q) := by
 intro n
 induction n with
 | zero => exact fun l pos _ h0 h1 hl hs => ⟨l, pos, by omega, hs, by omega, by omega, Ev.step (f := fun _ => some (l, pos)) (fun k => by simp only [spec_anyLayers.l0]; rw [if_neg (by simp)]) (Ev.now _)⟩
 | succ n ih =>
  intro l pos hn h0 h1 hl hs
  have hp : 1 ≤ mx 1 (mn p 4) ∧ mx 1 (mn p 4) ≤ 4 := by
   unfold mx mn
   split <;> split <;> omega
  obtain ⟨w, h, d, x, y, m, a, hid, q, hd, q1, q2, hr⟩ := randomLayer_ev b pos (mx 1 (mn p 4)) hb h0 (by omega) hp
  obtain ⟨v, hv, v0, v1⟩ := pick_in b q 20 (by omega) hb (by omega) (by omega)
  have e1 : wrap64 (((n + 1 : Nat) : Int) - 1) = (n : Int) := by rw [w64 (by omega) (by omega)]; omega
  by_cases c : v = 0
  ·obtain ⟨w2, h2, p2, d2, x2, y2, m2, a2, hid2, q', hd2, q3, q4, hr2⟩ := anyLayer_ev b (q + 1) p hb (by omega) (by omega)
   obtain ⟨l', z, r1, r2, r3, r4, r5⟩ := ih (l ++ [(⟨⟨w2, h2, p2, d2⟩, x2, y2, m2, a2, hid2⟩ : LayD)]) q' (by omega) (by omega) (by omega) (by simp; omega) (fun s h => by
    rcases List.mem_append.1 h with h | h
    ·exact hs s h
    ·rw [List.mem_singleton.1 h]; exact hd2)
   refine ⟨l', z, r1, r2, by omega, r4, Ev.step (f := fun k => (spec_randomLayer.f k b pos (mx 1 (mn p 4))).bind fun u => (spec_reader_pick.f k b u.2.2.2.2.2.2.2.2.2 20).bind fun t => if t.1 = 0 then ((spec_anyLayer.f k b t.2 p).bind fun g => if l.length < 1599289640401 then spec_anyLayers.l0 k p (l ++ [(⟨⟨g.1, g.2.1, g.2.2.1, g.2.2.2.1⟩, g.2.2.2.2.1, g.2.2.2.2.2.1, g.2.2.2.2.2.2.1, g.2.2.2.2.2.2.2.1, g.2.2.2.2.2.2.2.2.1⟩ : LayD)]) (n : Int) b g.2.2.2.2.2.2.2.2.2 else none) else (if l.length < 1599289640401 then spec_anyLayers.l0 k p (l ++ [(⟨⟨u.1, u.2.1, u.2.2.1, u.2.2.2.1⟩, u.2.2.2.2.1, u.2.2.2.2.2.1, u.2.2.2.2.2.2.1, u.2.2.2.2.2.2.2.1, u.2.2.2.2.2.2.2.2.1⟩ : LayD)]) (n : Int) b t.2 else none)) (fun k => ?_) (ev_bind hr (ev_bind hv (ev_pos c (ev_bind hr2 (ev_pos (by omega) r5)))))⟩
   simp only [spec_anyLayers.l0]
   rw [if_pos (by omega), e1]
  ·obtain ⟨l', z, r1, r2, r3, r4, r5⟩ := ih (l ++ [(⟨⟨w, h, mx 1 (mn p 4), d⟩, x, y, m, a, hid⟩ : LayD)]) (q + 1) (by omega) (by omega) (by omega) (by simp; omega) (fun s h => by
    rcases List.mem_append.1 h with h | h
    ·exact hs s h
    ·rw [List.mem_singleton.1 h]; exact hd)
   refine ⟨l', z, r1, r2, by omega, r4, Ev.step (f := fun k => (spec_randomLayer.f k b pos (mx 1 (mn p 4))).bind fun u => (spec_reader_pick.f k b u.2.2.2.2.2.2.2.2.2 20).bind fun t => if t.1 = 0 then ((spec_anyLayer.f k b t.2 p).bind fun g => if l.length < 1599289640401 then spec_anyLayers.l0 k p (l ++ [(⟨⟨g.1, g.2.1, g.2.2.1, g.2.2.2.1⟩, g.2.2.2.2.1, g.2.2.2.2.2.1, g.2.2.2.2.2.2.1, g.2.2.2.2.2.2.2.1, g.2.2.2.2.2.2.2.2.1⟩ : LayD)]) (n : Int) b g.2.2.2.2.2.2.2.2.2 else none) else (if l.length < 1599289640401 then spec_anyLayers.l0 k p (l ++ [(⟨⟨u.1, u.2.1, u.2.2.1, u.2.2.2.1⟩, u.2.2.2.2.1, u.2.2.2.2.2.1, u.2.2.2.2.2.2.1, u.2.2.2.2.2.2.2.1, u.2.2.2.2.2.2.2.2.1⟩ : LayD)]) (n : Int) b t.2 else none)) (fun k => ?_) (ev_bind hr (ev_bind hv (ev_neg c (ev_pos (by omega) r5))))⟩
   simp only [spec_anyLayers.l0]
   rw [if_pos (by omega), e1]
theorem drawLayers (code : List Int) (hw : ∀ x ∈ code, (Lit.int .u8 x).wf = true) : ∃ (w h p : Int) (d : List Int) (l : List LayD), d.length ≤ 1024 ∧ l.length ≤ 7 ∧ (∀ s ∈ l, s.f0.f3.length ≤ 1024) ∧ Ev (fun k => spec_DrawFlattenLayers.f k code) (w, h, p, d, l) := by
 obtain ⟨b, hb, hB⟩ := newReader_at code (code_bytes code hw)
 obtain ⟨w, h, p, d, q, hd, q1, q2, he⟩ := anyImage_ev b 0 hB (by omega) (by omega)
 obtain ⟨v, hv, hm⟩ := one_in b q [1, 2, 3, 0, 6, 7] (by simp) (by simp) hB (by omega) (by omega)
 have hn : 0 ≤ v ∧ v ≤ 7 := by simp at hm; omega
 obtain ⟨n, rfl⟩ := Int.eq_ofNat_of_zero_le hn.1
 obtain ⟨l', q', r1, r2, _, _, r3⟩ := anyLayers_loop b hB p n [] (q + 1) (by omega) (by omega) (by omega) (by simp; omega) (fun s h => by simp at h)
 refine ⟨w, h, p, d, l', hd, r1, r2, ?_⟩
 unfold spec_DrawFlattenLayers.f spec_anyLayers.f
 exact ev_now hb (ev_bind he (ev_bind (ev_bind hv r3) (Ev.now _)))

/- Lists of numbers and images, compared one by one. -/

theorem equalIntsC (l m : List Int) (hl : l.length ≤ 1000000) : Ev (fun k => laws_equalInts.f k l m) (decide (l = m)) := by
 unfold laws_equalInts.f
 by_cases hn : l.length = m.length
 ·have key := ev_up l.length (fun k i (_ : Unit) => laws_equalInts.l0 k l m (i : Int)) (fun _ _ => True) (fun i _ => decide (l.drop i = m.drop i))
   (by
    intro i s hi _
    have e1 := List.drop_eq_getElem_cons hi
    have e2 := List.drop_eq_getElem_cons (show i < m.length by omega)
    by_cases c : l[i] = m[i]'(by omega)
    ·refine .inr ⟨(), fun k => ?_, trivial, ?_⟩
     ·simp only [laws_equalInts.l0]
      rw [if_pos (by omega), if_pos (by omega), if_pos (by omega), rd_nat l i hi, rd_nat m i (by omega), if_pos c, w64n i (by omega)]
     ·rw [e1, e2, decide_eq_decide, List.cons.injEq]
      exact ⟨fun h => ⟨c, h⟩, fun h => h.2⟩
    ·left
     rw [e1, e2, decide_eq_false (by rw [List.cons.injEq]; exact fun h => c h.1)]
     refine Ev.step (f := fun _ => some false) (fun k => ?_) (Ev.now _)
     simp only [laws_equalInts.l0]
     rw [if_pos (by omega), if_pos (by omega), if_pos (by omega), rd_nat l i hi, rd_nat m i (by omega), if_neg c])
   (by
    intro s _
    refine Ev.step (f := fun _ => some true) (fun k => ?_) (ev_const (by rw [List.drop_length, hn, List.drop_length]; rfl))
    simp only [laws_equalInts.l0]
    rw [if_neg (by omega)])
   l.length 0 () (by omega) trivial
  exact ev_pos (by omega) (by simpa using key)
 ·refine ev_neg (by omega) ?_
  rw [decide_eq_false (fun h => hn (by rw [h]))]
  exact Ev.now _
theorem equalImage_ev (a b p : Int) (d : List Int) (a' b' p' : Int) (d' : List Int) (hl : d.length ≤ 1000000) : Ev (fun k => laws_equalImage.f k a b p d a' b' p' d') (decide (a = a' ∧ b = b' ∧ p = p' ∧ d = d')) := by
 unfold laws_equalImage.f
 by_cases c1 : a = a'
 ·refine ev_pos c1 ?_
  by_cases c2 : b = b'
  ·refine ev_pos c2 ?_
   by_cases c3 : p = p'
   ·refine ev_pos c3 ?_
    rw [decide_eq_decide.2 (show (a = a' ∧ b = b' ∧ p = p' ∧ d = d') ↔ d = d' from ⟨fun h => h.2.2.2, fun h => ⟨c1, c2, c3, h⟩⟩)]
    exact ev_bind (equalIntsC d d' hl) (Ev.now _)
   ·refine ev_neg c3 ?_
    rw [decide_eq_false (fun h => c3 h.2.2.1)]
    exact Ev.now _
  ·refine ev_neg c2 ?_
   rw [decide_eq_false (fun h => c2 h.2.1)]
   exact Ev.now _
 ·refine ev_neg c1 ?_
  rw [decide_eq_false (fun h => c1 h.1)]
  exact Ev.now _

/- Only dirty tiles need to be redrawn: the law FnRedrawDirty over lists of numbers alone. -/

theorem dirty_ok (W H : Nat) (w h x y : Int) (n : Nat) : okTs n (dirtyN W H w h x y n) = true := by
 have hp : (dirtyN W H w h x y n).Pairwise (· < ·) := by
  unfold dirtyN
  refine List.Pairwise.map _ (fun a b hab => Int.ofNat_lt.2 hab) (List.Pairwise.filter _ List.pairwise_lt_range)
 refine (okTs_iff _ _).2 fun i hi => (okAt_iff _ _ _).2 ?_
 rw [rdN_get _ i hi]
 have hm := List.getElem_mem hi
 obtain ⟨t, ht, e⟩ := List.mem_map.1 (show (dirtyN W H w h x y n)[i] ∈ ((List.range n).filter fun t => touchB w h x y (tileN W H t)).map fun (t : Nat) => (t : Int) from hm)
 have ht := List.mem_range.1 (List.mem_filter.1 ht).1
 refine ⟨by rw [← e]; omega, by rw [← e]; omega, fun h0 => ?_⟩
 rw [rdN_get _ (i - 1) (by omega)]
 exact List.pairwise_iff_getElem.1 hp (i - 1) i (by omega) hi (by omega)
theorem dirty_in (W H : Nat) (w h x y : Int) (n t : Nat) (ht : t < n) (hd : touchB w h x y (tileN W H t) = true) : ((t : Int) ∈ dirtyN W H w h x y n) := by
 unfold dirtyN
 exact List.mem_map.2 ⟨t, List.mem_filter.2 ⟨List.mem_range.2 ht, hd⟩, rfl⟩
theorem dirty_same {a b p : Int} {d : List Int} {l : Lay} (hv : validI a b p d = true) (ho : okL p l = true) : imgD (patchPx a.toNat p.toNat d (onD a b p d l) (boxesT a.toNat b.toNat (dirtyN a.toNat b.toNat l.f0.f0 l.f0.f1 l.f1 l.f2 (colsOf a.toNat * colsOf b.toNat)))) a.toNat b.toNat = onD a b p d l := by
 have hov := onD_valid hv ho
 obtain ⟨hvl, epl, hx1, hx2, hy1, hy2, _, _, ha1, ha2⟩ := (layerV_iff _ _ _ _ _ _ _ _ _).1 ho
 unfold onD at hov ⊢
 by_cases c : l.f5 = true
 ·rw [if_pos c] at hov ⊢
  obtain ⟨an, bn, pn, rfl, rfl, rfl, q1, q2, q3, q4, q5, q6, q7⟩ := nat_of hv
  simp only [Int.toNat_natCast]
  exact patch_full q7 q7 (fun x y _ _ => .inr rfl)
 ·rw [if_neg c] at hov ⊢
  unfold covD at hov ⊢
  obtain ⟨wn, hn, pm, e1, e2, hpm, q11, q12, q13, q14, _, _, q17⟩ := nat_of hvl
  rw [e1, e2] at hov ⊢
  obtain ⟨an, bn, pn, rfl, rfl, rfl, q1, q2, q3, q4, q5, q6, q7⟩ := nat_of hv
  obtain rfl : pn = pm := Int.ofNat.inj (epl.symm.trans hpm)
  simp only [Int.toNat_natCast] at hov ⊢
  have hlen := covPx_len (an := an) (bn := bn) (X := l.f1) (Y := l.f2) l.f3 l.f4 q7 q17
  refine patch_full q7 (imgD_length hlen) (fun x y hx hy => ?_)
  obtain ⟨t, ht, hin⟩ := tile_at ⟨q1, q2⟩ ⟨q3, q4⟩ hx hy
  by_cases hto : touchB (wn : Int) (hn : Int) l.f1 l.f2 (tileN an bn t) = true
  ·exact .inl (box_any (dirty_in an bn wn hn l.f1 l.f2 _ t ht hto) hin)
  ·right
   obtain ⟨x0, y0, w0, h0, e, r1, r2, r3, r4⟩ := tile_box ⟨q1, q2⟩ ⟨q3, q4⟩ ht
   rw [e] at hto hin
   have hin : (x0 : Int) ≤ (x : Int) ∧ (x : Int) < (x0 : Int) + (w0 : Int) ∧ (y0 : Int) ≤ (y : Int) ∧ (y : Int) < (y0 : Int) + (h0 : Int) := of_decide_eq_true hin
   obtain ⟨i, rfl⟩ : ∃ i, x = x0 + i := ⟨x - x0, by omega⟩
   obtain ⟨j, rfl⟩ : ∃ j, y = y0 + j := ⟨y - y0, by omega⟩
   rw [nx_imgD hlen hx hy, cov_clean (by omega) ⟨hx1, hx2⟩ ⟨hy1, hy2⟩ (Bool.eq_false_iff.2 hto) (i := i) (j := j) (by omega) (by omega)]
theorem flatD_app (a b p : Int) (l : Lay) : ∀ (ls : List Lay) (d : List Int), flatD a b p d (ls ++ [l]) = onD a b p (flatD a b p d ls) l
 | [], d => rfl
 | m :: ls, d => flatD_app a b p l ls _
theorem FnRedrawDirty : laws_FnRedrawDirty.Pure := by
 intro code _ _ hw
 apply Ev.rounds
 unfold laws_FnRedrawDirty.f
 by_cases c : (code.length : Int) > 1048576
 ·exact ev_pos c (Ev.now true)
 refine ev_neg c ?_
 obtain ⟨w, h, p, d, ls, hdl, hll, hpl, hd⟩ := drawLayers code hw
 have hI := impl_FlattenLayers_ev w h p d ls
 have hS := spec_FlattenLayers_ev w h p d ls (by omega) (by omega) (fun s hs => by have := hpl s hs; omega)
 have hVl := flatV_len w h p d ls
 have stop : ∀ (v0 v1 v2 : Int) (v3 : List Int) (ok : Bool), v3.length ≤ 1024 → Ev (fun k => laws_FnRedrawDirty.j0 k ls ok ok true w h p d v0 v1 v2 v3 v0 v1 v2 v3) true := by
  intro v0 v1 v2 v3 ok hv
  have heq := ev_val (equalImage_ev v0 v1 v2 v3 v0 v1 v2 v3 (by omega)) (decide_eq_true ⟨rfl, rfl, rfl, rfl⟩)
  refine Ev.step (f := fun k => (laws_equalImage.f k v0 v1 v2 v3 v0 v1 v2 v3).bind fun t => if t = true then some (ok == ok) else some false) (fun k => ?_) (ev_bind heq (ev_pos rfl (ev_const (by simp))))
  simp only [laws_FnRedrawDirty.j0]
  rw [if_pos trivial]
 by_cases hg : validI w h p d = true ∧ ls.length ≤ 6 ∧ ls.all (okL p) = true
 ·have he : flatV w h p d ls = (w, h, p, flatD w h p d ls, true) := by unfold flatV; rw [if_pos hg]
  rw [he] at hI hS hVl
  have hVl : (flatD w h p d ls).length ≤ 1024 := hVl
  have heq := ev_val (equalImage_ev w h p (flatD w h p d ls) w h p (flatD w h p d ls) (by omega)) (decide_eq_true ⟨rfl, rfl, rfl, rfl⟩)
  refine ev_bind hd (ev_bind hI (ev_bind hS (ev_bind heq (ev_pos rfl (ev_neg (by simp) (ev_pos rfl ?_))))))
  by_cases cl : (ls.length : Int) = 0
  ·rw [cl]
   exact stop w h p _ true hVl
  ·have hl : 0 < ls.length := by omega
   have hn : ls.length - 1 < ls.length := by omega
   have hsplit : ls = ls.take (ls.length - 1) ++ [ls[ls.length - 1]] := by
    have h1 := List.take_succ_eq_append_getElem hn
    rw [show ls.length - 1 + 1 = ls.length by omega, List.take_length] at h1
    exact h1
   have hok : okL p ls[ls.length - 1] = true := List.all_eq_true.1 hg.2.2 _ (List.getElem_mem hn)
   have hall : (ls.take (ls.length - 1)).all (okL p) = true := List.all_eq_true.2 fun x hx => List.all_eq_true.1 hg.2.2 x (List.mem_of_mem_take hx)
   have i0 := impl_FlattenLayers_ev w h p d (ls.take (ls.length - 1))
   have e0 : flatV w h p d (ls.take (ls.length - 1)) = (w, h, p, flatD w h p d (ls.take (ls.length - 1)), true) := by
    unfold flatV
    rw [if_pos ⟨hg.1, by rw [List.length_take]; omega, hall⟩]
   rw [e0] at i0
   have hbv := flatD_valid (ls.take (ls.length - 1)) hg.1 hall
   have hDD : flatD w h p d ls = onD w h p (flatD w h p d (ls.take (ls.length - 1))) ls[ls.length - 1] := by
    have h1 := congrArg (flatD w h p d) hsplit
    rw [flatD_app] at h1
    exact h1
   have i1 := impl_DirtyTiles_ev w h p d ls[ls.length - 1].f0.f0 ls[ls.length - 1].f0.f1 ls[ls.length - 1].f0.f2 ls[ls.length - 1].f0.f3 ls[ls.length - 1].f1 ls[ls.length - 1].f2 ls[ls.length - 1].f3 ls[ls.length - 1].f4 ls[ls.length - 1].f5
   have ed : dirtyV w h p d ls[ls.length - 1].f0.f0 ls[ls.length - 1].f0.f1 ls[ls.length - 1].f0.f2 ls[ls.length - 1].f0.f3 ls[ls.length - 1].f1 ls[ls.length - 1].f2 ls[ls.length - 1].f3 ls[ls.length - 1].f4 = dirtyN w.toNat h.toNat ls[ls.length - 1].f0.f0 ls[ls.length - 1].f0.f1 ls[ls.length - 1].f1 ls[ls.length - 1].f2 (colsOf w.toNat * colsOf h.toNat) := by
    unfold dirtyV
    rw [if_pos ⟨hg.1, hok⟩]
   rw [ed] at i1
   have hdok := dirty_ok w.toNat h.toNat ls[ls.length - 1].f0.f0 ls[ls.length - 1].f0.f1 ls[ls.length - 1].f1 ls[ls.length - 1].f2 (colsOf w.toNat * colsOf h.toNat)
   have hds := dirty_same hbv hok
   have hdn := dirtyN_len w.toNat h.toNat ls[ls.length - 1].f0.f0 ls[ls.length - 1].f0.f1 ls[ls.length - 1].f1 ls[ls.length - 1].f2 (colsOf w.toNat * colsOf h.toNat)
   have hcount : colsOf w.toNat * colsOf h.toNat ≤ 16 := by
    obtain ⟨an, bn, pn, rfl, rfl, rfl, q1, q2, q3, q4, q5, q6, q7⟩ := nat_of hg.1
    exact (tiles_count an bn q1 q2 q3 q4).2
   have i2 := impl_RedrawTiles_ev w h p (flatD w h p d (ls.take (ls.length - 1))) w h p d ls (dirtyN w.toNat h.toNat ls[ls.length - 1].f0.f0 ls[ls.length - 1].f0.f1 ls[ls.length - 1].f1 ls[ls.length - 1].f2 (colsOf w.toNat * colsOf h.toNat)) (by omega)
   have e2 : redrawV w h p (flatD w h p d (ls.take (ls.length - 1))) w h p d ls (dirtyN w.toNat h.toNat ls[ls.length - 1].f0.f0 ls[ls.length - 1].f0.f1 ls[ls.length - 1].f1 ls[ls.length - 1].f2 (colsOf w.toNat * colsOf h.toNat)) = (w, h, p, flatD w h p d ls, true) := by
    unfold redrawV
    rw [if_pos ⟨(sameV_iff _ _ _ _ _ _ _ _).2 ⟨hbv, hg.1, rfl, rfl, rfl⟩, hg.2, hdok⟩, hDD, hds]
   rw [e2] at i2
   have ew : wrap64 ((ls.length : Int) - 1) = ((ls.length - 1 : Nat) : Int) := by rw [w64 (by omega) (by omega)]; omega
   generalize dirtyN w.toNat h.toNat ls[ls.length - 1].f0.f0 ls[ls.length - 1].f0.f1 ls[ls.length - 1].f1 ls[ls.length - 1].f2 (colsOf w.toNat * colsOf h.toNat) = T at i1 i2
   generalize flatD w h p d (ls.take (ls.length - 1)) = B at i0 i2
   have rdn := rdL_nat ls (ls.length - 1) hn
   generalize ls[ls.length - 1] = g at i1 rdn
   generalize flatD w h p d ls = D at i2 hVl heq
   refine Ev.step (f := fun k => (impl_FlattenLayers.f k w h p d (ls.take (ls.length - 1))).bind fun t => (impl_DirtyTiles.f k w h p d g.f0.f0 g.f0.f1 g.f0.f2 g.f0.f3 g.f1 g.f2 g.f3 g.f4 g.f5).bind fun u => (impl_RedrawTiles.f k t.1 t.2.1 t.2.2.1 t.2.2.2.1 w h p d ls u).bind fun v => if t.2.2.2.2 = true then (if v.2.2.2.2 = true then ((laws_equalImage.f k v.1 v.2.1 v.2.2.1 v.2.2.2.1 w h p D).bind fun z => some z) else some false) else some false) (fun k => ?_) (ev_bind i0 (ev_bind i1 (ev_bind i2 (ev_pos rfl (ev_pos rfl (ev_bind heq (Ev.now _)))))))
   simp only [laws_FnRedrawDirty.j0]
   rw [if_neg (by rw [beq_iff_eq]; exact cl), ew, if_pos (by omega), if_pos (by omega), Int.toNat_natCast, rdn]
   congr 1
   funext t
   rw [if_pos (show ((ls.length - 1 : Nat) : Int) < (ls.length : Int) by omega)]
 ·have he : flatV w h p d ls = (0, 0, 0, [], false) := by unfold flatV; rw [if_neg hg]
  rw [he] at hI hS
  have heq := ev_val (equalImage_ev 0 0 0 [] 0 0 0 [] (by simp)) (decide_eq_true ⟨rfl, rfl, rfl, rfl⟩)
  exact ev_bind hd (ev_bind hI (ev_bind hS (ev_bind heq (ev_pos rfl (ev_neg (by simp) (ev_neg (by simp) (stop 0 0 0 [] false (by simp))))))))
end Go.Proofs.Ytnofkbbcbpjhfaa.Pure

/- The head of the translation reads as a plain cut. -/
namespace Go.Proofs.Ytnofkbbcbpjhfaa.Head
set_option maxRecDepth 100000
theorem wordsSigns_word (w r : List Char) (h : w.all (fun c => !(c == Char.ofNat 32)) = true) : wordsSigns (w ++ Char.ofNat 32 :: r) = w :: wordsSigns r := by
  induction w with
  | nil => rfl
  | cons c w ih =>
    simp only [List.all_cons, Bool.and_eq_true, Bool.not_eq_true', beq_eq_false_iff_ne, ne_eq] at h
    have h1 := ih (by simpa using h.2)
    rw [List.cons_append, wordsSigns.eq_3 c _ h.1, h1]
def w1 : List Char := [104, 97, 114, 110, 101, 115, 115].map Char.ofNat
def w2 : List Char := [98, 98, 56, 56, 48, 50, 51, 48, 99, 56, 98, 97, 54, 51, 51, 51, 48, 101, 54, 53, 56, 97, 98, 51, 97, 51, 99, 100, 54, 102, 98, 98, 55, 101, 51, 50, 99, 48, 56, 52, 55, 54, 49, 49, 100, 50, 51, 56, 55, 100, 54, 48, 49, 99, 100, 97, 51, 102, 50, 98, 48, 57, 53, 101].map Char.ofNat
def w3 : List Char := [99, 117, 116].map Char.ofNat
def w4 : List Char := [97, 116, 32, 108, 111, 111, 112, 46, 101, 120, 97, 109, 112, 108, 101, 47, 112, 105, 120, 101, 108, 119, 111, 114, 107, 115, 47, 108, 97, 119, 115, 46, 70, 110, 69, 120, 97, 99, 116, 71, 97, 112, 79, 102, 32, 108, 111, 111, 112, 46, 101, 120, 97, 109, 112, 108, 101, 47, 112, 105, 120, 101, 108, 119, 111, 114, 107, 115, 47, 108, 97, 119, 115, 46, 70, 110, 71, 97, 112, 79, 102, 32, 108, 111, 111, 112, 46, 101, 120, 97, 109, 112, 108, 101, 47, 112, 105, 120, 101, 108, 119, 111, 114, 107, 115, 47, 108, 97, 119, 115, 46, 70, 110, 69, 120, 97, 99, 116, 84, 105, 108, 101, 66, 111, 120, 101, 115, 32, 108, 111, 111, 112, 46, 101, 120, 97, 109, 112, 108, 101, 47, 112, 105, 120, 101, 108, 119, 111, 114, 107, 115, 47, 108, 97, 119, 115, 46, 70, 110, 84, 105, 108, 101, 66, 111, 120, 101, 115, 32, 108, 111, 111, 112, 46, 101, 120, 97, 109, 112, 108, 101, 47, 112, 105, 120, 101, 108, 119, 111, 114, 107, 115, 47, 108, 97, 119, 115, 46, 70, 110, 69, 120, 97, 99, 116, 68, 105, 114, 116, 121, 84, 105, 108, 101, 115, 32, 108, 111, 111, 112, 46, 101, 120, 97, 109, 112, 108, 101, 47, 112, 105, 120, 101, 108, 119, 111, 114, 107, 115, 47, 108, 97, 119, 115, 46, 70, 110, 68, 105, 114, 116, 121, 84, 105, 108, 101, 115, 32, 108, 111, 111, 112, 46, 101, 120, 97, 109, 112, 108, 101, 47, 112, 105, 120, 101, 108, 119, 111, 114, 107, 115, 47, 108, 97, 119, 115, 46, 70, 110, 69, 120, 97, 99, 116, 77, 101, 114, 103, 101, 80, 108, 97, 110, 101, 115, 32, 108, 111, 111, 112, 46, 101, 120, 97, 109, 112, 108, 101, 47, 112, 105, 120, 101, 108, 119, 111, 114, 107, 115, 47, 108, 97, 119, 115, 46, 70, 110, 69, 120, 97, 99, 116, 67, 111, 118, 101, 114, 73, 109, 97, 103, 101, 32, 108, 111, 111, 112, 46, 101, 120, 97, 109, 112, 108, 101, 47, 112, 105, 120, 101, 108, 119, 111, 114, 107, 115, 47, 108, 97, 119, 115, 46, 70, 110, 67, 111, 118, 101, 114, 73, 109, 97, 103, 101, 32, 108, 111, 111, 112, 46, 101, 120, 97, 109, 112, 108, 101, 47, 112, 105, 120, 101, 108, 119, 111, 114, 107, 115, 47, 108, 97, 119, 115, 46, 70, 110, 69, 120, 97, 99, 116, 70, 108, 97, 116, 116, 101, 110, 76, 97, 121, 101, 114, 115, 32, 108, 111, 111, 112, 46, 101, 120, 97, 109, 112, 108, 101, 47, 112, 105, 120, 101, 108, 119, 111, 114, 107, 115, 47, 108, 97, 119, 115, 46, 70, 110, 70, 108, 97, 116, 116, 101, 110, 76, 97, 121, 101, 114, 115, 32, 108, 111, 111, 112, 46, 101, 120, 97, 109, 112, 108, 101, 47, 112, 105, 120, 101, 108, 119, 111, 114, 107, 115, 47, 108, 97, 119, 115, 46, 70, 110, 70, 108, 97, 116, 116, 101, 110, 76, 97, 121, 101, 114, 115, 72, 105, 100, 100, 101, 110, 32, 108, 111, 111, 112, 46, 101, 120, 97, 109, 112, 108, 101, 47, 112, 105, 120, 101, 108, 119, 111, 114, 107, 115, 47, 108, 97, 119, 115, 46, 70, 110, 69, 120, 97, 99, 116, 80, 97, 116, 99, 104, 73, 109, 97, 103, 101, 32, 108, 111, 111, 112, 46, 101, 120, 97, 109, 112, 108, 101, 47, 112, 105, 120, 101, 108, 119, 111, 114, 107, 115, 47, 108, 97, 119, 115, 46, 70, 110, 80, 97, 116, 99, 104, 73, 109, 97, 103, 101, 84, 119, 105, 99, 101, 32, 108, 111, 111, 112, 46, 101, 120, 97, 109, 112, 108, 101, 47, 112, 105, 120, 101, 108, 119, 111, 114, 107, 115, 47, 108, 97, 119, 115, 46, 70, 110, 69, 120, 97, 99, 116, 82, 101, 100, 114, 97, 119, 84, 105, 108, 101, 115, 32, 108, 111, 111, 112, 46, 101, 120, 97, 109, 112, 108, 101, 47, 112, 105, 120, 101, 108, 119, 111, 114, 107, 115, 47, 108, 97, 119, 115, 46, 70, 110, 82, 101, 100, 114, 97, 119, 68, 105, 114, 116, 121, 32, 108, 111, 111, 112, 46, 101, 120, 97, 109, 112, 108, 101, 47, 112, 105, 120, 101, 108, 119, 111, 114, 107, 115, 47, 108, 97, 119, 115, 46, 70, 110, 82, 101, 100, 114, 97, 119, 84, 105, 108, 101, 115].map Char.ofNat
theorem signs0 : Try.prog.initOrder = String.ofList (w1 ++ Char.ofNat 32 :: (w2 ++ Char.ofNat 32 :: (w3 ++ Char.ofNat 32 :: w4))) := by kernel_rfl
theorem behind : behindMainWord (wordsSigns Try.prog.initOrder.toList) = w3 :: wordsSigns w4 := by
  rw [signs0, String.toList_ofList, wordsSigns_word w1 _ (by kernel_rfl), wordsSigns_word w2 _ (by kernel_rfl), wordsSigns_word w3 _ (by kernel_rfl)]
  unfold behindMainWord
  dsimp only
  rw [if_pos (by kernel_rfl)]
theorem strip_cut (R : List (List Char)) : stripLifts liftWords (w3 :: R) = ([], w3 :: R) := by kernel_rfl
theorem mayEnter_of (P : Program) (R : List (List Char)) (h : behindMainWord (wordsSigns P.initOrder.toList) = w3 :: R) (h1 : P.laysLater = false) (h2 : P.bearsReflect = false) (h3 : P.doorFits [] = true) : P.mayEnter = true := by
  unfold Program.mayEnter
  rw [h]
  dsimp only
  rw [strip_cut, h1, h2, h3]
  kernel_rfl
theorem liftsFinal_of (P : Program) (R : List (List Char)) (h : behindMainWord (wordsSigns P.initOrder.toList) = w3 :: R) : P.liftsFinal = false := by
  unfold Program.liftsFinal Program.headLifts
  rw [h]
  dsimp only
  rw [strip_cut]
  kernel_rfl
theorem make_of (P : Program) (R : List (List Char)) (h : behindMainWord (wordsSigns P.initOrder.toList) = w3 :: R) : P.make = some .cut := by
  unfold Program.make
  rw [h]
  kernel_rfl
theorem mayEnter : Try.prog.mayEnter = true := mayEnter_of _ _ behind (by kernel_rfl) (by kernel_rfl) (by kernel_rfl)
theorem liftsFinal : Try.prog.liftsFinal = false := liftsFinal_of _ _ behind
theorem make : Try.prog.make = some .cut := make_of _ _ behind
end Go.Proofs.Ytnofkbbcbpjhfaa.Head

-- PRINTED by print.py: the row of the law laws_FnRedrawDirty, out of its Pure (the session's) and the printed walk. Not trusted: Lean checks it.
namespace Go.Proofs.Ytnofkbbcbpjhfaa.fnRedrawDirty
open Go.ChangeShapes Go.WideShapes Go.ChangeAt Go.RowKit
open Go.ChangeMaps (open_string shut_string)
set_option linter.unusedVariables false
theorem own : ownKnob Try.prog.godebug = none := by kernel_rfl
theorem laidOut : laidOutB Try.prog = true := by kernel_rfl
def IsRow (k : IntKind) (w : World) (a : Option Addr) (len cap : Nat) (zs : List Int) : Prop :=
  (a = none ∧ len = 0 ∧ cap = 0 ∧ zs = []) ∨
  ∃ x, a = some x ∧ len ≤ cap ∧ cap ≤ maxLen ∧ zs.length = cap ∧ (∀ i, i < zs.length → w.cell? (x.add i) = some (.int k (zs.getD i 0))) ∧ ∀ n ∈ zs, (Lit.int k n).wf = true
set_option maxRecDepth 100000 in
theorem lifted (os : Os) (started : os.Started) (H : Type) (enc : TypeId × Value → H) :
    ReturnsInHanded {} Try.checked os 18 .any (Rows.fnRedrawDirtySpec.pre6 enc Try.prog Try.f18 Rows.fnRedrawDirtyRow.domain false) (Rows.fnRedrawDirtySpec.post enc Try.prog Try.f18 false true false false) := by
  refine returnsInHanded_of_change_sized (C := Try.checked) own started (by kernel_rfl) Try.func18
    (ChangeSpec.witness6 (enc := enc) (C := Try.checked) false ⟨#[], #[.slice none 0 0], []⟩ 8 (by kernel_rfl) (by kernel_rfl) (by kernel_rfl) (by kernel_rfl)) ?_
  intro W base args ds gs before hval0 hW hcnd hsz0 _
  have hsz : (DataW.weightsEach Try.prog (Try.f18.params.toList ++ Rows.fnRedrawDirtySpec.plain.varTypes Try.prog) (ds ++ gs)).all (· ≤ reachBytes) = true := hsz0
  have hval : ∀ (j : Nat) t v, Try.f18.params[j]? = some t → args[j]? = some v → Value.okWide Try.prog W .any base t v := hval0
  have hW' := hW
  obtain ⟨p, q, hA0, hV, rfl, hfz, hnd⟩ := hW
  have hA : DataW.TrodAll enc Try.prog W 0 (fun _ => true) true Try.f18.params.toList args.toList ds p := hA0
  rw [Try.params18] at hA hval hsz
  obtain ⟨v0, vs0, d0, ds0, p0, q0, hargs, rfl, rfl, h0, r0⟩ := trodAll_cons hA
  obtain ⟨rfl, rfl, rfl⟩ := trodAll_nil r0
  obtain rfl : args = #[v0] := by cases args; simp_all
  obtain ⟨rfl, rfl⟩ := trodVars_none hV
  obtain ⟨a0, len0, cap0, rfl⟩ := okWide_slice Try.underlying31 (hval 0 31 v0 rfl rfl)
  have k0 := h0
  have lt0 : ∀ x ∈ p0, x.block < W.heap.size := by obtain ⟨m, hm⟩ := k0; exact DataW.trod_lt m _ _ _ hm
  obtain ⟨z0, w0⟩ : ∃ zs, IsRow .u8 W a0 len0 cap0 zs := by
    obtain ⟨fuel, hf⟩ := h0
    rcases open_ints Try.underlying31 Try.underlying5 (by kernel_rfl) hf with ⟨hcs, _⟩ | ⟨x, l, c, zs, hcs, _, hl, hm, hz, _, hcell, hwz⟩
    · simp [Value.cells] at hcs
      obtain ⟨rfl, rfl, rfl⟩ := hcs
      exact ⟨[], .inl ⟨rfl, rfl, rfl, rfl⟩⟩
    · simp [Value.cells] at hcs
      obtain ⟨rfl, rfl, rfl⟩ := hcs
      exact ⟨zs, .inr ⟨_, rfl, hl, hm, by simpa using hz, hcell, hwz⟩⟩
  have y0 : len0 * 1 ≤ 140737488351232 := Go.Proofs.YtnofkbbcbpjhfaaW.PrintWords.sized_ints hsz (j := 0) (t := 31) rfl rfl Try.underlying31 Try.underlying5 (by kernel_rfl) (by kernel_rfl) h0
  clear hA0 hval0 hsz0 hsz
  refine (Q.laws_FnRedrawDirty.walk Pure.FnRedrawDirty a0 len0 cap0 z0 W w0 y0).mono fun e W' ⟨he, bel⟩ => ?_
  subst he
  exact ⟨_, rfl, _, _, _, [], _, [], hW', trodAll_mk1 (shut_bool Try.underlying4 _), (trodAll_cons_mk (Below.trod laidOut (by kernel_rfl) (of_decide_eq_true (by kernel_rfl)) k0 bel lt0) trodAll_mk0), rfl, bel.frame _, fun h => by cases h⟩
set_option maxHeartbeats 4000000 in
theorem closed : joinedFacts Try.prog 18 Try.f18 Rows.fnRedrawDirtySpec Rows.fnRedrawDirtyRow = true := by
  unfold joinedFacts
  rw [Head.mayEnter, Head.liftsFinal, Head.make]
  simp only [Bool.and_eq_true]
  repeat' apply And.intro
  all_goals first | exact True.intro | (as_aux_lemma => kernel_rfl)
theorem over : Rows.fnRedrawDirtyRow.holds Try.pinned (OpenSpec.ofChange Rows.fnRedrawDirtySpec) :=
  OpenClaim.holds_of_wide 18 Try.f18 rfl rfl rfl rfl rfl rfl rfl ⟨rfl, rfl, rfl, rfl, rfl⟩ rfl rfl rfl rfl rfl (by kernel_rfl) Try.func18 closed
    (of_decide_eq_true (by kernel_rfl)) (by unfold Func.isWrapper; first | (rw [if_pos (by decide +kernel)]; kernel_rfl) | (rw [if_neg (by decide +kernel)]; exact ⟨rfl, rfl⟩))
    (fun os started H enc _ => lifted os started H enc)
theorem proved : Rows.FnRedrawDirtySaid := over
#print axioms proved
end Go.Proofs.Ytnofkbbcbpjhfaa.fnRedrawDirty
namespace Go.Proofs.Ytnofkbbcbpjhfaa
/-- The row, under a short name, for the claim. -/
theorem fnRedrawDirty_holds : Rows.FnRedrawDirtySaid := fnRedrawDirty.proved
end Go.Proofs.Ytnofkbbcbpjhfaa
