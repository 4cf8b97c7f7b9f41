/- A part of the proof that the statement FnSimplifyStepsSaid holds, under no condition of its own: Steps that cancel each other are left out, and the image stays what it was: the law FnSimplifySteps over lists of numbers alone. -/
import Derived.Test.YtgccpcnakkioiaaCFnSimplifySteps3
import Derived.Test.YtgccpcnakkioiaaCFnSimplifySteps2
import Derived.OrdersHeld
import Derived.Deep.RegionHeld
import Derived.RegionTactic
import Derived.Test.YtgccpcnakkioiaaCFnSimplifySteps1
/- The reader of draws: whatever the code's bytes are, it answers, in range. -/
namespace Go.Proofs.Ytgccpcnakkioiaa.Pure
open Go.RowKit Go.Proofs.Ytgccpcnakkioiaa.Q Go.Proofs.YtgccpcnakkioiaaW.PrintWords Go.Proofs.YtgccpcnakkioiaaW.PrintLast Go.Proofs.YtgccpcnakkioiaaW.PrintMore
set_option linter.unusedVariables false
set_option linter.unusedSimpArgs false

/-- What a reader reads from: at most 2000 bytes. -/
def Bytes (b : List Int) : Prop := b.length ≤ 2000 ∧ ∀ x ∈ b, 0 ≤ x ∧ x ≤ 255
theorem Bytes.rd_ {b : List Int} (h : Bytes b) (i : Int) : 0 ≤ rd b i ∧ rd b i ≤ 255 := by
  unfold rd
  by_cases c : i.toNat < b.length
  · rw [List.getD_eq_getElem?_getD, List.getElem?_eq_getElem c]; exact h.2 _ (List.getElem_mem c)
  · rw [List.getD_eq_getElem?_getD, List.getElem?_eq_none (by omega)]; simp
theorem xor_nn (a b : Int) (ha : 0 ≤ a) (ha' : a < 4611686018427387904) (hb : 0 ≤ b) (hb' : b < 4611686018427387904) : 0 ≤ Go.bits .xor .i64 a b := by
  obtain ⟨a, rfl⟩ := Int.eq_ofNat_of_zero_le ha
  obtain ⟨b, rfl⟩ := Int.eq_ofNat_of_zero_le hb
  have ha2 : a < 2 ^ 62 := by have : (2 : Nat) ^ 62 = 4611686018427387904 := by decide +kernel
                              omega
  have hb2 : b < 2 ^ 62 := by have : (2 : Nat) ^ 62 = 4611686018427387904 := by decide +kernel
                              omega
  have e64 : IntKind.bits .i64 = 64 := rfl
  have hx := Nat.xor_lt_two_pow ha2 hb2
  have h62 : (2 : Nat) ^ 62 = 4611686018427387904 := by decide +kernel
  have h64 : (2 : Nat) ^ 64 = 18446744073709551616 := by decide +kernel
  simp only [Go.bits, BitVec.ofInt_natCast, BitVec.toNat_xor, BitVec.toNat_ofNat, e64]
  rw [Nat.mod_eq_of_lt (by omega), Nat.mod_eq_of_lt (by omega), IntKind.wrap_i64]
  generalize a ^^^ b = z at *
  omega
theorem tmod_range (x n : Int) (hx : 0 ≤ x) (hn : 1 ≤ n) : 0 ≤ Int.tmod x n ∧ Int.tmod x n < n := by
  rw [tmod_nn _ _ hx]
  exact ⟨Int.emod_nonneg _ (by omega), Int.emod_lt_of_pos _ (by omega)⟩
theorem pick_at (b : List Int) (p n : Int) (hb : Bytes b) (hp0 : 0 ≤ p) (hp : p ≤ 1000000000000) :
    ∃ v, (∀ k, 0 < k → spec_reader_pick.f k b p n = some (v, p + 1)) ∧ 0 ≤ v ∧ (1 ≤ n → v < n) ∧ (n < 1 → v = 0) := by
  by_cases hn : n < 1
  · refine ⟨0, fun k hk => ?_, by omega, by omega, fun _ => rfl⟩
    obtain ⟨k, rfl⟩ : ∃ m, k = m + 1 := ⟨k - 1, by omega⟩
    unfold spec_reader_pick.f
    rw [if_pos hn, w64 (by omega) (by omega)]
    simp only [spec_reader_pick.j0, if_true]
  by_cases he : b.length = 0
  · refine ⟨0, fun k hk => ?_, by omega, by omega, fun _ => rfl⟩
    obtain ⟨k, rfl⟩ : ∃ m, k = m + 1 := ⟨k - 1, by omega⟩
    unfold spec_reader_pick.f
    rw [if_neg hn, w64 (by omega) (by omega)]
    simp only [spec_reader_pick.j0, he]; simp
  have hlen := hb.1
  by_cases hlt : p < (b.length : Int)
  · have hr := hb.rd_ p
    have ht := tmod_range (rd b p) n hr.1 (by omega)
    refine ⟨Int.tmod (rd b p) n, fun k hk => ?_, ht.1, fun _ => ht.2, by omega⟩
    obtain ⟨k, rfl⟩ : ∃ m, k = m + 1 := ⟨k - 1, by omega⟩
    unfold spec_reader_pick.f
    rw [if_neg hn, w64 (x := p + 1) (by omega) (by omega)]
    simp only [spec_reader_pick.j0]
    rw [if_neg (by simp only [beq_iff_eq]; omega), w64 (x := p + 1 - 1) (by omega) (by omega), show p + 1 - 1 = p by omega, if_pos hlt, if_pos hp0, if_neg (by omega), w64 (x := rd b p) (by omega) (by omega)]
  · have h1 := tmod_range p (b.length : Int) hp0 (by omega)
    have h2 := tmod_range (p * 7 + 3) (b.length : Int) (by omega) (by omega)
    have r1 := hb.rd_ (Int.tmod p (b.length : Int))
    have r2 := hb.rd_ (Int.tmod (p * 7 + 3) (b.length : Int))
    have hd : 0 ≤ Int.tdiv p (b.length : Int) ∧ Int.tdiv p (b.length : Int) ≤ p := by
      rw [tdiv_nn _ _ hp0]
      exact ⟨Int.ediv_nonneg hp0 (by omega), Int.ediv_le_self _ hp0⟩
    generalize h1e : Int.tmod p (b.length : Int) = t1 at *
    generalize h2e : Int.tmod (p * 7 + 3) (b.length : Int) = t2 at *
    generalize hde : Int.tdiv p (b.length : Int) = d at *
    generalize hr1e : rd b t1 = x1 at *
    generalize hr2e : rd b t2 = x2 at *
    have hx := xor_nn (x1 * 131 + x2 * 1117 + p * 29 + d * 53) ((x1 * 131 + x2 * 1117 + p * 29 + d * 53) / 64) (by omega) (by omega) (by omega) (by omega)
    have ht := tmod_range _ n hx (by omega)
    refine ⟨Int.tmod (Go.bits .xor .i64 (x1 * 131 + x2 * 1117 + p * 29 + d * 53) ((x1 * 131 + x2 * 1117 + p * 29 + d * 53) / 64)) n, fun k hk => ?_, ht.1, fun _ => ht.2, by omega⟩
    obtain ⟨k, rfl⟩ : ∃ m, k = m + 1 := ⟨k - 1, by omega⟩
    unfold spec_reader_pick.f
    rw [if_neg hn, w64 (x := p + 1) (by omega) (by omega)]
    simp only [spec_reader_pick.j0]
    rw [if_neg (by simp only [beq_iff_eq]; omega), w64 (x := p + 1 - 1) (by omega) (by omega), show p + 1 - 1 = p by omega, if_neg hlt, if_neg (by omega),
      w64 (x := p * 7) (by omega) (by omega), w64 (x := p * 7 + 3) (by omega) (by omega), h1e, h2e, hde, hr1e, hr2e, if_pos (by omega), if_pos (by omega), if_pos (by omega), if_pos (by omega), if_neg (by omega),
      w64 (x := x1) (by omega) (by omega), w64 (x := x2) (by omega) (by omega), w64 (x := d) (by omega) (by omega), w64 (x := x1 * 131) (by omega) (by omega), w64 (x := x2 * 1117) (by omega) (by omega), w64 (x := p * 29) (by omega) (by omega), w64 (x := d * 53) (by omega) (by omega),
      w64 (x := x1 * 131 + x2 * 1117) (by omega) (by omega), w64 (x := x1 * 131 + x2 * 1117 + p * 29) (by omega) (by omega), w64 (x := x1 * 131 + x2 * 1117 + p * 29 + d * 53) (by omega) (by omega), tdiv_nn _ 64 (by omega),
      w64 (x := (x1 * 131 + x2 * 1117 + p * 29 + d * 53) / 64) (by omega) (by omega)]
theorem one_at (b : List Int) (p : Int) (l : List Int) (hl : 0 < l.length) (hl' : l.length ≤ 1000) (hb : Bytes b) (hp0 : 0 ≤ p) (hp : p ≤ 1000000000000) :
    ∃ v, (∀ k, 0 < k → spec_reader_one.f k b p l = some (v, p + 1)) ∧ v ∈ l := by
  obtain ⟨v, hv, h0, h1, _⟩ := pick_at b p (l.length : Int) hb hp0 hp
  have h1' := h1 (by omega)
  obtain ⟨v, rfl⟩ := Int.eq_ofNat_of_zero_le h0
  refine ⟨l[v]'(by omega), fun k hk => ?_, List.getElem_mem _⟩
  unfold spec_reader_one.f
  rw [hv k hk]
  simp only [Option.bind_some]
  rw [if_pos (by omega), if_pos (by omega), rd_nat l v (by omega)]
theorem newReader_at (l : List Int) (h : ∀ x ∈ l, 0 ≤ x ∧ x ≤ 255) : ∃ b, spec_newReader.f l = some (b, 0) ∧ Bytes b := by
  unfold spec_newReader.f
  by_cases c : (l.length : Int) > 2000
  · rw [if_pos c, if_pos (by omega)]
    exact ⟨_, rfl, by rw [List.length_take]; omega, fun x hx => h x (List.mem_of_mem_take hx)⟩
  · rw [if_neg c]
    exact ⟨_, rfl, by omega, h⟩
/-- What a law is told of its code: bytes. -/
theorem code_bytes (l : List Int) (h : ∀ x ∈ l, (Lit.int .u8 x).wf = true) : ∀ x ∈ l, 0 ≤ x ∧ x ≤ 255 := by
  intro x hx
  have := h x hx
  simp only [Lit.wf, Bool.and_eq_true, decide_eq_true_eq] at this
  have e1 : IntKind.min .u8 = 0 := by decide
  have e2 : IntKind.max .u8 = 255 := by decide
  omega

/- Images that are drawn from bytes. -/

theorem one_in (b : List Int) (p : Int) (l : List Int) (hl : 0 < l.length) (hl' : l.length ≤ 1000) (hb : Bytes b) (hp0 : 0 ≤ p) (hp : p ≤ 1000000000000) : ∃ v, Ev (fun k => spec_reader_one.f k b p l) (v, p + 1) ∧ v ∈ l := by
 obtain ⟨v, h, hv⟩ := one_at b p l hl hl' hb hp0 hp
 exact ⟨v, ev_of 0 h, hv⟩
theorem pick_in (b : List Int) (p n : Int) (hn : 1 ≤ n) (hb : Bytes b) (hp0 : 0 ≤ p) (hp : p ≤ 1000000000000) : ∃ v, Ev (fun k => spec_reader_pick.f k b p n) (v, p + 1) ∧ 0 ≤ v ∧ v < n := by
 obtain ⟨v, h, h0, h1, _⟩ := pick_at b p n hb hp0 hp
 exact ⟨v, ev_of 0 h, h0, h1 hn⟩
theorem newImage_eq (w h p : Int) (hs : 1 ≤ w ∧ w ≤ 16 ∧ 1 ≤ h ∧ h ≤ 16 ∧ 1 ≤ p ∧ p ≤ 4) : spec_newImage.f w h p = some (w, h, p, List.replicate (w * h * p).toNat 0) := by
 have := shape_prod hs
 unfold spec_newImage.f
 rw [shape_wrap hs, if_pos (by omega), if_pos (by omega)]
theorem randomLoop (b : List Int) (hb : Bytes b) (m : Int) (w h p : Int) : ∀ (n i : Nat) (x pos : Int) (d : List Int), i + n = d.length → 0 ≤ pos → pos + n ≤ 1000000000000 → d.length ≤ 1000000 →
  ∃ (d' : List Int) (q : Int), d'.length = d.length ∧ pos ≤ q ∧ q ≤ pos + n ∧ Ev (fun k => spec_randomImage.l0 k m x (i : Int) b pos w h p d) (w, h, p, d', q) := by
 intro n
 induction n with
 | zero =>
  intro i x pos d hi h0 h1 h2
  refine ⟨d, pos, rfl, by omega, by omega, ?_⟩
  refine Ev.step (f := fun _ => some (w, h, p, d, pos)) (fun k => ?_) (Ev.now _)
  simp only [spec_randomImage.l0]
  rw [if_neg (by omega)]
 | succ n ih =>
  intro i x pos d hi h0 h1 h2
  have go : ∀ (v x' pos' : Int), pos ≤ pos' → pos' ≤ pos + 1 → ∃ (d' : List Int) (q : Int), d'.length = d.length ∧ pos ≤ q ∧ q ≤ pos + ((n + 1 : Nat) : Int) ∧ Ev (fun k => spec_randomImage.l0 k m x' ((i + 1 : Nat) : Int) b pos' w h p (d.set i v)) (w, h, p, d', q) := by
   intro v x' pos' a1 a2
   obtain ⟨d', q, e1, e2, e3, e4⟩ := ih (i + 1) x' pos' (d.set i v) (by rw [List.length_set]; omega) (by omega) (by omega) (by rw [List.length_set]; omega)
   exact ⟨d', q, by rw [e1, List.length_set], by omega, by omega, e4⟩
  by_cases c0 : m = 0
  ·obtain ⟨v, hv, _, _⟩ := pick_in b pos 256 (by omega) hb h0 (by omega)
   obtain ⟨d', q, e1, e2, e3, e4⟩ := go v v (pos + 1) (by omega) (by omega)
   refine ⟨d', q, e1, e2, e3, ?_⟩
   refine Ev.step (f := fun k => (spec_reader_pick.f k b pos 256).bind fun bt => if 0 ≤ (i : Int) then spec_randomImage.l0 k m bt.1 (wrap64 ((i : Int) + 1)) b bt.2 w h p (d.set (i : Int).toNat bt.1) else none) (fun k => ?_) ?_
   ·simp only [spec_randomImage.l0]
    rw [if_pos (by omega), if_pos c0]
   ·refine ev_bind hv (ev_pos (by omega) ?_)
    simp only [Int.toNat_natCast, w64n i (by omega)]
    exact e4
  ·by_cases c1 : m = 1
   ·obtain ⟨v, hv, _, _⟩ := pick_in b pos 5 (by omega) hb h0 (by omega)
    obtain ⟨d', q, e1, e2, e3, e4⟩ := go (Int.tmod (wrap64 ((wrap64 (x + v)) + 254)) 256) (Int.tmod (wrap64 ((wrap64 (x + v)) + 254)) 256) (pos + 1) (by omega) (by omega)
    refine ⟨d', q, e1, e2, e3, ?_⟩
    refine Ev.step (f := fun k => (spec_reader_pick.f k b pos 5).bind fun bt => if 0 ≤ (i : Int) then spec_randomImage.l0 k m (Int.tmod (wrap64 ((wrap64 (x + bt.1)) + 254)) 256) (wrap64 ((i : Int) + 1)) b bt.2 w h p (d.set (i : Int).toNat (Int.tmod (wrap64 ((wrap64 (x + bt.1)) + 254)) 256)) else none) (fun k => ?_) ?_
    ·simp only [spec_randomImage.l0]
     rw [if_pos (by omega), if_neg c0, if_pos c1]
    ·refine ev_bind hv (ev_pos (by omega) ?_)
     simp only [Int.toNat_natCast, w64n i (by omega)]
     exact e4
   ·by_cases c2 : m = 2
    ·obtain ⟨v, hv, _, _⟩ := pick_in b pos 4 (by omega) hb h0 (by omega)
     obtain ⟨d', q, e1, e2, e3, e4⟩ := go (wrap64 (60 * v)) (wrap64 (60 * v)) (pos + 1) (by omega) (by omega)
     refine ⟨d', q, e1, e2, e3, ?_⟩
     refine Ev.step (f := fun k => (spec_reader_pick.f k b pos 4).bind fun bt => if 0 ≤ (i : Int) then spec_randomImage.l0 k m (wrap64 (60 * bt.1)) (wrap64 ((i : Int) + 1)) b bt.2 w h p (d.set (i : Int).toNat (wrap64 (60 * bt.1))) else none) (fun k => ?_) ?_
     ·simp only [spec_randomImage.l0]
      rw [if_pos (by omega), if_neg c0, if_neg c1, if_pos c2]
     ·refine ev_bind hv (ev_pos (by omega) ?_)
      simp only [Int.toNat_natCast, w64n i (by omega)]
      exact e4
    ·obtain ⟨d', q, e1, e2, e3, e4⟩ := go x x pos (by omega) (by omega)
     refine ⟨d', q, e1, e2, e3, Ev.step (fun k => ?_) e4⟩
     simp only [spec_randomImage.l0]
     rw [if_pos (by omega), if_neg c0, if_neg c1, if_neg c2, if_pos (by omega), Int.toNat_natCast, w64n i (by omega)]
theorem randomImage_ev (b : List Int) (pos p : Int) (hb : Bytes b) (h0 : 0 ≤ pos) (h1 : pos ≤ 100000000) (hp : 1 ≤ p ∧ p ≤ 4) :
  ∃ (w h : Int) (d : List Int) (q : Int), 1 ≤ w ∧ w ≤ 8 ∧ 1 ≤ h ∧ h ≤ 8 ∧ (d.length : Int) = w * h * p ∧ 1 ≤ d.length ∧ d.length ≤ 1024 ∧ pos ≤ q ∧ q ≤ pos + 2000 ∧ Ev (fun k => spec_randomImage.f k b pos p) (w, h, p, d, q) := by
 obtain ⟨w, hw, mw⟩ := one_in b pos [3, 4, 2, 5, 1, 8, 6] (by simp) (by simp) hb h0 (by omega)
 obtain ⟨h, hh, mh⟩ := one_in b (pos + 1) [3, 2, 4, 1, 5, 8] (by simp) (by simp) hb (by omega) (by omega)
 obtain ⟨m, hm, _, _⟩ := pick_in b (pos + 1 + 1) 4 (by omega) hb (by omega) (by omega)
 obtain ⟨x, hx, _, _⟩ := pick_in b (pos + 1 + 1 + 1) 256 (by omega) hb (by omega) (by omega)
 have bw : 1 ≤ w ∧ w ≤ 8 := by simp only [List.mem_cons, List.not_mem_nil, or_false] at mw; omega
 have bh : 1 ≤ h ∧ h ≤ 8 := by simp only [List.mem_cons, List.not_mem_nil, or_false] at mh; omega
 have hs : 1 ≤ w ∧ w ≤ 16 ∧ 1 ≤ h ∧ h ≤ 16 ∧ 1 ≤ p ∧ p ≤ 4 := by omega
 have hpr := shape_prod hs
 have hpos : 1 ≤ w * h * p := by
  have e1 : 1 * 1 ≤ w * h := Int.mul_le_mul (by omega) (by omega) (by omega) (by omega)
  have e2 : 1 * 1 ≤ w * h * p := Int.mul_le_mul (by omega) (by omega) (by omega) (by omega)
  omega
 have hlen : (List.replicate (w * h * p).toNat (0 : Int)).length = (w * h * p).toNat := List.length_replicate
 obtain ⟨d', q, e1, e2, e3, e4⟩ := randomLoop b hb m w h p (w * h * p).toNat 0 x (pos + 1 + 1 + 1 + 1) (List.replicate (w * h * p).toNat 0) (by omega) (by omega) (by omega) (by omega)
 refine ⟨w, h, d', q, bw.1, bw.2, bh.1, bh.2, by omega, by omega, by omega, by omega, by omega, ?_⟩
 unfold spec_randomImage.f
 exact ev_bind hw (ev_bind hh (ev_now (newImage_eq w h p hs) (ev_bind hm (ev_bind hx e4))))
theorem anyPlanes_ev (b : List Int) (pos : Int) (hb : Bytes b) (h0 : 0 ≤ pos) (h1 : pos ≤ 100000000) : ∃ p, 1 ≤ p ∧ p ≤ 4 ∧ Ev (fun k => spec_anyPlanes.f k b pos) (p, pos + 1) := by
 obtain ⟨p, hp, mp⟩ := one_in b pos [1, 3, 1, 4, 2] (by simp) (by simp) hb h0 (by omega)
 simp only [List.mem_cons, List.not_mem_nil, or_false] at mp
 refine ⟨p, by omega, by omega, ?_⟩
 unfold spec_anyPlanes.f
 exact ev_bind hp (Ev.now _)

/- A box that is drawn from bytes. -/

theorem anyBox_any (b : List Int) (pos : Int) (hB : Bytes b) (h0 : 0 ≤ pos) (h1 : pos ≤ 1000000) : ∃ (X Y W H : Int), Ev (fun k => spec_anyBox.f k b pos) (X, Y, W, H, pos + 1 + 1 + 1 + 1) := by
 obtain ⟨x0, g0, _⟩ := one_at b pos [0, 1, 2, (-1), 0, 4] (by simp) (by simp) hB (by omega) (by omega)
 obtain ⟨x1, g1, _⟩ := one_at b (pos + 1) [0, 1, 0, 2, (-1)] (by simp) (by simp) hB (by omega) (by omega)
 obtain ⟨x2, g2, _⟩ := one_at b (pos + 1 + 1) [1, 2, 3, 1, 0, 16] (by simp) (by simp) hB (by omega) (by omega)
 obtain ⟨x3, g3, _⟩ := one_at b (pos + 1 + 1 + 1) [1, 2, 1, 3, 0] (by simp) (by simp) hB (by omega) (by omega)
 refine ⟨x0, x1, x2, x3, ?_⟩
 unfold spec_anyBox.f
 exact ev_bind (ev_of 0 g0) (ev_bind (ev_of 0 g1) (ev_bind (ev_of 0 g2) (ev_bind (ev_of 0 g3) (Ev.now _))))

/- Steps that are drawn from bytes. -/

theorem copyI_px (l : List Int) (hl : l.length ≤ 1000000) : spec_copyInts.f l = some l := by
 unfold spec_copyInts.f
 simp only [Option.bind_some]
 rw [if_pos (by simp; omega)]
 simp
theorem spoilImage_p (b : List Int) (pos : Int) (w h p : Int) (d : List Int) (hb : Bytes b) (h0 : 0 ≤ pos) (h1 : pos ≤ 100000000) (hd : 1 ≤ d.length) (hp : 0 ≤ p ∧ p ≤ 5) :
  ∃ (w' h' p' : Int) (d' : List Int) (q : Int), d'.length ≤ d.length ∧ 0 ≤ p' ∧ p' ≤ 5 ∧ pos ≤ q ∧ q ≤ pos + 2 ∧ Ev (fun k => spec_spoilImage.f k b pos w h p d) (w', h', p', d', q) := by
 obtain ⟨v, hv, _, _⟩ := pick_in b pos 40 (by omega) hb h0 (by omega)
 unfold spec_spoilImage.f
 by_cases c0 : v = 0
 ·obtain ⟨x, hx, _⟩ := one_in b (pos + 1) [0, 17, wrap64 (w + 1)] (by simp) (by simp) hb (by omega) (by omega)
  exact ⟨x, h, p, d, pos + 1 + 1, by omega, hp.1, hp.2, by omega, by omega, ev_bind hv (ev_pos c0 (ev_bind hx (Ev.now _)))⟩
 ·by_cases c1 : v = 1
  ·exact ⟨w, h, p, d.drop (1 : Int).toNat, pos + 1, by rw [List.length_drop]; omega, hp.1, hp.2, by omega, by omega, ev_bind hv (ev_neg c0 (ev_pos c1 (ev_pos (by omega) (Ev.now _))))⟩
  ·by_cases c2 : v = 2
   ·obtain ⟨x, hx, _⟩ := one_in b (pos + 1) [(-1), 256] (by simp) (by simp) hb (by omega) (by omega)
    exact ⟨w, h, p, d.set (0 : Int).toNat x, pos + 1 + 1, by rw [List.length_set]; omega, hp.1, hp.2, by omega, by omega, ev_bind hv (ev_neg c0 (ev_neg c1 (ev_pos c2 (ev_bind hx (ev_pos (by omega) (Ev.now _))))))⟩
   ·by_cases c3 : v = 3
    ·obtain ⟨x, hx, mx⟩ := one_in b (pos + 1) [0, 5] (by simp) (by simp) hb (by omega) (by omega)
     have bx : 0 ≤ x ∧ x ≤ 5 := by simp only [List.mem_cons, List.not_mem_nil, or_false] at mx; omega
     exact ⟨w, h, x, d, pos + 1 + 1, by omega, bx.1, bx.2, by omega, by omega, ev_bind hv (ev_neg c0 (ev_neg c1 (ev_neg c2 (ev_pos c3 (ev_bind hx (Ev.now _))))))⟩
    ·exact ⟨w, h, p, d, pos + 1, by omega, hp.1, hp.2, by omega, by omega, ev_bind hv (ev_neg c0 (ev_neg c1 (ev_neg c2 (ev_neg c3 (Ev.now _)))))⟩
theorem anyImage_p (b : List Int) (pos : Int) (hb : Bytes b) (h0 : 0 ≤ pos) (h1 : pos ≤ 90000000) :
  ∃ (w h p : Int) (d : List Int) (q : Int), d.length ≤ 1024 ∧ 0 ≤ p ∧ p ≤ 5 ∧ pos ≤ q ∧ q ≤ pos + 3000 ∧ Ev (fun k => spec_anyImage.f k b pos) (w, h, p, d, q) := by
 obtain ⟨p, p1, p2, hp⟩ := anyPlanes_ev b pos hb h0 (by omega)
 obtain ⟨w, h, d, q, _, _, _, _, _, d1, d2, q1, q2, hr⟩ := randomImage_ev b (pos + 1) p hb (by omega) (by omega) ⟨p1, p2⟩
 obtain ⟨w', h', p', d', q', d3, p3, p4, q3, q4, hs⟩ := spoilImage_p b q w h p d hb (by omega) (by omega) d1 (by omega)
 refine ⟨w', h', p', d', q', by omega, p3, p4, by omega, by omega, ?_⟩
 unfold spec_anyImage.f
 exact ev_bind hp (ev_bind hr (ev_bind hs (Ev.now _)))
theorem spoil_ev (b : List Int) (pos z : Int) (l : List Int) (hb : Bytes b) (h0 : 0 ≤ pos) (h1 : pos ≤ 100000000) (hl : l.length ≤ 1000) :
  ∃ (l' : List Int) (q : Int), l'.length ≤ l.length + 1 ∧ pos ≤ q ∧ q ≤ pos + 3 ∧ Ev (fun k => spec_reader_spoil.f k b pos l z) (l', q) := by
 obtain ⟨v, hv, _, _⟩ := pick_in b pos 20 (by omega) hb h0 (by omega)
 unfold spec_reader_spoil.f
 have hc := copyI_px l (by omega)
 by_cases c0 : v = 0
 ·exact ⟨l ++ [z], pos + 1, by simp, by omega, by omega, ev_now hc (ev_bind hv (ev_pos c0 (ev_pos (by omega) (Ev.now _))))⟩
 ·by_cases c1 : v = 1
  ·by_cases c2 : (l.length : Int) > 0
   ·exact ⟨l.drop (1 : Int).toNat, pos + 1, by rw [List.length_drop]; omega, by omega, by omega, ev_now hc (ev_bind hv (ev_neg c0 (ev_pos c1 (ev_pos c2 (ev_pos (by omega) (Ev.now _))))))⟩
   ·exact ⟨l, pos + 1, by omega, by omega, by omega, ev_now hc (ev_bind hv (ev_neg c0 (ev_pos c1 (ev_neg c2 (Ev.now _)))))⟩
  ·by_cases c2 : v = 2
   ·by_cases c3 : (l.length : Int) > 0
    ·obtain ⟨i, hi, i0, i1⟩ := pick_in b (pos + 1) (l.length : Int) (by omega) hb (by omega) (by omega)
     obtain ⟨x, hx, _⟩ := one_in b (pos + 1 + 1) [(-1), z, 0, 1] (by simp) (by simp) hb (by omega) (by omega)
     exact ⟨l.set i.toNat x, pos + 1 + 1 + 1, by rw [List.length_set]; omega, by omega, by omega, ev_now hc (ev_bind hv (ev_neg c0 (ev_neg c1 (ev_pos c2 (ev_pos c3 (ev_bind hi (ev_bind hx (ev_pos i0 (ev_pos i1 (Ev.now _))))))))))⟩
    ·exact ⟨l, pos + 1, by omega, by omega, by omega, ev_now hc (ev_bind hv (ev_neg c0 (ev_neg c1 (ev_pos c2 (ev_neg c3 (Ev.now _))))))⟩
   ·exact ⟨l, pos + 1, by omega, by omega, by omega, ev_now hc (ev_bind hv (ev_neg c0 (ev_neg c1 (ev_neg c2 (Ev.now _)))))⟩
theorem anyPixelLoop (b : List Int) (p : Int) (hb : Bytes b) : ∀ (n i : Nat) (pos : Int) (l : List Int), (i : Int) + n = p → i + n ≤ 5 → l.length = i → 0 ≤ pos → pos + n ≤ 90000010 →
  ∃ (l' : List Int) (q : Int), l'.length ≤ 100 ∧ pos ≤ q ∧ q ≤ pos + n + 3 ∧ Ev (fun k => spec_anyPixel.l0 k p l (i : Int) b pos) (l', q) := by
 intro n
 induction n with
 | zero =>
  intro i pos l hi h5 hl h0 h1
  obtain ⟨l', q, e1, e2, e3, e4⟩ := spoil_ev b pos 256 l hb h0 (by omega) (by omega)
  refine ⟨l', q, by omega, e2, by omega, Ev.step (f := fun k => (spec_reader_spoil.f k b pos l 256).bind fun t => some (t.1, t.2)) (fun k => ?_) (ev_bind e4 (Ev.now _))⟩
  simp only [spec_anyPixel.l0]
  rw [if_neg (by omega)]
 | succ n ih =>
  intro i pos l hi h5 hl h0 h1
  obtain ⟨v, hv, _, _⟩ := pick_in b pos 256 (by omega) hb h0 (by omega)
  obtain ⟨l', q, e1, e2, e3, e4⟩ := ih (i + 1) (pos + 1) (l ++ [v]) (by omega) (by omega) (by simp [hl]) (by omega) (by omega)
  refine ⟨l', q, e1, by omega, by omega, Ev.step (f := fun k => (spec_reader_pick.f k b pos 256).bind fun t => if l.length < 17592186044416 then spec_anyPixel.l0 k p (l ++ [t.1]) ((i + 1 : Nat) : Int) b t.2 else none) (fun k => ?_) (ev_bind hv (ev_pos (by omega) e4))⟩
  simp only [spec_anyPixel.l0]
  rw [if_pos (by omega), w64n i (by omega)]
theorem anyPixel_ev (b : List Int) (pos p : Int) (hb : Bytes b) (h0 : 0 ≤ pos) (h1 : pos ≤ 90000000) (hp : 0 ≤ p ∧ p ≤ 5) :
  ∃ (l' : List Int) (q : Int), l'.length ≤ 100 ∧ pos ≤ q ∧ q ≤ pos + 8 ∧ Ev (fun k => spec_anyPixel.f k b pos p) (l', q) := by
 obtain ⟨n, rfl⟩ := Int.eq_ofNat_of_zero_le hp.1
 obtain ⟨l', q, e1, e2, e3, e4⟩ := anyPixelLoop b n hb n 0 pos [] (by omega) (by omega) rfl h0 (by omega)
 exact ⟨l', q, e1, e2, by omega, e4⟩

/- Rows of steps that are drawn from bytes. -/

theorem anyStep_q (b : List Int) (pos p : Int) (hb : Bytes b) (h0 : 0 ≤ pos) (h1 : pos ≤ 900000) (hp : 0 ≤ p ∧ p ≤ 5) :
  ∃ (kind X Y W H : Int) (pix : List Int) (q : Int), pix.length ≤ 100 ∧ pos ≤ q ∧ q ≤ pos + 50 ∧ Ev (fun k => spec_anyStep.f k b pos p) (kind, X, Y, W, H, pix, q) := by
 obtain ⟨kind, hk, _⟩ := one_in b pos [0, 1, 2, 3, 4, 0, 1, 2, 5, (-1)] (by simp) (by simp) hb h0 (by omega)
 have key : ∀ t : Bool, ∃ (X Y W H : Int) (pix : List Int) (q : Int), pix.length ≤ 100 ∧ pos ≤ q ∧ q ≤ pos + 50 ∧ Ev (fun k => spec_anyStep.j0 k p t b (pos + 1) kind 0 0 0 0) (kind, X, Y, W, H, pix, q) := by
  intro t
  cases t with
  | true =>
   obtain ⟨X, Y, W, H, hB⟩ := anyBox_any b (pos + 1) hb (by omega) (by omega)
   by_cases c : kind = 4
   ·obtain ⟨l, q, e1, e2, e3, e4⟩ := anyPixel_ev b (pos + 1 + 1 + 1 + 1 + 1) p hb (by omega) (by omega) hp
    refine ⟨X, Y, W, H, l, q, e1, by omega, by omega, Ev.step (f := fun k => (spec_anyBox.f k b (pos + 1)).bind fun t => if kind = 4 then ((spec_anyPixel.f k b t.2.2.2.2 p).bind fun u => some (kind, t.1, t.2.1, t.2.2.1, t.2.2.2.1, u.1, u.2)) else some (kind, t.1, t.2.1, t.2.2.1, t.2.2.2.1, [], t.2.2.2.2)) (fun k => ?_) (ev_bind hB (ev_pos c (ev_bind e4 (Ev.now _))))⟩
    simp only [spec_anyStep.j0]
    rw [if_pos trivial]
   ·refine ⟨X, Y, W, H, [], pos + 1 + 1 + 1 + 1 + 1, by simp, by omega, by omega, Ev.step (f := fun k => (spec_anyBox.f k b (pos + 1)).bind fun t => if kind = 4 then ((spec_anyPixel.f k b t.2.2.2.2 p).bind fun u => some (kind, t.1, t.2.1, t.2.2.1, t.2.2.2.1, u.1, u.2)) else some (kind, t.1, t.2.1, t.2.2.1, t.2.2.2.1, [], t.2.2.2.2)) (fun k => ?_) (ev_bind hB (ev_neg c (Ev.now _)))⟩
    simp only [spec_anyStep.j0]
    rw [if_pos trivial]
  | false =>
   by_cases c : kind = 4
   ·obtain ⟨l, q, e1, e2, e3, e4⟩ := anyPixel_ev b (pos + 1) p hb (by omega) (by omega) hp
    refine ⟨0, 0, 0, 0, l, q, e1, by omega, by omega, Ev.step (f := fun k => if kind = 4 then ((spec_anyPixel.f k b (pos + 1) p).bind fun u => some (kind, (0 : Int), (0 : Int), (0 : Int), (0 : Int), u.1, u.2)) else some (kind, 0, 0, 0, 0, [], pos + 1)) (fun k => ?_) (ev_pos c (ev_bind e4 (Ev.now _)))⟩
    simp only [spec_anyStep.j0]
    rw [if_neg (by simp)]
   ·refine ⟨0, 0, 0, 0, [], pos + 1, by simp, by omega, by omega, Ev.step (f := fun k => if kind = 4 then ((spec_anyPixel.f k b (pos + 1) p).bind fun u => some (kind, (0 : Int), (0 : Int), (0 : Int), (0 : Int), u.1, u.2)) else some (kind, 0, 0, 0, 0, [], pos + 1)) (fun k => ?_) (ev_neg c (Ev.now _))⟩
    simp only [spec_anyStep.j0]
    rw [if_neg (by simp)]
 unfold spec_anyStep.f
 by_cases c : kind = 3
 ·obtain ⟨X, Y, W, H, pix, q, e1, e2, e3, e4⟩ := key true
  exact ⟨kind, X, Y, W, H, pix, q, e1, e2, e3, ev_bind hk (ev_pos c e4)⟩
 ·obtain ⟨X, Y, W, H, pix, q, e1, e2, e3, e4⟩ := key (kind == 4)
  exact ⟨kind, X, Y, W, H, pix, q, e1, e2, e3, ev_bind hk (ev_neg c e4)⟩

abbrev StepD := S43
theorem anySteps_loop (b : List Int) (hb : Bytes b) (p : Int) (hp : 0 ≤ p ∧ p ≤ 5) : ∀ (n : Nat) (l : List StepD) (pos : Int), n ≤ 13 → 0 ≤ pos → pos ≤ 700000 - 60 * n → l.length + n ≤ 13 → (∀ s ∈ l, s.f2.length ≤ 100) →
  ∃ (l' : List StepD) (q : Int), l'.length ≤ 13 ∧ (∀ s ∈ l', s.f2.length ≤ 100) ∧ Ev (fun k => spec_anySteps.l0 k p l (n : Int) b pos) (l', q) := by
 intro n
 induction n with
 | zero => exact fun l pos _ h0 h1 hl hs => ⟨l, pos, by omega, hs, Ev.step (f := fun _ => some (l, pos)) (fun k => by simp only [spec_anySteps.l0]; rw [if_neg (by simp)]) (Ev.now _)⟩
 | succ n ih =>
  intro l pos hn h0 h1 hl hs
  obtain ⟨v, hv, v0, v1⟩ := pick_in b pos 3 (by omega) hb h0 (by omega)
  have e1 : wrap64 (((n + 1 : Nat) : Int) - 1) = (n : Int) := by rw [w64 (by omega) (by omega)]; omega
  by_cases c : v > 0
  ·obtain ⟨u, hu, u0, u1⟩ := pick_in b (pos + 1) 3 (by omega) hb (by omega) (by omega)
   obtain ⟨l', q, r1, r2, r3⟩ := ih (l ++ [(⟨u, ⟨0, 0, 0, 0⟩, []⟩ : StepD)]) (pos + 1 + 1) (by omega) (by omega) (by omega) (by simp; omega) (fun s h => by
    rcases List.mem_append.1 h with h | h
    ·exact hs s h
    ·rw [List.mem_singleton.1 h]; simp)
   refine ⟨l', q, r1, r2, Ev.step (f := fun k => (spec_reader_pick.f k b pos 3).bind fun t => if t.1 > 0 then ((spec_reader_pick.f k b t.2 3).bind fun u => if l.length < 2199023255552 then spec_anySteps.l0 k p (l ++ [(⟨u.1, ⟨0, 0, 0, 0⟩, []⟩ : StepD)]) (n : Int) b u.2 else none) else ((spec_anyStep.f k b t.2 p).bind fun u => if l.length < 2199023255552 then spec_anySteps.l0 k p (l ++ [(⟨u.1, ⟨u.2.1, u.2.2.1, u.2.2.2.1, u.2.2.2.2.1⟩, u.2.2.2.2.2.1⟩ : StepD)]) (n : Int) b u.2.2.2.2.2.2 else none)) (fun k => ?_) (ev_bind hv (ev_pos c (ev_bind hu (ev_pos (by omega) r3))))⟩
   simp only [spec_anySteps.l0]
   rw [if_pos (by omega), e1]
  ·obtain ⟨kind, X, Y, W, H, pix, q0, p1, p2, p3, hu⟩ := anyStep_q b (pos + 1) p hb (by omega) (by omega) hp
   obtain ⟨l', q, r1, r2, r3⟩ := ih (l ++ [(⟨kind, ⟨X, Y, W, H⟩, pix⟩ : StepD)]) q0 (by omega) (by omega) (by omega) (by simp; omega) (fun s h => by
    rcases List.mem_append.1 h with h | h
    ·exact hs s h
    ·rw [List.mem_singleton.1 h]; exact p1)
   refine ⟨l', q, r1, r2, Ev.step (f := fun k => (spec_reader_pick.f k b pos 3).bind fun t => if t.1 > 0 then ((spec_reader_pick.f k b t.2 3).bind fun u => if l.length < 2199023255552 then spec_anySteps.l0 k p (l ++ [(⟨u.1, ⟨0, 0, 0, 0⟩, []⟩ : StepD)]) (n : Int) b u.2 else none) else ((spec_anyStep.f k b t.2 p).bind fun u => if l.length < 2199023255552 then spec_anySteps.l0 k p (l ++ [(⟨u.1, ⟨u.2.1, u.2.2.1, u.2.2.2.1, u.2.2.2.2.1⟩, u.2.2.2.2.2.1⟩ : StepD)]) (n : Int) b u.2.2.2.2.2.2 else none)) (fun k => ?_) (ev_bind hv (ev_neg c (ev_bind hu (ev_pos (by omega) r3))))⟩
   simp only [spec_anySteps.l0]
   rw [if_pos (by omega), e1]
theorem drawSteps (code : List Int) (hw : ∀ x ∈ code, (Lit.int .u8 x).wf = true) : ∃ (w h p : Int) (d : List Int) (l : List StepD), d.length ≤ 1024 ∧ l.length ≤ 13 ∧ (∀ s ∈ l, s.f2.length ≤ 100) ∧ Ev (fun k => spec_DrawRunSteps.f k code) (w, h, p, d, l) := by
 obtain ⟨b, hb, hB⟩ := newReader_at code (code_bytes code hw)
 obtain ⟨w, h, p, d, q, hd, p1, p2, q1, q2, he⟩ := anyImage_p b 0 hB (by omega) (by omega)
 obtain ⟨v, hv, hm⟩ := one_in b q [2, 4, 6, 8, 1, 0, 12, 13] (by simp) (by simp) hB (by omega) (by omega)
 have hn : 0 ≤ v ∧ v ≤ 13 := by simp at hm; omega
 obtain ⟨n, rfl⟩ := Int.eq_ofNat_of_zero_le hn.1
 obtain ⟨l', q', r1, r2, r3⟩ := anySteps_loop b hB p ⟨p1, p2⟩ n [] (q + 1) (by omega) (by omega) (by omega) (by simp; omega) (fun s h => by simp at h)
 refine ⟨w, h, p, d, l', hd, r1, r2, ?_⟩
 unfold spec_DrawRunSteps.f spec_anySteps.f
 exact ev_now hb (ev_bind he (ev_bind (ev_bind hv r3) (Ev.now _)))

/- Lists of numbers and images, compared one by one. -/

theorem equalIntsC (l m : List Int) (hl : l.length ≤ 1000000) : Ev (fun k => laws_equalInts.f k l m) (decide (l = m)) := by
 unfold laws_equalInts.f
 by_cases hn : l.length = m.length
 ·have key := ev_up l.length (fun k i (_ : Unit) => laws_equalInts.l0 k l m (i : Int)) (fun _ _ => True) (fun i _ => decide (l.drop i = m.drop i))
   (by
    intro i s hi _
    have e1 := List.drop_eq_getElem_cons hi
    have e2 := List.drop_eq_getElem_cons (show i < m.length by omega)
    by_cases c : l[i] = m[i]'(by omega)
    ·refine .inr ⟨(), fun k => ?_, trivial, ?_⟩
     ·simp only [laws_equalInts.l0]
      rw [if_pos (by omega), if_pos (by omega), if_pos (by omega), rd_nat l i hi, rd_nat m i (by omega), if_pos c, w64n i (by omega)]
     ·rw [e1, e2, decide_eq_decide, List.cons.injEq]
      exact ⟨fun h => ⟨c, h⟩, fun h => h.2⟩
    ·left
     rw [e1, e2, decide_eq_false (by rw [List.cons.injEq]; exact fun h => c h.1)]
     refine Ev.step (f := fun _ => some false) (fun k => ?_) (Ev.now _)
     simp only [laws_equalInts.l0]
     rw [if_pos (by omega), if_pos (by omega), if_pos (by omega), rd_nat l i hi, rd_nat m i (by omega), if_neg c])
   (by
    intro s _
    refine Ev.step (f := fun _ => some true) (fun k => ?_) (ev_const (by rw [List.drop_length, hn, List.drop_length]; rfl))
    simp only [laws_equalInts.l0]
    rw [if_neg (by omega)])
   l.length 0 () (by omega) trivial
  exact ev_pos (by omega) (by simpa using key)
 ·refine ev_neg (by omega) ?_
  rw [decide_eq_false (fun h => hn (by rw [h]))]
  exact Ev.now _
theorem equalImage_ev (a b p : Int) (d : List Int) (a' b' p' : Int) (d' : List Int) (hl : d.length ≤ 1000000) : Ev (fun k => laws_equalImage.f k a b p d a' b' p' d') (decide (a = a' ∧ b = b' ∧ p = p' ∧ d = d')) := by
 unfold laws_equalImage.f
 by_cases c1 : a = a'
 ·refine ev_pos c1 ?_
  by_cases c2 : b = b'
  ·refine ev_pos c2 ?_
   by_cases c3 : p = p'
   ·refine ev_pos c3 ?_
    rw [decide_eq_decide.2 (show (a = a' ∧ b = b' ∧ p = p' ∧ d = d') ↔ d = d' from ⟨fun h => h.2.2.2, fun h => ⟨c1, c2, c3, h⟩⟩)]
    exact ev_bind (equalIntsC d d' hl) (Ev.now _)
   ·refine ev_neg c3 ?_
    rw [decide_eq_false (fun h => c3 h.2.2.1)]
    exact Ev.now _
  ·refine ev_neg c2 ?_
   rw [decide_eq_false (fun h => c2 h.2.1)]
   exact Ev.now _
 ·refine ev_neg c1 ?_
  rw [decide_eq_false (fun h => c1 h.1)]
  exact Ev.now _
end Go.Proofs.Ytgccpcnakkioiaa.Pure

/- impl.imageBy: the image whose pixels a function value tells. -/
namespace Go.Proofs.Ytgccpcnakkioiaa.Q
open Go.RowKit Go.Proofs.YtgccpcnakkioiaaW.PrintWords Go.Proofs.YtgccpcnakkioiaaW.PrintLast Go.Proofs.YtgccpcnakkioiaaW.PrintMore
open Go.Proofs.YtgccpcnakkioiaaW.PrintWords.Aside0 (mk)
attribute [local go_sem] max2_int min2_int max_two min_two max_three min_three max_four min_four
set_option linter.unusedVariables false
set_option linter.unusedSimpArgs false
open Go.Proofs.Ytgccpcnakkioiaa.Pure

set_option maxHeartbeats 4000000 in
set_option maxRecDepth 100000 in
theorem imageBy_calls (q : Nat) (lb : Array Value) (px : Nat → Nat → List Int) (a b : Nat) (p : Int) (ha : a ≤ 16) (hb_ : b ≤ 16) (w : World)
  (eg : ∀ args W, (callFunc q args).run Try.prog W = .ok (.enter q args) W) (hpl : ∀ x y, x < a → y < b → (px x y).length ≤ 4)
  (hp : ∀ (W : World) (x y : Nat), x < a → y < b → Below w.heap.size w W → Calls Try.prog q (#[.int .i64 (x : Int), .int .i64 (y : Int)] ++ lb) W fun e W' => ∃ (A : Option Addr) (c : Nat), e = .returned (.slice A (px x y).length c) ∧ Kd.C (Kd.int .i64) W' A (px x y).length (px x y) ∧ (px x y).length ≤ c ∧ Below W.heap.size W W') :
  Calls Try.prog 53 #[.int .i64 (a : Int), .int .i64 (b : Int), .int .i64 p, .func (.func q) #[] lb] w fun e w' => ∃ v3_ : Value, e = .returned (.agg #[.int .i64 (a : Int), .int .i64 (b : Int), .int .i64 p, v3_]) ∧ Kd.R (Kd.int .i64) 3 w' w.heap.size (fun _ => True) v3_ (imgD px a b) ∧ Below w.heap.size w w' := by
 have HP := mk hp
 have EG := mk eg
 have HB0 := mk (Below.refl w.heap.size w)
 have hu := Try.underlying28
 have hui := Try.underlying22
 clear hp eg
 go_enter Try.func53, Try.ntmps53
 go_wp2_with (first
  | ((with_reducible refine gate_dst (N := 8) rfl ?_); refine box_event ?hg (N := 8) ?hd (cs := #[.int .i64 0, .int .i64 0, .int .i64 0, .slice none 0 0]) (t := 28) ?hr ?_; (case hd => rfl); (case hg => rfl); (case hr => first | (go_simp; done) | (go_simp; rfl)); intro g8 hg_ w1 hbox hb; have HB1 := mk (below_then HB0.out HB0.out.size hb); have K1 := mk hbox; have Gg8 := mk (show w.heap.size ≤ g8 from by rw [hg_]; exact HB0.out.size); clear hbox hb hg_))
 have HGM := blk_new w1 (.cells #[.int .i64 (a : Int), .int .i64 (b : Int), .int .i64 p, .slice none 0 0] 28 (0, 0))
 obtain ⟨g9, hg9⟩ : ∃ g9, g9 = w1.heap.size := ⟨_, rfl⟩
 have G89 : g8 < g9 := by rw [hg9]; exact blk_lt K1.out
 have GE9 : w.heap.size ≤ g9 := by have := Gg8.out; omega
 rw [← hg9] at HGM ⊢
 go_loopw [17] (fun v17 W => ∃ y : Nat, v17 = .int .i64 y ∧ y ≤ b ∧ (∃ (v : Value) (D : List Int), Aside0 (D = imgD px a y) ∧ Aside0 (D.length ≤ 64 * y) ∧ Aside0 (Kd.R (Kd.int .i64) 3 W w.heap.size (fun _ => True) v D) ∧ Aside0 (W.heap[g9]? = some (.cells #[.int .i64 (a : Int), .int .i64 (b : Int), .int .i64 p, v] 28 (0, 0)))) ∧ Aside0 (W.heap[g8]? = some (.cells #[.int .i64 0, .int .i64 0, .int .i64 0, .slice none 0 0] 28 (0, 0))) ∧ Aside0 (Below w.heap.size w W)) (fun v17 _ => b - (intOf v17).toNat)
 case atStart => exact ⟨0, rfl, by omega, ⟨_, [], ⟨rfl⟩, ⟨by simp⟩, ⟨Kd.R_nil _ _ _ _ _⟩, ⟨HGM⟩⟩, ⟨blk_alloc K1.out _⟩, ⟨below_alloc HB1.out _⟩⟩
 case round =>
  clear HGM hg9
  obtain ⟨y, rfl, hy, ⟨v, D, hD, hdl, hr, h9⟩, h8, hb⟩ := hrel
  by_cases hly : y < b
  ·have hdy : decide ((y : Int) < (b : Int)) = true := by simp; omega
   go_wp2
   go_loopw [21] (fun v21 W => ∃ x : Nat, v21 = .int .i64 x ∧ x ≤ a ∧ (∃ (v : Value) (D : List Int), Aside0 (D = imgD px a y ++ rowD px x y) ∧ Aside0 (D.length ≤ 64 * y + 4 * x) ∧ Aside0 (Kd.R (Kd.int .i64) 3 W w.heap.size (fun _ => True) v D) ∧ Aside0 (W.heap[g9]? = some (.cells #[.int .i64 (a : Int), .int .i64 (b : Int), .int .i64 p, v] 28 (0, 0)))) ∧ Aside0 (W.heap[g8]? = some (.cells #[.int .i64 0, .int .i64 0, .int .i64 0, .slice none 0 0] 28 (0, 0))) ∧ Aside0 (Below w.heap.size w W)) (fun v21 _ => a - (intOf v21).toNat)
   case atStart => exact ⟨0, rfl, by omega, ⟨v, D, ⟨by rw [hD.out]; simp [rowD]⟩, hdl, hr, h9⟩, h8, hb⟩
   case round =>
    clear hr h9 h8 hb hdl hD
    obtain ⟨x, rfl, hx, ⟨v, D, hD, hdl, hr, h9⟩, h8, hb⟩ := hrel
    by_cases hlx : x < a
    ·have hdx : decide ((x : Int) < (a : Int)) = true := by simp; omega
     go_wp2
     refine start_ (n := 9) (S := fun w' => w'.cell? ⟨g9, 3, none⟩ = some v) (ds := [8]) #[false, false, false, false, false, false, false, false, false] (by kernel_rfl) rfl rfl (((blk_cell (w := wr.drew) h9.out 3).trans rfl)) (fun hHeld => ?_)
     refine pure_ (i := 0) (N := some 24) (v := ?_) (a' := ?_) #[true, false, false, false, false, false, false, false, false] rfl rfl (by kernel_rfl) (fun _ _ _ h => h) (Or.inl ⟨by rfl, ?_⟩) ?_ ?_
     rotate_left
     ·intro w'
      go_simp
      with_reducible rfl
     rotate_left
     ·simp only [Act.put, List.setIfInBounds_toArray, List.set_cons_zero, List.set_cons_succ, i64_w, i32_w]
      rfl
     refine pure_ (i := 2) (N := some 26) (v := ?_) (a' := ?_) #[true, false, true, false, false, false, false, false, false] rfl rfl (by kernel_rfl) (fun _ _ _ h => h) (Or.inl ⟨by rfl, ?_⟩) ?_ ?_
     rotate_left
     ·intro w'
      go_simp
      with_reducible rfl
     rotate_left
     ·simp only [Act.put, List.setIfInBounds_toArray, List.set_cons_zero, List.set_cons_succ, i64_w, i32_w]
      rfl
     refine pure_ (i := 3) (N := some 27) (v := ?_) (a' := ?_) #[true, false, true, true, false, false, false, false, false] rfl rfl (by kernel_rfl) (fun _ _ _ h => h) (Or.inl ⟨by rfl, ?_⟩) ?_ ?_
     rotate_left
     ·intro w'
      go_simp
      with_reducible rfl
     rotate_left
     ·simp only [Act.put, List.setIfInBounds_toArray, List.set_cons_zero, List.set_cons_succ, i64_w, i32_w]
      rfl
     refine pure_ (i := 4) (N := some 28) (v := ?_) (a' := ?_) #[true, false, true, true, true, false, false, false, false] rfl rfl (by kernel_rfl) (fun _ _ _ h => h) (Or.inl ⟨by rfl, ?_⟩) ?_ ?_
     rotate_left
     ·intro w'
      go_simp
      with_reducible rfl
     rotate_left
     ·simp only [Act.put, List.setIfInBounds_toArray, List.set_cons_zero, List.set_cons_succ, i64_w, i32_w]
      rfl
     refine take_ (i := 1) (N := some 25) (v := ?_) (a' := ?_) #[true, true, true, true, true, false, false, false, false] rfl rfl (by kernel_rfl) (fun _ _ _ h => h) (Or.inl ⟨by rfl, ?_⟩) hHeld ?_ ?_
     rotate_left
     ·intro w' s0
      go_simp
      with_reducible rfl
     rotate_left
     ·simp only [Act.put, List.setIfInBounds_toArray, List.set_cons_zero, List.set_cons_succ, i64_w, i32_w]
      rfl
     refine one_ (i := 5) (N := some 29) #[true, true, true, true, true, true, false, false, false] rfl rfl (by kernel_rfl) (by decide) (fun K hK => ?_)
     refine call_ q (#[.int .i64 (x : Int), .int .i64 (y : Int)] ++ lb) (by rfl) rfl (fn_runs q lb EG.out rfl rfl _ (by simp only [List.map_toArray, List.map_cons, List.map_nil]; rfl)) ?_
     refine (HP.out _ x y hlx hly (below_drew hb.out)).mono ?_
     rintro e w3 ⟨A, c, rfl, hC, hl3, hb3⟩
     refine ⟨_, rfl, ?_⟩
     have h93 := mk (blk_below (w := wr.drew) h9.out hb3)
     have h83 := mk (blk_below (w := wr.drew) h8.out hb3)
     have hr3 := mk (Kd.R_below (Kd.R_drew hr.out) hb3)
     have hbb3 := mk (below_then (below_drew hb.out) (below_drew hb.out).size hb3)
     have hC3 := mk hC
     have hl3' := mk hl3
     have HPL := mk (hpl x y hlx hly)
     clear hb3 hC hl3
     refine hK.out _ _ (((blk_cell h93.out 3).trans rfl)) (fun hHeld => ?_)
     clear hK K
     refine norm_ (a' := ?_) ?_ ?_
     rotate_left
     ·show Act.put _ (some 29) _ = _
      simp only [Act.put, List.setIfInBounds_toArray, List.set_cons_zero, List.set_cons_succ, i64_w, i32_w]
      rfl
     refine one_ (i := 6) (N := some 30) #[true, true, true, true, true, true, true, false, false] rfl rfl (by kernel_rfl) (by decide) (fun K hK => ?_)
     refine Kd.R_append_rows_step (Kd.int .i64) (w0 := w) w.heap.size (by rfl) (.tmp 25) (.tmp 29) 22 3 (.int .i64 0) 8 rfl Try.underlying22 info3 rfl (by decide) (by omega) v D (px x y) _ _ _ (fun _ => True) (fun _ => False) rfl rfl hr3.out hC3.out (fun _ _ h => h) (fun _ h => h.elim) (fun _ _ => trivial) hbb3.out hbb3.out.size (by have := HPL.out; have := hdl.out; omega) ?_
     intro v5 w5 ho hb5 hg hat
     have h95 := mk (blk_grown h93.out hg (Kd.R_ne hr3.out h93.out (by decide)))
     have h85 := mk (blk_grown h83.out hg (Kd.R_ne hr3.out h83.out (by decide)))
     have ho5 := mk ho
     have hbb5 := mk hb5
     clear ho hb5 hg hat
     obtain ⟨A5, q5, e5⟩ := Kd.R_slice ho5.out
     subst e5
     refine hK.out _ _ (((blk_cell h95.out 3).trans rfl)) (fun hHeld => ?_)
     clear hK K
     refine norm_ (a' := ?_) ?_ ?_
     rotate_left
     ·show Act.put _ (some 30) _ = _
      simp only [Act.put, List.setIfInBounds_toArray, List.set_cons_zero, List.set_cons_succ, i64_w, i32_w]
      rfl
     refine pure_ (i := 7) (N := some 31) (v := ?_) (a' := ?_) #[true, true, true, true, true, true, true, true, false] rfl rfl (by kernel_rfl) (fun _ _ _ h => h) (Or.inl ⟨by rfl, ?_⟩) ?_ ?_
     rotate_left
     ·intro w'
      go_simp
      with_reducible rfl
     rotate_left
     ·simp only [Act.put, List.setIfInBounds_toArray, List.set_cons_zero, List.set_cons_succ, i64_w, i32_w]
      rfl
     refine last_ (i := 8) (N := none) #[true, true, true, true, true, true, true, true, true] rfl rfl (by kernel_rfl) (by decide) (fun K hK => ?_)
     have c95 := (blk_cell h95.out 3).trans rfl
     have f95 := blk_frozen h95.out 3
     refine skip_ (w1 := ?_) (by rfl) rfl ?_ ?_
     rotate_left
     ·go_simp
      rfl
     refine hK.out _ _ ?_
     clear hK K
     refine done_ (by kernel_rfl) ?_
     go_wp2
     exact ⟨⟨x + 1, by go_num, by omega, ⟨_, D ++ px x y, ⟨by rw [hD.out, rowD_succ, List.append_assoc]⟩, ⟨by rw [List.length_append]; have := hdl.out; have := HPL.out; omega⟩, ⟨Kd.R_mono (Kd.R_far (p := ⟨g9, 3, none⟩) (Kd.R_types ho5.out h95.out (by decide)) (fun _ hk => hk.2) _) (fun _ _ => trivial)⟩, ⟨blk_put h95.out 3 _ (by rw [List.length_append]; rfl)⟩⟩, ⟨blk_far h85.out (by simp; omega) _⟩, ⟨below_set hbb5.out (by omega)⟩⟩, by simp [intOf]; omega⟩
    have hdx : decide ((x : Int) < (a : Int)) = false := by simp; omega
    have hxe : x = a := by omega
    subst hxe
    go_wp2
    go_roundw
    case rel => exact ⟨y + 1, by go_num, by omega, ⟨v, D, ⟨by rw [hD.out, imgD_succ]⟩, ⟨by have := hdl.out; omega⟩, hr, h9⟩, h8, hb⟩
    case measure => simp [intOf]; omega
  have hdy : decide ((y : Int) < (b : Int)) = false := by simp; omega
  have hye : y = b := by omega
  subst hye
  have m0 := blk_cell h9.out 0; have m1 := blk_cell h9.out 1; have m2 := blk_cell h9.out 2; have m3 := blk_cell h9.out 3
  have z0 := blk_cell h8.out 0; have z1 := blk_cell h8.out 1; have z2 := blk_cell h8.out 2; have z3 := blk_cell h8.out 3
  have y0 := blk_frozen h8.out 0; have y1 := blk_frozen h8.out 1; have y2 := blk_frozen h8.out 2; have y3 := blk_frozen h8.out 3
  obtain ⟨A5, q5, e5⟩ := Kd.R_slice hr.out
  subst e5
  go_wp2
  have hD' := hD.out
  subst hD'
  have RR := Kd.R_types hr.out h8.out (by decide)
  have G8 := Gg8.out
  have H8 := h8.out
  refine bodyPost_ret (results_cell_row rfl _ _ g8 28 #[.int .i64 (a : Int), .int .i64 (y : Int), .int .i64 p, .slice A5 (imgD px a y).length q5] (0, 0) _ rfl (by
   refine blk_put (cs := #[.int .i64 (a : Int), .int .i64 (y : Int), .int .i64 p, .slice none 0 0]) ?_ 3 _ rfl
   refine blk_put (cs := #[.int .i64 (a : Int), .int .i64 (y : Int), .int .i64 0, .slice none 0 0]) ?_ 2 _ rfl
   refine blk_put (cs := #[.int .i64 (a : Int), .int .i64 0, .int .i64 0, .slice none 0 0]) ?_ 1 _ rfl
   refine blk_put (cs := #[.int .i64 0, .int .i64 0, .int .i64 0, .slice none 0 0]) ?_ 0 _ rfl
   exact H8
   ) hu rfl (by kernel_rfl)) rfl ?_
  exact ⟨_, rfl, Kd.R_mono (Kd.R_far (Kd.R_far (Kd.R_far (Kd.R_far RR (fun k hk => hk.2) _) (fun k hk => hk.2) _) (fun k hk => hk.2) _) (fun k hk => hk.2) _) (fun _ _ => trivial), below_set (below_set (below_set (below_set hb.out (by omega)) (by omega)) (by omega)) (by omega)⟩
end Go.Proofs.Ytgccpcnakkioiaa.Q

/- (impl.Image).at: the numbers of a pixel, in the memory of the image. -/
namespace Go.Proofs.Ytgccpcnakkioiaa.Q
open Go.RowKit Go.Proofs.YtgccpcnakkioiaaW.PrintWords Go.Proofs.YtgccpcnakkioiaaW.PrintLast Go.Proofs.YtgccpcnakkioiaaW.PrintMore
attribute [local go_sem] max2_int min2_int max_two min_two max_three min_three max_four min_four
set_option linter.unusedVariables false
set_option linter.unusedSimpArgs false
open Go.Proofs.Ytgccpcnakkioiaa.Pure

def pixT (d : List Int) (j p : Int) : List Int := (d.take (wrap64 (j + p) : Int).toNat).drop (j : Int).toNat
set_option maxHeartbeats 1600000 in
set_option maxRecDepth 100000 in
theorem at_callsX (a b p : Int) (A : Option Addr) (c n : Nat) (x y j : Int) (hc : n ≤ c) (hj : wrap64 ((wrap64 ((wrap64 (y * a)) + x)) * p) = j) (h0 : 0 ≤ j) (h1 : j ≤ wrap64 (j + p)) (h2 : wrap64 (j + p) ≤ (n : Int)) (A' : Option Addr) (hA : A' = if c = j.toNat then A else A.map (·.add (j.toNat * 1))) (w : World) :
  Calls Try.prog 55 #[.agg #[.int .i64 a, .int .i64 b, .int .i64 p, .slice A n c], .int .i64 x, .int .i64 y] w fun e w' => e = .returned (.slice A' ((wrap64 (j + p)).toNat - j.toNat) (c - j.toNat)) ∧ Below w.heap.size w w' := by
 obtain ⟨i0, hi0, _, hsz, _⟩ := info_parts info3
 have hcut := cut_mid (P := Try.prog) 22 3 .i64 .i64 Try.underlying22 hi0 1 hsz A n c j (wrap64 (j + p)) h0 h1 h2 hc
 rw [← hA] at hcut
 clear hA
 have hu := Try.underlying28
 have hjw : (IntKind.i64.wrap ((wrap64 ((wrap64 (y * a)) + x)) * p)) = j := (i64_w _).trans hj
 have d0 : decide (0 ≤ j) = true := decide_eq_true h0
 have d1 : decide (j ≤ wrap64 (j + p)) = true := decide_eq_true h1
 have d2 : decide (wrap64 (j + p) ≤ (n : Int)) = true := decide_eq_true h2
 have e0 := eq_true h0
 have e1 := eq_true h1
 have e2 := eq_true h2
 clear hi0 hsz hj
 go_enter Try.func55, Try.ntmps55
 go_wp2_with (first | ((with_reducible refine gate_dst (N := 3) rfl ?_); refine box_event ?hg (N := 3) ?hd (cs := #[.int .i64 a, .int .i64 b, .int .i64 p, .slice A n c]) (t := 28) ?hr ?_; (case hd => rfl); (case hg => rfl); (case hr => first | (go_simp; done) | (go_simp; rfl)); intro gb hg w9 hbox hb; have HB := Aside0.mk (below_step (Below.refl w.heap.size w) hb); have BK := Aside0.mk hbox; have hcz0 : w9.cell? ⟨gb, 0, none⟩ = some (.int .i64 a) := (blk_cell BK.out 0).trans rfl; have hcz1 : w9.cell? ⟨gb, 1, none⟩ = some (.int .i64 b) := (blk_cell BK.out 1).trans rfl; have hcz2 : w9.cell? ⟨gb, 2, none⟩ = some (.int .i64 p) := (blk_cell BK.out 2).trans rfl; have hcz3 : w9.cell? ⟨gb, 3, none⟩ = some (.slice A n c) := (blk_cell BK.out 3).trans rfl; clear hbox hb hg))
 go_ret
 exact ⟨rfl, HB.out⟩
theorem pixT_length (d : List Int) (j p : Int) (h2 : wrap64 (j + p) ≤ (d.length : Int)) : (pixT d j p).length = (wrap64 (j + p)).toNat - j.toNat := by
 unfold pixT
 rw [List.length_drop, List.length_take, Nat.min_eq_left (by omega)]
theorem pixT_C {w : World} {A : Option Addr} {c : Nat} {d : List Int} {j p : Int} (h : Kd.C (Kd.int .i64) w A d.length d) (hc : d.length ≤ c) (h1 : j ≤ wrap64 (j + p)) (h2 : wrap64 (j + p) ≤ (d.length : Int)) :
  Kd.C (Kd.int .i64) w (if c = j.toNat then A else A.map (·.add (j.toNat * 1))) (pixT d j p).length (pixT d j p) := Kd.C_mid h (by omega) (by omega) hc
theorem at_calls (a b p : Int) (A : Option Addr) (c : Nat) (d : List Int) (x y j : Int) (hc : d.length ≤ c) (hj : wrap64 ((wrap64 ((wrap64 (y * a)) + x)) * p) = j) (h0 : 0 ≤ j) (h1 : j ≤ wrap64 (j + p)) (h2 : wrap64 (j + p) ≤ (d.length : Int)) :
  ∃ (A' : Option Addr) (c' : Nat), (pixT d j p).length ≤ c' ∧ ∀ w : World, Kd.C (Kd.int .i64) w A d.length d → (Kd.C (Kd.int .i64) w A' (pixT d j p).length (pixT d j p) ∧
   Calls Try.prog 55 #[.agg #[.int .i64 a, .int .i64 b, .int .i64 p, .slice A d.length c], .int .i64 x, .int .i64 y] w fun e w' => e = .returned (.slice A' (pixT d j p).length c') ∧ Below w.heap.size w w') := by
 refine ⟨_, c - j.toNat, by rw [pixT_length d j p h2]; omega, fun w hr => ⟨pixT_C hr hc h1 h2, ?_⟩⟩
 rw [pixT_length d j p h2]
 exact at_callsX a b p A c d.length x y j hc hj h0 h1 h2 _ rfl w
end Go.Proofs.Ytgccpcnakkioiaa.Q

/- impl.mapImage: a copy of an image with each number replaced. -/
namespace Go.Proofs.Ytgccpcnakkioiaa.Q
open Go.RowKit Go.Proofs.YtgccpcnakkioiaaW.PrintWords Go.Proofs.YtgccpcnakkioiaaW.PrintLast Go.Proofs.YtgccpcnakkioiaaW.PrintMore
open Go.Proofs.YtgccpcnakkioiaaW.PrintWords.Aside0 (mk)
attribute [local go_sem] max2_int min2_int max_two min_two max_three min_three max_four min_four
set_option linter.unusedVariables false
set_option linter.unusedSimpArgs false
open Go.Proofs.Ytgccpcnakkioiaa.Pure

def mapped (f : Int → Int) (d : List Int) (i : Nat) : List Int := (d.take i).map f ++ d.drop i
theorem mapped_length (f : Int → Int) (d : List Int) (i : Nat) : (mapped f d i).length = d.length := by simp only [mapped, List.length_append, List.length_map, List.length_take, List.length_drop]; omega
theorem mapped_get (f : Int → Int) (d : List Int) (i : Nat) (h : i < d.length) : (mapped f d i).getD i 0 = d[i] := by
 unfold mapped
 rw [List.getD_eq_getElem?_getD, List.getElem?_append_right (by simp; omega)]
 simp [Nat.min_eq_left (Nat.le_of_lt h), List.getElem?_eq_getElem h]
theorem mapped_set (f : Int → Int) (d : List Int) (i : Nat) (h : i < d.length) : (mapped f d i).set i (f d[i]) = mapped f d (i + 1) := by
 unfold mapped
 rw [List.set_append_right _ _ (by simp; omega), List.take_succ_eq_append_getElem h, List.map_append, List.append_assoc]
 congr 1
 rw [List.length_map, List.length_take, Nat.min_eq_left (Nat.le_of_lt h), Nat.sub_self, List.drop_eq_getElem_cons h]
 rfl
theorem mapped_zero (f : Int → Int) (d : List Int) : mapped f d 0 = d := by simp [mapped]
theorem mapped_all (f : Int → Int) (d : List Int) : mapped f d d.length = d.map f := by simp [mapped]
theorem mapped_cell {W : World} {base gr cr : Nat} {ok : Nat → Prop} {f : Int → Int} {d : List Int} {i : Nat} (h : Kd.R (Kd.int .i64) 3 W base ok (.slice (some ⟨gr, 0, none⟩) d.length cr) (mapped f d i)) (hi : i < d.length) : W.cell? ⟨gr, i, none⟩ = some (.int .i64 (d[i]'hi)) ∧ W.frozen? ⟨gr, i, none⟩ = false := by
 have := Kd.R_celln 0 h (i : Int) (by omega) (by omega)
 unfold rdOf at this
 rw [Int.toNat_natCast, mapped_get f d i hi] at this
 exact this
theorem mapped_put {W : World} {base gr cr : Nat} {ok : Nat → Prop} {f : Int → Int} {d : List Int} {i : Nat} (h : Kd.R (Kd.int .i64) 3 W base ok (.slice (some ⟨gr, 0, none⟩) d.length cr) (mapped f d i)) (hi : i < d.length) : Kd.R (Kd.int .i64) 3 (W.setCell ⟨gr, i, none⟩ (.int .i64 (f (d[i]'hi)))) base ok (.slice (some ⟨gr, 0, none⟩) d.length cr) (mapped f d (i + 1)) := by
 have := Kd.R_putn h (i : Int) (f (d[i]'hi))
 rw [Int.toNat_natCast, mapped_set f d i hi] at this
 exact this
theorem mapped_below {W W' : World} {base gr cr : Nat} {ok : Nat → Prop} {f : Int → Int} {d : List Int} {i : Nat} (h : Kd.R (Kd.int .i64) 3 W base ok (.slice (some ⟨gr, 0, none⟩) d.length cr) (mapped f d i)) (hb : Below W.heap.size W W') : Kd.R (Kd.int .i64) 3 W' base ok (.slice (some ⟨gr, 0, none⟩) d.length cr) (mapped f d i) := Kd.R_below h hb

set_option maxHeartbeats 4000000 in
set_option maxRecDepth 100000 in
theorem map_calls (q : Nat) (f : Int → Int) (a b p : Int) (A : Option Addr) (c : Nat) (d : List Int) (hc : d.length ≤ c) (hl : d.length ≤ 1024) (hne : 0 < d.length) (w : World) (hr : Kd.C (Kd.int .i64) w A d.length d)
  (eg : ∀ args W, (callFunc q args).run Try.prog W = .ok (.enter q args) W)
  (hp : ∀ (W : World) (n : Int), n ∈ d → Calls Try.prog q #[.int .i64 n] W fun e W' => e = .returned (.int .i64 (f n)) ∧ Below W.heap.size W W') :
  Calls Try.prog 57 #[.agg #[.int .i64 a, .int .i64 b, .int .i64 p, .slice A d.length c], .func (.func q) #[] #[]] w fun e w' => ∃ v3_ : Value, e = .returned (.agg #[.int .i64 a, .int .i64 b, .int .i64 p, v3_]) ∧ Kd.R (Kd.int .i64) 3 w' w.heap.size (fun _ => True) v3_ (d.map f) ∧ Below w.heap.size w w' := by
 have HC := mk hc
 have HR := mk hr
 have HP := mk hp
 have HNE := mk hne
 have HB0 := mk (Below.refl w.heap.size w)
 have HCP := mk (show impl_copyImage.f a b p d = some (a, b, p, d) from by
  unfold impl_copyImage.f
  simp only [Option.bind_some]
  rw [if_pos (by simp; omega)]
  simp)
 have hu := Try.underlying28
 have hui := Try.underlying22
 clear hc hr hp hne
 go_enter Try.func57, Try.ntmps57
 go_wp2_with (first | ((with_reducible refine gate_dst (N := 2) rfl ?_); refine box_event (by rfl) (N := 2) (by rfl) (cs := #[.int .i64 a, .int .i64 b, .int .i64 p, .slice A d.length c]) (t := 28) (by go_simp; done) ?_; intro g1 hg_ w1 hbox hb; have HB1 := mk (below_then HB0.out HB0.out.size hb); have K1 := mk hbox; have Gg1 := mk (show w.heap.size ≤ g1 from by rw [hg_]; exact HB0.out.size); clear hbox hb hg_) | ((with_reducible refine gate_dst (N := 4) rfl ?_); refine box_event (by rfl) (N := 4) (by rfl) (cs := #[.int .i64 0, .int .i64 0, .int .i64 0, .slice none 0 0]) (t := 28) (by go_simp; done) ?_; intro g2 hg_ w2 hbox hb; have HB2 := mk (below_then HB1.out HB1.out.size hb); have K2 := mk hbox; have Gg2 := mk (show w.heap.size ≤ g2 from by rw [hg_]; exact HB1.out.size); have K1b := mk (blk_below K1.out hb); have f0 : w2.cell? ⟨g1, 0, none⟩ = some (.int .i64 a) := (blk_cell K1b.out 0).trans rfl; have f1 : w2.cell? ⟨g1, 1, none⟩ = some (.int .i64 b) := (blk_cell K1b.out 1).trans rfl; have f2 : w2.cell? ⟨g1, 2, none⟩ = some (.int .i64 p) := (blk_cell K1b.out 2).trans rfl; have f3 : w2.cell? ⟨g1, 3, none⟩ = some (.slice A d.length c) := (blk_cell K1b.out 3).trans rfl; clear hbox hb hg_) | (go_at_call 44; (with_reducible refine (impl_copyImage.calls a b p A c d a b p d w2 (Kd.C_below HR.out HB2.out) HC.out HCP.out).mono ?_); rintro e w3 ⟨v3, rfl, hr3, hb3⟩; have HB3 := mk (below_then HB2.out HB2.out.size hb3); have HR3 := mk (Kd.R_lower hr3 HB2.out.size); have K2c := mk (blk_below K2.out hb3); obtain ⟨gr, cr, e3, hgr, hgl, _⟩ := Kd.R_form hr3 HNE.out; subst e3; have GR := mk hgr; have GL := mk hgl; clear hr3 hb3 hgr hgl))
 have K2c := K2c.out
 have HB3 := HB3.out
 have HR3 := HR3.out
 have GR := GR.out
 have GL := GL.out
 have HNE := HNE.out
 have HP := HP.out
 have HGM := blk_new w3 (.cells #[.int .i64 a, .int .i64 b, .int .i64 p, .slice (some ⟨gr, 0, none⟩) d.length cr] 28 (0, 0))
 have SZ := blk_lt K2.out
 have GG2 := Gg2.out
 have SB1 := HB1.out.size
 go_loopw [13] (fun v13 W => ∃ i : Nat, v13 = .int .i64 i ∧ i ≤ d.length ∧ Kd.R (Kd.int .i64) 3 W w.heap.size (fun k => k = gr) (.slice (some ⟨gr, 0, none⟩) d.length cr) (mapped f d i) ∧ W.heap[w3.heap.size]? = some (.cells #[.int .i64 a, .int .i64 b, .int .i64 p, .slice (some ⟨gr, 0, none⟩) d.length cr] 28 (0, 0)) ∧ W.heap[g2]? = some (.cells #[.int .i64 0, .int .i64 0, .int .i64 0, .slice none 0 0] 28 (0, 0)) ∧ Aside0 (Below w.heap.size w W)) (fun v13 _ => d.length - (intOf v13).toNat)
 case atStart => exact ⟨0, rfl, by omega, by rw [mapped_zero]; exact Kd.R_alloc (Kd.R_mono (Kd.R_tight rfl HR3) (fun k hk => by simpa [Value.ownBlock] using hk)) _, HGM, blk_alloc K2c _, ⟨below_alloc HB3 _⟩⟩
 case round =>
  obtain ⟨i, rfl, hi, hr, hm, h2, hb⟩ := hrel
  by_cases hlt : i < d.length
  ·have hdi : decide ((i : Int) < (d.length : Int)) = true := by simp; omega
   obtain ⟨hce, hcf⟩ := mapped_cell hr hlt
   have m0 := blk_cell hm 0; have m1 := blk_cell hm 1; have m2 := blk_cell hm 2; have m3 := blk_cell hm 3
   go_wp2
   go_region_with (first | (go_at_fn q; refine (HP _ (d[i]'hlt) (List.getElem_mem hlt)).mono ?_; rintro e w' ⟨rfl, hb2⟩; have HRn := mk (mapped_below (W := wr.drew) (Kd.R_drew hr) hb2); have HMn := mk (blk_below (w := wr.drew) hm hb2); have H2n := mk (blk_below (w := wr.drew) h2 hb2); have HBn := mk (below_then (below_drew hb.out) (below_drew hb.out).size hb2); have m3n := blk_cell HMn.out 3; obtain ⟨hcen, hcfn⟩ := mapped_cell HRn.out hlt; clear hb2))
   all_goals
    go_wp2
    go_roundw
    case rel => exact ⟨i + 1, by go_num, by omega, mapped_put HRn.out hlt, blk_far HMn.out (by simp; omega) _, blk_far H2n.out (by simp; omega) _, ⟨below_set HBn.out (by have := HB2.out.size; omega)⟩⟩
    case measure => simp [intOf]; omega
  have hdi : decide ((i : Int) < (d.length : Int)) = false := by simp; omega
  have hil : i = d.length := by omega
  subst hil
  rw [mapped_all] at hr
  have m0 := blk_cell hm 0; have m1 := blk_cell hm 1; have m2 := blk_cell hm 2; have m3 := blk_cell hm 3
  have z0 := blk_cell h2 0; have z1 := blk_cell h2 1; have z2 := blk_cell h2 2; have z3 := blk_cell h2 3
  have y0 := blk_frozen h2 0; have y1 := blk_frozen h2 1; have y2 := blk_frozen h2 2; have y3 := blk_frozen h2 3
  go_wp2
  refine bodyPost_ret (results_cell_row rfl _ _ g2 28 #[.int .i64 a, .int .i64 b, .int .i64 p, .slice (some ⟨gr, 0, none⟩) d.length cr] (0, 0) _ rfl (by
   refine blk_put (cs := #[.int .i64 a, .int .i64 b, .int .i64 p, .slice none 0 0]) ?_ 3 _ rfl
   refine blk_put (cs := #[.int .i64 a, .int .i64 b, .int .i64 0, .slice none 0 0]) ?_ 2 _ rfl
   refine blk_put (cs := #[.int .i64 a, .int .i64 0, .int .i64 0, .slice none 0 0]) ?_ 1 _ rfl
   refine blk_put (cs := #[.int .i64 0, .int .i64 0, .int .i64 0, .slice none 0 0]) ?_ 0 _ rfl
   exact h2) hu rfl (by kernel_rfl)) rfl ?_
  exact ⟨_, rfl, Kd.R_mono (Kd.R_far (Kd.R_far (Kd.R_far (Kd.R_far hr (fun k hk => by subst hk; simp; omega) _) (fun k hk => by subst hk; simp; omega) _) (fun k hk => by subst hk; simp; omega) _) (fun k hk => by subst hk; simp; omega) _) (fun _ _ => trivial), below_set (below_set (below_set (below_set hb.out (by omega)) (by omega)) (by omega)) (by omega)⟩

/- impl.InvertImage: each number subtracted from 255. -/

def invD (d : List Int) : List Int := d.map (fun n => wrap64 (255 - n))
def impl_InvertImage.f (a b p : Int) (d : List Int) : Option (Int × Int × Int × List Int) := some (if validI a b p d = true then (a, b, p, invD d) else (0, 0, 0, []))

set_option maxHeartbeats 4000000 in
set_option maxRecDepth 100000 in
theorem impl_InvertImage.calls (a b p : Int) (A : Option Addr) (c : Nat) (d : List Int) (r1 r2 r3 : Int) (r4 : List Int) (w : World) (hr0_3 : Kd.C (Kd.int .i64) w A d.length d) (hc0_3 : d.length ≤ c) (h : impl_InvertImage.f a b p d = some (r1, r2, r3, r4)) :
  Calls Try.prog 27 #[.agg #[.int .i64 a, .int .i64 b, .int .i64 p, .slice A d.length c]] w fun e w' => ∃ v3_ : Value, e = .returned (.agg #[.int .i64 r1, .int .i64 r2, .int .i64 r3, v3_]) ∧ Kd.R (Kd.int .i64) 3 w' w.heap.size (fun _ => True) v3_ r4 ∧ Below w.heap.size w w' := by
 have hv := Option.some.inj h
 clear h
 have HC := mk hc0_3
 have HR := mk hr0_3
 have HB0 := mk (Below.refl w.heap.size w)
 have E1 := mk (impl_isImage_eq a b p d)
 have hu := Try.underlying28
 clear hr0_3 hc0_3
 cases hv1 : validI a b p d with
 | false =>
  rw [hv1, if_neg (by simp)] at hv
  obtain ⟨rfl, rfl, rfl, rfl⟩ : 0 = r1 ∧ 0 = r2 ∧ 0 = r3 ∧ [] = r4 := by simpa using hv
  rw [hv1] at E1
  clear hv1 hv
  go_enter Try.func27, Try.ntmps27
  go_wp2_with (first
   | ((with_reducible refine gate_dst (N := 1) rfl ?_); refine box_event ?hg (N := 1) ?hd (cs := #[.int .i64 a, .int .i64 b, .int .i64 p, .slice A d.length c]) (t := 28) ?hr ?_; (case hd => rfl); (case hg => rfl); (case hr => first | (go_simp; done) | (go_simp; rfl)); intro g1 hg_ w1 hbox hb; have HB1 := mk (below_then HB0.out HB0.out.size hb); have K1 := mk hbox; have Gg1 := mk (show w.heap.size ≤ g1 from by rw [hg_]; exact HB0.out.size); have f0 : w1.cell? ⟨g1, 0, none⟩ = some (.int .i64 a) := (blk_cell K1.out 0).trans rfl; have f1 : w1.cell? ⟨g1, 1, none⟩ = some (.int .i64 b) := (blk_cell K1.out 1).trans rfl; have f2 : w1.cell? ⟨g1, 2, none⟩ = some (.int .i64 p) := (blk_cell K1.out 2).trans rfl; have f3 : w1.cell? ⟨g1, 3, none⟩ = some (.slice A d.length c) := (blk_cell K1.out 3).trans rfl; clear hbox hb hg_)
   | ((with_reducible refine gate_dst (N := 2) rfl ?_); refine box_event ?hg (N := 2) ?hd (cs := #[.int .i64 0, .int .i64 0, .int .i64 0, .slice none 0 0]) (t := 28) ?hr ?_; (case hd => rfl); (case hg => rfl); (case hr => first | (go_simp; done) | (go_simp; rfl)); intro g2 hg_ w2 hbox hb; have HB2 := mk (below_then HB1.out HB1.out.size hb); have K2 := mk hbox; have Gg2 := mk (show w.heap.size ≤ g2 from by rw [hg_]; exact HB1.out.size); have K1b := mk (blk_below K1.out hb); have f0 : w2.cell? ⟨g1, 0, none⟩ = some (.int .i64 a) := (blk_cell K1b.out 0).trans rfl; have f1 : w2.cell? ⟨g1, 1, none⟩ = some (.int .i64 b) := (blk_cell K1b.out 1).trans rfl; have f2 : w2.cell? ⟨g1, 2, none⟩ = some (.int .i64 p) := (blk_cell K1b.out 2).trans rfl; have f3 : w2.cell? ⟨g1, 3, none⟩ = some (.slice A d.length c) := (blk_cell K1b.out 3).trans rfl; clear hbox hb hg_)
   | (go_at_call 43; (with_reducible refine (impl_isImage.calls a b p A c d _ w2 (Kd.C_below HR.out HB2.out) HC.out E1.out).mono ?_); rintro e w3 ⟨rfl, hb3⟩; have HB3 := mk (below_then HB2.out HB2.out.size hb3); have K1c := mk (blk_below K1b.out hb3); have K2c := mk (blk_below K2.out hb3); have e0 : w3.cell? ⟨g1, 0, none⟩ = some (.int .i64 a) := (blk_cell K1c.out 0).trans rfl; have e1 : w3.cell? ⟨g1, 1, none⟩ = some (.int .i64 b) := (blk_cell K1c.out 1).trans rfl; have e2 : w3.cell? ⟨g1, 2, none⟩ = some (.int .i64 p) := (blk_cell K1c.out 2).trans rfl; have e3 : w3.cell? ⟨g1, 3, none⟩ = some (.slice A d.length c) := (blk_cell K1c.out 3).trans rfl; have z0 := blk_cell K2c.out 0; have z1 := blk_cell K2c.out 1; have z2 := blk_cell K2c.out 2; have z3 := blk_cell K2c.out 3; have y0 := blk_frozen K2c.out 0; have y1 := blk_frozen K2c.out 1; have y2 := blk_frozen K2c.out 2; have y3 := blk_frozen K2c.out 3; clear hb3))
  refine bodyPost_ret (results_cell_row rfl _ _ g2 28 #[.int .i64 0, .int .i64 0, .int .i64 0, .slice none 0 0] (0, 0) _ rfl (by
   refine blk_put (cs := #[.int .i64 0, .int .i64 0, .int .i64 0, .slice none 0 0]) ?_ 3 _ rfl
   refine blk_put (cs := #[.int .i64 0, .int .i64 0, .int .i64 0, .slice none 0 0]) ?_ 2 _ rfl
   refine blk_put (cs := #[.int .i64 0, .int .i64 0, .int .i64 0, .slice none 0 0]) ?_ 1 _ rfl
   refine blk_put (cs := #[.int .i64 0, .int .i64 0, .int .i64 0, .slice none 0 0]) ?_ 0 _ rfl
   exact K2c.out) hu rfl (by kernel_rfl)) rfl ?_
  have G2 := Gg2.out
  exact ⟨_, rfl, Kd.R_nil _ _ _ _ _, below_set (below_set (below_set (below_set HB3.out (by omega)) (by omega)) (by omega)) (by omega)⟩
 | true =>
  obtain ⟨⟨hs, hl, _⟩⟩ : Nonempty ((1 ≤ a ∧ a ≤ 16 ∧ 1 ≤ b ∧ b ≤ 16 ∧ 1 ≤ p ∧ p ≤ 4) ∧ (d.length : Int) = a * b * p ∧ True) := ⟨((validI_iff a b p d).1 hv1).1, ((validI_iff a b p d).1 hv1).2.1, trivial⟩
  have hsp := shape_prod hs
  have hpos : 0 < a * b * p := Int.mul_pos (Int.mul_pos (by omega) (by omega)) (by omega)
  have HL := mk (show d.length ≤ 1024 by omega)
  have HN := mk (show 0 < d.length by omega)
  have EG := mk (show ∀ args W, (callFunc 58 args).run Try.prog W = .ok (.enter 58 args) W from enters_of Try.func58 (by kernel_rfl) rfl)
  have EP := mk (show ∀ (W : World) (n : Int), n ∈ d → Calls Try.prog 58 #[.int .i64 n] W fun e W' => e = .returned (.int .i64 (wrap64 (255 - n))) ∧ Below W.heap.size W W' from fun W n _ => (impl_InvertImage_1.calls n _ W rfl).mono (fun e W' h => ⟨h.1, h.2.below⟩))
  clear hl hsp hpos hs
  rw [hv1, if_pos rfl] at hv
  obtain ⟨rfl, rfl, rfl, rfl⟩ : a = r1 ∧ b = r2 ∧ p = r3 ∧ invD d = r4 := by simpa using hv
  rw [hv1] at E1
  clear hv1 hv
  go_enter Try.func27, Try.ntmps27
  go_wp2_with (first
   | ((with_reducible refine gate_dst (N := 1) rfl ?_); refine box_event ?hg (N := 1) ?hd (cs := #[.int .i64 a, .int .i64 b, .int .i64 p, .slice A d.length c]) (t := 28) ?hr ?_; (case hd => rfl); (case hg => rfl); (case hr => first | (go_simp; done) | (go_simp; rfl)); intro g1 hg_ w1 hbox hb; have HB1 := mk (below_then HB0.out HB0.out.size hb); have K1 := mk hbox; have Gg1 := mk (show w.heap.size ≤ g1 from by rw [hg_]; exact HB0.out.size); have f0 : w1.cell? ⟨g1, 0, none⟩ = some (.int .i64 a) := (blk_cell K1.out 0).trans rfl; have f1 : w1.cell? ⟨g1, 1, none⟩ = some (.int .i64 b) := (blk_cell K1.out 1).trans rfl; have f2 : w1.cell? ⟨g1, 2, none⟩ = some (.int .i64 p) := (blk_cell K1.out 2).trans rfl; have f3 : w1.cell? ⟨g1, 3, none⟩ = some (.slice A d.length c) := (blk_cell K1.out 3).trans rfl; clear hbox hb hg_)
   | ((with_reducible refine gate_dst (N := 2) rfl ?_); refine box_event ?hg (N := 2) ?hd (cs := #[.int .i64 0, .int .i64 0, .int .i64 0, .slice none 0 0]) (t := 28) ?hr ?_; (case hd => rfl); (case hg => rfl); (case hr => first | (go_simp; done) | (go_simp; rfl)); intro g2 hg_ w2 hbox hb; have HB2 := mk (below_then HB1.out HB1.out.size hb); have K2 := mk hbox; have Gg2 := mk (show w.heap.size ≤ g2 from by rw [hg_]; exact HB1.out.size); have K1b := mk (blk_below K1.out hb); have f0 : w2.cell? ⟨g1, 0, none⟩ = some (.int .i64 a) := (blk_cell K1b.out 0).trans rfl; have f1 : w2.cell? ⟨g1, 1, none⟩ = some (.int .i64 b) := (blk_cell K1b.out 1).trans rfl; have f2 : w2.cell? ⟨g1, 2, none⟩ = some (.int .i64 p) := (blk_cell K1b.out 2).trans rfl; have f3 : w2.cell? ⟨g1, 3, none⟩ = some (.slice A d.length c) := (blk_cell K1b.out 3).trans rfl; clear hbox hb hg_)
   | (go_at_call 43; (with_reducible refine (impl_isImage.calls a b p A c d _ w2 (Kd.C_below HR.out HB2.out) HC.out E1.out).mono ?_); rintro e w3 ⟨rfl, hb3⟩; have HB3 := mk (below_then HB2.out HB2.out.size hb3); have K1c := mk (blk_below K1b.out hb3); have K2c := mk (blk_below K2.out hb3); have e0 : w3.cell? ⟨g1, 0, none⟩ = some (.int .i64 a) := (blk_cell K1c.out 0).trans rfl; have e1 : w3.cell? ⟨g1, 1, none⟩ = some (.int .i64 b) := (blk_cell K1c.out 1).trans rfl; have e2 : w3.cell? ⟨g1, 2, none⟩ = some (.int .i64 p) := (blk_cell K1c.out 2).trans rfl; have e3 : w3.cell? ⟨g1, 3, none⟩ = some (.slice A d.length c) := (blk_cell K1c.out 3).trans rfl; have z0 := blk_cell K2c.out 0; have z1 := blk_cell K2c.out 1; have z2 := blk_cell K2c.out 2; have z3 := blk_cell K2c.out 3; have y0 := blk_frozen K2c.out 0; have y1 := blk_frozen K2c.out 1; have y2 := blk_frozen K2c.out 2; have y3 := blk_frozen K2c.out 3; clear hb3)
   | (go_at_call 57; (with_reducible refine (map_calls 58 (fun n => wrap64 (255 - n)) a b p A c d HC.out HL.out HN.out w3 (Kd.C_below HR.out HB3.out) EG.out EP.out).mono ?_); rintro e w4 ⟨v4, rfl, hr4, hb4⟩; have HB4 := mk (below_then HB3.out HB3.out.size hb4); obtain ⟨gr, cr, e4, _, _, _⟩ := Kd.R_form hr4 (by rw [List.length_map]; exact HN.out); subst e4; simp only [List.length_map] at hr4; have HR4 := mk (Kd.R_lower hr4 HB3.out.size); have K2d := mk (blk_below K2c.out hb4); have x0 := blk_cell K2d.out 0; have x1 := blk_cell K2d.out 1; have x2 := blk_cell K2d.out 2; have x3 := blk_cell K2d.out 3; have u0 := blk_frozen K2d.out 0; have u1 := blk_frozen K2d.out 1; have u2 := blk_frozen K2d.out 2; have u3 := blk_frozen K2d.out 3; clear hr4 hb4))
  have G2 := Gg2.out
  have RR := Kd.R_types HR4.out K2d.out (by decide)
  refine bodyPost_ret (results_cell_row rfl _ _ g2 28 #[.int .i64 a, .int .i64 b, .int .i64 p, .slice (some ⟨gr, 0, none⟩) d.length cr] (0, 0) _ rfl (by
   refine blk_put (cs := #[.int .i64 a, .int .i64 b, .int .i64 p, .slice none 0 0]) ?_ 3 _ rfl
   refine blk_put (cs := #[.int .i64 a, .int .i64 b, .int .i64 0, .slice none 0 0]) ?_ 2 _ rfl
   refine blk_put (cs := #[.int .i64 a, .int .i64 0, .int .i64 0, .slice none 0 0]) ?_ 1 _ rfl
   refine blk_put (cs := #[.int .i64 0, .int .i64 0, .int .i64 0, .slice none 0 0]) ?_ 0 _ rfl
   exact K2d.out) hu rfl (by kernel_rfl)) rfl ?_
  exact ⟨_, rfl, Kd.R_mono (Kd.R_far (Kd.R_far (Kd.R_far (Kd.R_far RR (fun k hk => hk.2) _) (fun k hk => hk.2) _) (fun k hk => hk.2) _) (fun k hk => hk.2) _) (fun _ _ => trivial), below_set (below_set (below_set (below_set HB4.out (by omega)) (by omega)) (by omega)) (by omega)⟩

/- impl.cancelling: how many steps at the beginning cancel each other. -/

def manyOf (k : Int) : Nat := if k = 0 then 2 else if k = 2 then 2 else if k = 1 then 4 else 0
def cancelN (l : List S43) : Nat := if manyOf (rd_T43 l 0).f0 = 0 then 0 else if l.length < manyOf (rd_T43 l 0).f0 then 0 else if (l.take (manyOf (rd_T43 l 0).f0)).any (otherKind l) = true then 0 else manyOf (rd_T43 l 0).f0
def impl_cancelling.f (l0 : List S43) : Option Int := if 0 < l0.length then some (cancelN l0) else none
set_option maxHeartbeats 2000000 in
set_option maxRecDepth 100000 in
theorem canc_other (l : List S43) (A : Option Addr) (c : Nat) (hl : 0 < l.length) (hk : manyOf (rd_T43 l 0).f0 = 0) (w : World) (hr : Kd.C k43 w A l.length l) :
  Calls Try.prog 67 #[.slice A l.length c] w fun e w' => e = .returned (.int .i64 0) ∧ Below w.heap.size w w' := by
 have HB0 := mk (Below.refl w.heap.size w)
 have hu := Try.underlying32
 have hus := Try.underlying43
 obtain ⟨ad, A6, c6, e, hx0, _, _, _, _, _, _, _⟩ := at_T43 hr 0 (by omega) (by omega)
 subst e
 rw [add_zero6] at hx0
 generalize (rd_T43 l 0).f0 = k0 at *
 have c0 : ¬ k0 = 0 := fun h => by unfold manyOf at hk; rw [if_pos h] at hk; omega
 have c2 : ¬ k0 = 2 := fun h => by unfold manyOf at hk; rw [if_neg c0, if_pos h] at hk; omega
 have c1 : ¬ k0 = 1 := fun h => by unfold manyOf at hk; rw [if_neg c0, if_neg c2, if_pos h] at hk; omega
 have d0 : decide (k0 = 0) = false := decide_eq_false c0
 have d2 : decide (k0 = 2) = false := decide_eq_false c2
 have d1 : decide (k0 = 1) = false := decide_eq_false c1
 have b0 : (k0 == 0) = false := by simpa using c0
 have b2 : (k0 == 2) = false := by simpa using c2
 have b1 : (k0 == 1) = false := by simpa using c1
 have HX := mk hx0
 clear hr hk hx0
 go_enter Try.func67, Try.ntmps67
 go_wp2_with (first
  | ((with_reducible refine gate_dst (N := 1) rfl ?_); refine box_event ?hg (N := 1) ?hd (cs := #[.slice (some ad) l.length c]) (t := 32) ?hr ?_; (case hd => rfl); (case hg => rfl); (case hr => first | (go_simp; done) | (go_simp; rfl)); intro g1 hg_ w1 hbox hb; have HB1 := mk (below_then HB0.out HB0.out.size hb); have K1 := mk hbox; have Gg1 := mk (show w.heap.size ≤ g1 from by rw [hg_]; exact HB0.out.size); have kc0 : w1.cell? ⟨g1, 0, none⟩ = some (.slice (some ad) l.length c) := (blk_cell K1.out 0).trans rfl; have hz : w1.cell? ad = some (.int .i64 k0) := (hb.cell (World.block_lt_of_cell? _ _ HX.out)).trans HX.out; clear hbox hb hg_))
 go_ret
 exact ⟨rfl, HB1.out⟩
set_option maxHeartbeats 2000000 in
set_option maxRecDepth 100000 in
theorem canc_short (l : List S43) (A : Option Addr) (c : Nat) (hl : 0 < l.length) (hm0 : (l.length < 2 ∧ ((rd_T43 l 0).f0 = 0 ∨ (rd_T43 l 0).f0 = 2)) ∨ (l.length < 4 ∧ (rd_T43 l 0).f0 = 1)) (w : World) (hr : Kd.C k43 w A l.length l) :
  Calls Try.prog 67 #[.slice A l.length c] w fun e w' => e = .returned (.int .i64 0) ∧ Below w.heap.size w w' := by
 have HB0 := mk (Below.refl w.heap.size w)
 have hu := Try.underlying32
 have hus := Try.underlying43
 obtain ⟨ad, A6, c6, e, hx0, _, _, _, _, _, _, _⟩ := at_T43 hr 0 (by omega) (by omega)
 subst e
 rw [add_zero6] at hx0
 generalize (rd_T43 l 0).f0 = k0 at *
 have HX := mk hx0
 clear hr hx0
 have hq3 : (l.length < 2 ∧ k0 = 0) ∨ (l.length < 2 ∧ k0 = 2) ∨ (l.length < 4 ∧ k0 = 1) := by omega
 clear hm0
 rcases hq3 with ⟨hlt, rfl⟩ | ⟨hlt, rfl⟩ | ⟨hlt, rfl⟩
 ·have hgt : decide ((2 : Int) > (l.length : Int)) = true := decide_eq_true (by omega)
  have hgt2 : decide ((l.length : Int) < (2 : Int)) = true := decide_eq_true (by omega)
  go_enter Try.func67, Try.ntmps67
  go_wp2_with (first
   | ((with_reducible refine gate_dst (N := 1) rfl ?_); refine box_event ?hg (N := 1) ?hd (cs := #[.slice (some ad) l.length c]) (t := 32) ?hr ?_; (case hd => rfl); (case hg => rfl); (case hr => first | (go_simp; done) | (go_simp; rfl)); intro g1 hg_ w1 hbox hb; have HB1 := mk (below_then HB0.out HB0.out.size hb); have K1 := mk hbox; have Gg1 := mk (show w.heap.size ≤ g1 from by rw [hg_]; exact HB0.out.size); have kc0 : w1.cell? ⟨g1, 0, none⟩ = some (.slice (some ad) l.length c) := (blk_cell K1.out 0).trans rfl; have hz : w1.cell? ad = some (.int .i64 0) := (hb.cell (World.block_lt_of_cell? _ _ HX.out)).trans HX.out; clear hbox hb hg_))
  go_ret
  exact ⟨rfl, HB1.out⟩
 ·have hgt : decide ((2 : Int) > (l.length : Int)) = true := decide_eq_true (by omega)
  have hgt2 : decide ((l.length : Int) < (2 : Int)) = true := decide_eq_true (by omega)
  go_enter Try.func67, Try.ntmps67
  go_wp2_with (first
   | ((with_reducible refine gate_dst (N := 1) rfl ?_); refine box_event ?hg (N := 1) ?hd (cs := #[.slice (some ad) l.length c]) (t := 32) ?hr ?_; (case hd => rfl); (case hg => rfl); (case hr => first | (go_simp; done) | (go_simp; rfl)); intro g1 hg_ w1 hbox hb; have HB1 := mk (below_then HB0.out HB0.out.size hb); have K1 := mk hbox; have Gg1 := mk (show w.heap.size ≤ g1 from by rw [hg_]; exact HB0.out.size); have kc0 : w1.cell? ⟨g1, 0, none⟩ = some (.slice (some ad) l.length c) := (blk_cell K1.out 0).trans rfl; have hz : w1.cell? ad = some (.int .i64 2) := (hb.cell (World.block_lt_of_cell? _ _ HX.out)).trans HX.out; clear hbox hb hg_))
  go_ret
  exact ⟨rfl, HB1.out⟩
 ·have hgt : decide ((4 : Int) > (l.length : Int)) = true := decide_eq_true (by omega)
  have hgt2 : decide ((l.length : Int) < (4 : Int)) = true := decide_eq_true (by omega)
  go_enter Try.func67, Try.ntmps67
  go_wp2_with (first
   | ((with_reducible refine gate_dst (N := 1) rfl ?_); refine box_event ?hg (N := 1) ?hd (cs := #[.slice (some ad) l.length c]) (t := 32) ?hr ?_; (case hd => rfl); (case hg => rfl); (case hr => first | (go_simp; done) | (go_simp; rfl)); intro g1 hg_ w1 hbox hb; have HB1 := mk (below_then HB0.out HB0.out.size hb); have K1 := mk hbox; have Gg1 := mk (show w.heap.size ≤ g1 from by rw [hg_]; exact HB0.out.size); have kc0 : w1.cell? ⟨g1, 0, none⟩ = some (.slice (some ad) l.length c) := (blk_cell K1.out 0).trans rfl; have hz : w1.cell? ad = some (.int .i64 1) := (hb.cell (World.block_lt_of_cell? _ _ HX.out)).trans HX.out; clear hbox hb hg_))
  go_ret
  exact ⟨rfl, HB1.out⟩
set_option maxHeartbeats 2000000 in
set_option maxRecDepth 100000 in
theorem canc_some (l : List S43) (A : Option Addr) (c : Nat) (hl : 0 < l.length) (many : Nat) (hm0 : many = 2 ∨ many = 4) (hml : many ≤ l.length) (hk : manyOf (rd_T43 l 0).f0 = many) (w : World) (hr : Kd.C k43 w A l.length l) (hc : l.length ≤ c) :
  Calls Try.prog 67 #[.slice A l.length c] w fun e w' => e = .returned (.int .i64 (cancelN l : Int)) ∧ Below w.heap.size w w' := by
 have HCN := mk (show cancelN l = if (l.take many).any (otherKind l) = true then 0 else many from by unfold cancelN; rw [hk, if_neg (by omega), if_neg (by omega)])
 have hm : l.length ≤ 9223372036854775807 := hr.2.1
 have HR := mk hr
 have HB0 := mk (Below.refl w.heap.size w)
 have hu := Try.underlying32
 have hus := Try.underlying43
 have EG := mk (show ∀ args W, (callFunc 92 args).run Try.prog W = .ok (.enter 92 args) W from enters_of Try.func92 (by kernel_rfl) rfl)
 obtain ⟨ad, A6, c6, e, hx0, _, _, _, _, _, _, _⟩ := at_T43 hr 0 (by omega) (by omega)
 subst e
 rw [add_zero6] at hx0
 generalize hkk : (rd_T43 l 0).f0 = k0 at *
 have hq : (many = 2 ∧ (k0 = 0 ∨ k0 = 2)) ∨ (many = 4 ∧ k0 = 1) := by
  unfold manyOf at hk
  by_cases c0 : k0 = 0
  ·rw [if_pos c0] at hk; exact .inl ⟨hk.symm, .inl c0⟩
  ·rw [if_neg c0] at hk
   by_cases c2 : k0 = 2
   ·rw [if_pos c2] at hk; exact .inl ⟨hk.symm, .inr c2⟩
   ·rw [if_neg c2] at hk
    by_cases c1 : k0 = 1
    ·rw [if_pos c1] at hk; exact .inr ⟨hk.symm, c1⟩
    ·rw [if_neg c1] at hk; omega
 have hlb : ((List.take many l)).length = many := by rw [List.length_take]; omega
 have hx := World.block_lt_of_cell? w _ hx0
 have HX := mk hx0
 have HC := mk hc
 clear hr hkk hk hm0 hx0
 have hq3 : (many = 2 ∧ k0 = 0) ∨ (many = 2 ∧ k0 = 2) ∨ (many = 4 ∧ k0 = 1) := by omega
 clear hq
 rcases hq3 with ⟨rfl, rfl⟩ | ⟨rfl, rfl⟩ | ⟨rfl, rfl⟩
 ·have HLB := mk hlb
  have hgt : decide ((2 : Int) > (l.length : Int)) = false := decide_eq_false (by omega)
  have hgt2 : decide ((l.length : Int) < (2 : Int)) = false := decide_eq_false (by omega)
  have hgt3 : ¬ (l.length < 2) := by omega
  have hgc : (2 : Int) ≤ (c : Int) := by omega
  clear hlb
  by_cases hv : (l.take 2).any (otherKind l) = true
  ·have HV := mk hv
   rw [hv, if_pos rfl] at HCN
   clear hv
   go_enter Try.func67, Try.ntmps67
   go_wp2_with (first
    | ((with_reducible refine gate_dst (N := 1) rfl ?_); refine box_event ?hg (N := 1) ?hd (cs := #[.slice (some ad) l.length c]) (t := 32) ?hr ?_; (case hd => rfl); (case hg => rfl); (case hr => first | (go_simp; done) | (go_simp; rfl)); intro g1 hg_ w1 hbox hb; have HB1 := mk (below_then HB0.out HB0.out.size hb); have K1 := mk hbox; have Gg1 := mk (show w.heap.size ≤ g1 from by rw [hg_]; exact HB0.out.size); have kc0 : w1.cell? ⟨g1, 0, none⟩ = some (.slice (some ad) l.length c) := (blk_cell K1.out 0).trans rfl; have hz : w1.cell? ad = some (.int .i64 0) := (hb.cell (World.block_lt_of_cell? _ _ HX.out)).trans HX.out; have HP := mk (show ∀ (W : World) (x : S43) (A5 : Option Addr) (c5 : Nat), Below w1.heap.size w1 W → Calls Try.prog 92 (#[.agg #[.int .i64 x.f0, .int .i64 x.f1.f0, .int .i64 x.f1.f1, .int .i64 x.f1.f2, .int .i64 x.f1.f3, .slice A5 x.f2.length c5]] ++ #[.pointer (some ⟨g1, 0, none⟩)]) W fun e W' => e = .returned (.bool (otherKind l x)) ∧ Below W.heap.size W W' from fun W x A5 c5 hW => cancelCmp l (some ad) c x A5 c5 g1 W hl ((blk_cell (blk_below K1.out hW) 0).trans rfl) (Kd.C_below (Kd.C_below HR.out HB1.out) hW)); have HT := mk (Kd.C_take (m := 2) (Kd.C_below HR.out HB1.out) (by omega)); clear hbox hb hg_)
    | (go_at_call 91; have hcf := containsFunc_Step 92 #[.pointer (some ⟨g1, 0, none⟩)] (otherKind l) (some ad) c (l.take 2) w1 EG.out HP.out HT.out; rw [HLB.out] at hcf; (with_reducible refine hcf.mono ?_); clear hcf; rintro e w2 ⟨rfl, hb⟩; rw [HV.out]; have HB2 := mk (below_then HB1.out HB1.out.size hb); clear hb))
   go_ret
   exact ⟨by rw [HCN.out]; rfl, HB2.out⟩
  ·replace hv : (l.take 2).any (otherKind l) = false := by simpa using hv
   have HV := mk hv
   rw [hv, if_neg (by simp)] at HCN
   clear hv
   go_enter Try.func67, Try.ntmps67
   go_wp2_with (first
    | ((with_reducible refine gate_dst (N := 1) rfl ?_); refine box_event ?hg (N := 1) ?hd (cs := #[.slice (some ad) l.length c]) (t := 32) ?hr ?_; (case hd => rfl); (case hg => rfl); (case hr => first | (go_simp; done) | (go_simp; rfl)); intro g1 hg_ w1 hbox hb; have HB1 := mk (below_then HB0.out HB0.out.size hb); have K1 := mk hbox; have Gg1 := mk (show w.heap.size ≤ g1 from by rw [hg_]; exact HB0.out.size); have kc0 : w1.cell? ⟨g1, 0, none⟩ = some (.slice (some ad) l.length c) := (blk_cell K1.out 0).trans rfl; have hz : w1.cell? ad = some (.int .i64 0) := (hb.cell (World.block_lt_of_cell? _ _ HX.out)).trans HX.out; have HP := mk (show ∀ (W : World) (x : S43) (A5 : Option Addr) (c5 : Nat), Below w1.heap.size w1 W → Calls Try.prog 92 (#[.agg #[.int .i64 x.f0, .int .i64 x.f1.f0, .int .i64 x.f1.f1, .int .i64 x.f1.f2, .int .i64 x.f1.f3, .slice A5 x.f2.length c5]] ++ #[.pointer (some ⟨g1, 0, none⟩)]) W fun e W' => e = .returned (.bool (otherKind l x)) ∧ Below W.heap.size W W' from fun W x A5 c5 hW => cancelCmp l (some ad) c x A5 c5 g1 W hl ((blk_cell (blk_below K1.out hW) 0).trans rfl) (Kd.C_below (Kd.C_below HR.out HB1.out) hW)); have HT := mk (Kd.C_take (m := 2) (Kd.C_below HR.out HB1.out) (by omega)); clear hbox hb hg_)
    | (go_at_call 91; have hcf := containsFunc_Step 92 #[.pointer (some ⟨g1, 0, none⟩)] (otherKind l) (some ad) c (l.take 2) w1 EG.out HP.out HT.out; rw [HLB.out] at hcf; (with_reducible refine hcf.mono ?_); clear hcf; rintro e w2 ⟨rfl, hb⟩; rw [HV.out]; have HB2 := mk (below_then HB1.out HB1.out.size hb); clear hb))
   go_ret
   exact ⟨by rw [HCN.out]; rfl, HB2.out⟩
 ·have HLB := mk hlb
  have hgt : decide ((2 : Int) > (l.length : Int)) = false := decide_eq_false (by omega)
  have hgt2 : decide ((l.length : Int) < (2 : Int)) = false := decide_eq_false (by omega)
  have hgt3 : ¬ (l.length < 2) := by omega
  have hgc : (2 : Int) ≤ (c : Int) := by omega
  clear hlb
  by_cases hv : (l.take 2).any (otherKind l) = true
  ·have HV := mk hv
   rw [hv, if_pos rfl] at HCN
   clear hv
   go_enter Try.func67, Try.ntmps67
   go_wp2_with (first
    | ((with_reducible refine gate_dst (N := 1) rfl ?_); refine box_event ?hg (N := 1) ?hd (cs := #[.slice (some ad) l.length c]) (t := 32) ?hr ?_; (case hd => rfl); (case hg => rfl); (case hr => first | (go_simp; done) | (go_simp; rfl)); intro g1 hg_ w1 hbox hb; have HB1 := mk (below_then HB0.out HB0.out.size hb); have K1 := mk hbox; have Gg1 := mk (show w.heap.size ≤ g1 from by rw [hg_]; exact HB0.out.size); have kc0 : w1.cell? ⟨g1, 0, none⟩ = some (.slice (some ad) l.length c) := (blk_cell K1.out 0).trans rfl; have hz : w1.cell? ad = some (.int .i64 2) := (hb.cell (World.block_lt_of_cell? _ _ HX.out)).trans HX.out; have HP := mk (show ∀ (W : World) (x : S43) (A5 : Option Addr) (c5 : Nat), Below w1.heap.size w1 W → Calls Try.prog 92 (#[.agg #[.int .i64 x.f0, .int .i64 x.f1.f0, .int .i64 x.f1.f1, .int .i64 x.f1.f2, .int .i64 x.f1.f3, .slice A5 x.f2.length c5]] ++ #[.pointer (some ⟨g1, 0, none⟩)]) W fun e W' => e = .returned (.bool (otherKind l x)) ∧ Below W.heap.size W W' from fun W x A5 c5 hW => cancelCmp l (some ad) c x A5 c5 g1 W hl ((blk_cell (blk_below K1.out hW) 0).trans rfl) (Kd.C_below (Kd.C_below HR.out HB1.out) hW)); have HT := mk (Kd.C_take (m := 2) (Kd.C_below HR.out HB1.out) (by omega)); clear hbox hb hg_)
    | (go_at_call 91; have hcf := containsFunc_Step 92 #[.pointer (some ⟨g1, 0, none⟩)] (otherKind l) (some ad) c (l.take 2) w1 EG.out HP.out HT.out; rw [HLB.out] at hcf; (with_reducible refine hcf.mono ?_); clear hcf; rintro e w2 ⟨rfl, hb⟩; rw [HV.out]; have HB2 := mk (below_then HB1.out HB1.out.size hb); clear hb))
   go_ret
   exact ⟨by rw [HCN.out]; rfl, HB2.out⟩
  ·replace hv : (l.take 2).any (otherKind l) = false := by simpa using hv
   have HV := mk hv
   rw [hv, if_neg (by simp)] at HCN
   clear hv
   go_enter Try.func67, Try.ntmps67
   go_wp2_with (first
    | ((with_reducible refine gate_dst (N := 1) rfl ?_); refine box_event ?hg (N := 1) ?hd (cs := #[.slice (some ad) l.length c]) (t := 32) ?hr ?_; (case hd => rfl); (case hg => rfl); (case hr => first | (go_simp; done) | (go_simp; rfl)); intro g1 hg_ w1 hbox hb; have HB1 := mk (below_then HB0.out HB0.out.size hb); have K1 := mk hbox; have Gg1 := mk (show w.heap.size ≤ g1 from by rw [hg_]; exact HB0.out.size); have kc0 : w1.cell? ⟨g1, 0, none⟩ = some (.slice (some ad) l.length c) := (blk_cell K1.out 0).trans rfl; have hz : w1.cell? ad = some (.int .i64 2) := (hb.cell (World.block_lt_of_cell? _ _ HX.out)).trans HX.out; have HP := mk (show ∀ (W : World) (x : S43) (A5 : Option Addr) (c5 : Nat), Below w1.heap.size w1 W → Calls Try.prog 92 (#[.agg #[.int .i64 x.f0, .int .i64 x.f1.f0, .int .i64 x.f1.f1, .int .i64 x.f1.f2, .int .i64 x.f1.f3, .slice A5 x.f2.length c5]] ++ #[.pointer (some ⟨g1, 0, none⟩)]) W fun e W' => e = .returned (.bool (otherKind l x)) ∧ Below W.heap.size W W' from fun W x A5 c5 hW => cancelCmp l (some ad) c x A5 c5 g1 W hl ((blk_cell (blk_below K1.out hW) 0).trans rfl) (Kd.C_below (Kd.C_below HR.out HB1.out) hW)); have HT := mk (Kd.C_take (m := 2) (Kd.C_below HR.out HB1.out) (by omega)); clear hbox hb hg_)
    | (go_at_call 91; have hcf := containsFunc_Step 92 #[.pointer (some ⟨g1, 0, none⟩)] (otherKind l) (some ad) c (l.take 2) w1 EG.out HP.out HT.out; rw [HLB.out] at hcf; (with_reducible refine hcf.mono ?_); clear hcf; rintro e w2 ⟨rfl, hb⟩; rw [HV.out]; have HB2 := mk (below_then HB1.out HB1.out.size hb); clear hb))
   go_ret
   exact ⟨by rw [HCN.out]; rfl, HB2.out⟩
 ·have HLB := mk hlb
  have hgt : decide ((4 : Int) > (l.length : Int)) = false := decide_eq_false (by omega)
  have hgt2 : decide ((l.length : Int) < (4 : Int)) = false := decide_eq_false (by omega)
  have hgt3 : ¬ (l.length < 4) := by omega
  have hgc : (4 : Int) ≤ (c : Int) := by omega
  clear hlb
  by_cases hv : (l.take 4).any (otherKind l) = true
  ·have HV := mk hv
   rw [hv, if_pos rfl] at HCN
   clear hv
   go_enter Try.func67, Try.ntmps67
   go_wp2_with (first
    | ((with_reducible refine gate_dst (N := 1) rfl ?_); refine box_event ?hg (N := 1) ?hd (cs := #[.slice (some ad) l.length c]) (t := 32) ?hr ?_; (case hd => rfl); (case hg => rfl); (case hr => first | (go_simp; done) | (go_simp; rfl)); intro g1 hg_ w1 hbox hb; have HB1 := mk (below_then HB0.out HB0.out.size hb); have K1 := mk hbox; have Gg1 := mk (show w.heap.size ≤ g1 from by rw [hg_]; exact HB0.out.size); have kc0 : w1.cell? ⟨g1, 0, none⟩ = some (.slice (some ad) l.length c) := (blk_cell K1.out 0).trans rfl; have hz : w1.cell? ad = some (.int .i64 1) := (hb.cell (World.block_lt_of_cell? _ _ HX.out)).trans HX.out; have HP := mk (show ∀ (W : World) (x : S43) (A5 : Option Addr) (c5 : Nat), Below w1.heap.size w1 W → Calls Try.prog 92 (#[.agg #[.int .i64 x.f0, .int .i64 x.f1.f0, .int .i64 x.f1.f1, .int .i64 x.f1.f2, .int .i64 x.f1.f3, .slice A5 x.f2.length c5]] ++ #[.pointer (some ⟨g1, 0, none⟩)]) W fun e W' => e = .returned (.bool (otherKind l x)) ∧ Below W.heap.size W W' from fun W x A5 c5 hW => cancelCmp l (some ad) c x A5 c5 g1 W hl ((blk_cell (blk_below K1.out hW) 0).trans rfl) (Kd.C_below (Kd.C_below HR.out HB1.out) hW)); have HT := mk (Kd.C_take (m := 4) (Kd.C_below HR.out HB1.out) (by omega)); clear hbox hb hg_)
    | (go_at_call 91; have hcf := containsFunc_Step 92 #[.pointer (some ⟨g1, 0, none⟩)] (otherKind l) (some ad) c (l.take 4) w1 EG.out HP.out HT.out; rw [HLB.out] at hcf; (with_reducible refine hcf.mono ?_); clear hcf; rintro e w2 ⟨rfl, hb⟩; rw [HV.out]; have HB2 := mk (below_then HB1.out HB1.out.size hb); clear hb))
   go_ret
   exact ⟨by rw [HCN.out]; rfl, HB2.out⟩
  ·replace hv : (l.take 4).any (otherKind l) = false := by simpa using hv
   have HV := mk hv
   rw [hv, if_neg (by simp)] at HCN
   clear hv
   go_enter Try.func67, Try.ntmps67
   go_wp2_with (first
    | ((with_reducible refine gate_dst (N := 1) rfl ?_); refine box_event ?hg (N := 1) ?hd (cs := #[.slice (some ad) l.length c]) (t := 32) ?hr ?_; (case hd => rfl); (case hg => rfl); (case hr => first | (go_simp; done) | (go_simp; rfl)); intro g1 hg_ w1 hbox hb; have HB1 := mk (below_then HB0.out HB0.out.size hb); have K1 := mk hbox; have Gg1 := mk (show w.heap.size ≤ g1 from by rw [hg_]; exact HB0.out.size); have kc0 : w1.cell? ⟨g1, 0, none⟩ = some (.slice (some ad) l.length c) := (blk_cell K1.out 0).trans rfl; have hz : w1.cell? ad = some (.int .i64 1) := (hb.cell (World.block_lt_of_cell? _ _ HX.out)).trans HX.out; have HP := mk (show ∀ (W : World) (x : S43) (A5 : Option Addr) (c5 : Nat), Below w1.heap.size w1 W → Calls Try.prog 92 (#[.agg #[.int .i64 x.f0, .int .i64 x.f1.f0, .int .i64 x.f1.f1, .int .i64 x.f1.f2, .int .i64 x.f1.f3, .slice A5 x.f2.length c5]] ++ #[.pointer (some ⟨g1, 0, none⟩)]) W fun e W' => e = .returned (.bool (otherKind l x)) ∧ Below W.heap.size W W' from fun W x A5 c5 hW => cancelCmp l (some ad) c x A5 c5 g1 W hl ((blk_cell (blk_below K1.out hW) 0).trans rfl) (Kd.C_below (Kd.C_below HR.out HB1.out) hW)); have HT := mk (Kd.C_take (m := 4) (Kd.C_below HR.out HB1.out) (by omega)); clear hbox hb hg_)
    | (go_at_call 91; have hcf := containsFunc_Step 92 #[.pointer (some ⟨g1, 0, none⟩)] (otherKind l) (some ad) c (l.take 4) w1 EG.out HP.out HT.out; rw [HLB.out] at hcf; (with_reducible refine hcf.mono ?_); clear hcf; rintro e w2 ⟨rfl, hb⟩; rw [HV.out]; have HB2 := mk (below_then HB1.out HB1.out.size hb); clear hb))
   go_ret
   exact ⟨by rw [HCN.out]; rfl, HB2.out⟩
theorem impl_cancelling.calls (A0 : Option Addr) (c0 : Nat) (l0 : List S43) (r : Int) (w : World) (hr0 : Kd.C k43 w A0 l0.length l0) (hc0 : l0.length ≤ c0) (h : impl_cancelling.f l0 = some r) :
  Calls Try.prog 67 #[.slice A0 l0.length c0] w fun e w' => e = .returned (.int .i64 r) ∧ Below w.heap.size w w' := by
 unfold impl_cancelling.f at h
 by_cases hl : 0 < l0.length
 ·rw [if_pos hl] at h
  obtain rfl := Option.some.inj h
  have h5 : manyOf (rd_T43 l0 0).f0 = 0 ∨ (manyOf (rd_T43 l0 0).f0 = 2 ∧ ((rd_T43 l0 0).f0 = 0 ∨ (rd_T43 l0 0).f0 = 2)) ∨ (manyOf (rd_T43 l0 0).f0 = 4 ∧ (rd_T43 l0 0).f0 = 1) := by
   unfold manyOf
   by_cases c0 : (rd_T43 l0 0).f0 = 0
   ·rw [if_pos c0]; exact .inr (.inl ⟨rfl, .inl c0⟩)
   ·rw [if_neg c0]
    by_cases c2 : (rd_T43 l0 0).f0 = 2
    ·rw [if_pos c2]; exact .inr (.inl ⟨rfl, .inr c2⟩)
    ·rw [if_neg c2]
     by_cases c1 : (rd_T43 l0 0).f0 = 1
     ·rw [if_pos c1]; exact .inr (.inr ⟨rfl, c1⟩)
     ·rw [if_neg c1]; exact .inl rfl
  by_cases hz : manyOf (rd_T43 l0 0).f0 = 0
  ·rw [show cancelN l0 = 0 from by unfold cancelN; rw [if_pos hz]]
   exact canc_other l0 A0 c0 hl hz w hr0
  ·by_cases hs : l0.length < manyOf (rd_T43 l0 0).f0
   ·rw [show cancelN l0 = 0 from by unfold cancelN; rw [if_neg hz, if_pos hs]]
    exact canc_short l0 A0 c0 hl (by omega) w hr0
   ·exact canc_some l0 A0 c0 hl _ (by omega) (by omega) rfl w hr0 hc0
 ·rw [if_neg hl] at h; cases h

/- impl.SimplifySteps: steps that cancel each other are taken out. -/

def simpF : Nat → List S43 → Nat → List S43
 | 0, l, _ => l
 | k + 1, l, i => if i < l.length then (if cancelN (l.drop i) = 0 then simpF k l (i + 1) else simpF k (l.take i ++ l.drop (i + cancelN (l.drop i))) 0) else l
def impl_SimplifySteps.f (l0 : List S43) : Option (List S43) := if l0.all (fun s => decide (s.f2.length ≤ 1000000)) = true then some (if 12 < l0.length then [] else simpF 200 l0 0) else none
theorem simpF_succ (k : Nat) (l : List S43) (i : Nat) : simpF (k + 1) l i = if i < l.length then (if cancelN (l.drop i) = 0 then simpF k l (i + 1) else simpF k (l.take i ++ l.drop (i + cancelN (l.drop i))) 0) else l := rfl
theorem cancelN_le (l : List S43) : cancelN l ≤ l.length := by
 unfold cancelN
 split
 ·omega
 ·split
  ·omega
  ·split <;> omega
set_option maxHeartbeats 4000000 in
set_option maxRecDepth 100000 in
theorem simp_some (A0 : Option Addr) (c0 : Nat) (l : List S43) (w : World) (hr0 : Kd.C k43 w A0 l.length l) (h12 : l.length ≤ 12) (hpx : ∀ s ∈ l, s.f2.length ≤ 1000000) :
  Calls Try.prog 37 #[.slice A0 l.length c0] w fun e w' => ∃ v0_ : Value, e = .returned v0_ ∧ Kd.R k43 43 w' w.heap.size (fun _ => True) v0_ (simpF 200 l 0) ∧ Below w.heap.size w w' := by
 have HR := mk hr0
 have hu := Try.underlying32
 have hus := Try.underlying43
 have hui := Try.underlying22
 have q12 : decide ((l.length : Int) > 12) = false := decide_eq_false (by omega)
 have q12b : decide (12 < l.length) = false := decide_eq_false (by omega)
 clear hr0
 go_enter Try.func37, Try.ntmps37
 go_wp2_with (first
  | ((with_reducible refine gate_dst (N := 11) rfl ?_); refine Kd.R_lit k43 (w0 := w) w.heap.size 43 ?hg (N := 11) ?hd (xs := ([] : List S43)) (inner := []) (ok := fun _ => True) (okp := fun _ => True) ?hr ?hp (fun _ hk => hk) trivial (Below.refl _ _) (Nat.le_refl _) (by simp) ?_; (case hd => rfl); (case hg => rfl); (case hr => first | (go_simp; done) | (go_simp; rfl)); (case hp => exact (Reps.none _ _)); intro v11 w1 ho hb hg_ hnew_; have O1 := mk (And.intro ho (And.intro (hnew_.imp fun _ h => h.1) hb)); clear ho hb hg_ hnew_))
 go_loopw [3, 14] (fun v3 v14 W => ∃ i : Nat, v14 = .int .i64 i ∧ i ≤ l.length ∧ Aside0 (Kd.R k43 43 W w.heap.size (fun _ => True) v3 (l.take i) ∧ (∃ g, v3.ownBlock = some g) ∧ Below w.heap.size w W)) (fun _ v14 _ => l.length - (intOf v14).toNat)
 case atStart => exact ⟨0, rfl, by omega, ⟨O1.out.1, O1.out.2.1, O1.out.2.2⟩⟩
 case round =>
  clear O1
  obtain ⟨i, rfl, hi, HV⟩ := hrel
  by_cases hlt : i < l.length
  ·have q1 : decide ((i : Int) < (l.length : Int)) = true := decide_eq_true (by omega)
   obtain ⟨ad, A5, c5, e, hx0, hx1, hx2, hx3, hx4, hx5, l5, g5⟩ := at_T43 (Kd.C_below HR.out HV.out.2.2) (i : Int) (by omega) (by omega)
   subst e
   rw [Int.toNat_natCast] at hx0 hx1 hx2 hx3 hx4 hx5
   have er : rd_T43 l (i : Int) = l[i] := by simp [rd_T43, hlt]
   have HTK := mk (show l.take (i + 1) = l.take i ++ [rd_T43 l (i : Int)] from by rw [List.take_succ_eq_append_getElem hlt, er])
   have HPX := mk (show (rd_T43 l (i : Int)).f2.length ≤ 1000000 from by rw [er]; exact hpx _ (List.getElem_mem _))
   clear er
   generalize rd_T43 l (i : Int) = x at *
   have HOW := mk HV.out.2.1
   have KS := mk (blk_new wr (.cells #[.int .i64 x.f0, .int .i64 x.f1.f0, .int .i64 x.f1.f1, .int .i64 x.f1.f2, .int .i64 x.f1.f3, .slice A5 x.f2.length c5] 43 (0, 0)))
   have hgs1 : wr.heap.size < (wr.alloc (.cells #[.int .i64 x.f0, .int .i64 x.f1.f0, .int .i64 x.f1.f1, .int .i64 x.f1.f2, .int .i64 x.f1.f3, .slice A5 x.f2.length c5] 43 (0, 0))).heap.size := blk_lt KS.out
   have hws : w.heap.size ≤ wr.heap.size := HV.out.2.2.size
   have ROA := mk (Kd.R_old HV.out.1 (below_alloc (Below.refl _ _) (.cells #[.int .i64 x.f0, .int .i64 x.f1.f0, .int .i64 x.f1.f1, .int .i64 x.f1.f2, .int .i64 x.f1.f3, .slice A5 x.f2.length c5] 43 (0, 0))))
   have HBA := mk (below_alloc HV.out.2.2 (.cells #[.int .i64 x.f0, .int .i64 x.f1.f0, .int .i64 x.f1.f1, .int .i64 x.f1.f2, .int .i64 x.f1.f3, .slice A5 x.f2.length c5] 43 (0, 0)))
   have HCA := mk (Kd.C_below g5 (below_alloc (Below.refl _ _) (.cells #[.int .i64 x.f0, .int .i64 x.f1.f0, .int .i64 x.f1.f1, .int .i64 x.f1.f2, .int .i64 x.f1.f3, .slice A5 x.f2.length c5] 43 (0, 0))))
   clear HV g5
   go_wp2_with (first
    | ((with_reducible refine gate_dst (N := 18) rfl ?_); refine Kd.R_lit (Kd.int .i64) (w0 := (wr.alloc (.cells #[.int .i64 x.f0, .int .i64 x.f1.f0, .int .i64 x.f1.f1, .int .i64 x.f1.f2, .int .i64 x.f1.f3, .slice A5 x.f2.length c5] 43 (0, 0)))) (wr.alloc (.cells #[.int .i64 x.f0, .int .i64 x.f1.f0, .int .i64 x.f1.f1, .int .i64 x.f1.f2, .int .i64 x.f1.f3, .slice A5 x.f2.length c5] 43 (0, 0))).heap.size 3 ?hg (N := 18) ?hd (xs := ([] : List Int)) (inner := []) (ok := fun _ => True) (okp := fun _ => True) ?hr ?hp (fun _ hk => hk) trivial (Below.refl _ _) (Nat.le_refl _) (by simp) ?_; (case hd => rfl); (case hg => rfl); (case hr => first | (go_simp; done) | (go_simp; rfl)); (case hp => exact (Reps.none _ _)); intro v18 w2 ho hb hg_ hnew_; have RP2 := mk ho; have RO2 := mk (Kd.R_below ROA.out hb); have KS2 := mk (blk_below KS.out hb); have HB2 := mk (below_then HBA.out HBA.out.size hb); have HC2 := mk (Kd.C_below HCA.out hb); have SZ2 := mk hb.size; clear ho hb hg_ hnew_ KS ROA HBA HCA; generalize (wr.alloc (.cells #[.int .i64 x.f0, .int .i64 x.f1.f0, .int .i64 x.f1.f1, .int .i64 x.f1.f2, .int .i64 x.f1.f3, .slice A5 x.f2.length c5] 43 (0, 0))).heap.size = s1 at *; generalize wr.heap.size = gs at *; have y0 : w2.cell? ⟨gs, 0, none⟩ = some (.int .i64 x.f0) := (blk_cell KS2.out 0).trans rfl; have y1 : w2.cell? ⟨gs, 1, none⟩ = some (.int .i64 x.f1.f0) := (blk_cell KS2.out 1).trans rfl; have y2 : w2.cell? ⟨gs, 2, none⟩ = some (.int .i64 x.f1.f1) := (blk_cell KS2.out 2).trans rfl; have y3 : w2.cell? ⟨gs, 3, none⟩ = some (.int .i64 x.f1.f2) := (blk_cell KS2.out 3).trans rfl; have y4 : w2.cell? ⟨gs, 4, none⟩ = some (.int .i64 x.f1.f3) := (blk_cell KS2.out 4).trans rfl; have y5 : w2.cell? ⟨gs, 5, none⟩ = some (.slice A5 x.f2.length c5) := (blk_cell KS2.out 5).trans rfl)
    | ((with_reducible refine gate_builtin (b := .append) (xs := #[.tmp 18, .tmp 20]) rfl ?_); at_builtin; refine Kd.R_append_rows (Kd.int .i64) (w0 := w2) s1 rfl (.tmp 18) (.tmp 20) 22 3 (.int .i64 0) 8 rfl Try.underlying22 info3 rfl (by decide) (by omega) v18 [] x.f2 _ _ _ (fun _ => True) (fun _ => False) rfl rfl RP2.out HC2.out (fun _ _ h => h) (fun _ h => h.elim) (fun _ _ => trivial) (Below.refl _ _) SZ2.out (by have := HPX.out; simp; omega) ?_; intro v21 w3 ho hb hg hat; rw [List.nil_append] at ho; obtain ⟨A7, q7, e7⟩ := Kd.R_slice ho; subst e7; have RP3 := mk ho; have RO3 := mk (Kd.R_step RO2.out (w1 := w3) (fun k hk _ => hb.block k (by have := hk.2; omega))); have KS3 := mk ((hb.block gs hgs1).trans KS2.out); have HB3 := mk (below_weaken HB2.out (by omega) hb); clear ho hb hg hat RP2 RO2 KS2 HB2 HC2; have KS4 := mk (blk_put (cs' := #[.int .i64 x.f0, .int .i64 x.f1.f0, .int .i64 x.f1.f1, .int .i64 x.f1.f2, .int .i64 x.f1.f3, (.slice A7 x.f2.length q7)]) KS3.out 5 (.slice A7 x.f2.length q7) rfl); have u5 : w3.cell? ⟨gs, 5, none⟩ = some (.slice A5 x.f2.length c5) := (blk_cell KS3.out 5).trans rfl; have uf := blk_frozen KS3.out 5; have z0 : (w3.setCell ⟨gs, 5, none⟩ (.slice A7 x.f2.length q7)).cell? ⟨gs, 0, none⟩ = some (.int .i64 x.f0) := (blk_cell KS4.out 0).trans rfl; have z1 : (w3.setCell ⟨gs, 5, none⟩ (.slice A7 x.f2.length q7)).cell? ⟨gs, 1, none⟩ = some (.int .i64 x.f1.f0) := (blk_cell KS4.out 1).trans rfl; have z2 : (w3.setCell ⟨gs, 5, none⟩ (.slice A7 x.f2.length q7)).cell? ⟨gs, 2, none⟩ = some (.int .i64 x.f1.f1) := (blk_cell KS4.out 2).trans rfl; have z3 : (w3.setCell ⟨gs, 5, none⟩ (.slice A7 x.f2.length q7)).cell? ⟨gs, 3, none⟩ = some (.int .i64 x.f1.f2) := (blk_cell KS4.out 3).trans rfl; have z4 : (w3.setCell ⟨gs, 5, none⟩ (.slice A7 x.f2.length q7)).cell? ⟨gs, 4, none⟩ = some (.int .i64 x.f1.f3) := (blk_cell KS4.out 4).trans rfl; have z5 : (w3.setCell ⟨gs, 5, none⟩ (.slice A7 x.f2.length q7)).cell? ⟨gs, 5, none⟩ = some (.slice A7 x.f2.length q7) := (blk_cell KS4.out 5).trans rfl; have RO4 := mk (Kd.R_far (p := ⟨gs, 5, none⟩) RO3.out (fun k hk => by show k ≠ gs; have := hk.2; omega) (.slice A7 x.f2.length q7)); have RP4 := mk (Kd.R_far (p := ⟨gs, 5, none⟩) (Kd.R_bound RP3.out) (fun k hk => by show k ≠ gs; have := hk.2.1; omega) (.slice A7 x.f2.length q7)); have HB4 := mk (below_set (j := 5) (v := (.slice A7 x.f2.length q7)) HB3.out (by omega)); clear RO3 RP3 HB3 KS3 KS4)
    | ((with_reducible refine gate_builtin (b := .append) (xs := #[.tmp 23, .tmp 25]) rfl ?_); at_builtin; refine Kd.R_append k43 (w0 := w) w.heap.size rfl (.tmp 23) (.tmp 25) 32 43 (.agg #[(.int .i64 0), (.int .i64 0), (.int .i64 0), (.int .i64 0), (.int .i64 0), (.slice none 0 0)]) 64 rfl Try.underlying32 info43 rfl (by decide) (by omega) u3 (l.take i) x [.int .i64 x.f0, .int .i64 x.f1.f0, .int .i64 x.f1.f1, .int .i64 x.f1.f2, .int .i64 x.f1.f3, (.slice A7 x.f2.length q7)] (fun _ => True) (fun k => some k ≠ u3.ownBlock) rfl ?aX (k43_mkM _ _ _ x (Kd.R_lower (Kd.R_mono RP4.out (fun k hk he => by have h1 := hk.2.1; have h2 := (RO4.out.1 k he.symm).2; omega)) (by omega))) (fun k hk => ⟨trivial, hk⟩) (fun _ _ => trivial) (Kd.R_mono RO4.out (fun _ _ => trivial)) HB4.out HB4.out.size (by rw [List.length_take]; omega) ?_; (case aX => first | rfl | (rw [show (w3.setCell ⟨gs, 5, none⟩ (.slice A7 x.f2.length q7)).heap.size = w3.heap.size from by simp [World.setCell]]; rfl) | (simp [World.setCell]; done)); intro v26 w6 ho hb hg hat; have O6 := mk (And.intro ho (And.intro (show ∃ g, v26.ownBlock = some g from by rcases hat with e | ⟨b, e, _⟩; exact e ▸ HOW.out; exact ⟨b, e⟩) hb)); clear ho hb hg hat))
   go_roundw
   case rel => exact ⟨i + 1, by go_num, by omega, ⟨by rw [HTK.out]; exact O6.out.1, O6.out.2.1, O6.out.2.2⟩⟩
   case measure => simp [intOf]; omega
  ·have q1 : decide ((i : Int) < (l.length : Int)) = false := decide_eq_false (by omega)
   have htl : l.take i = l := List.take_of_length_le (by omega)
   rw [htl] at HV
   go_wp2
   go_loopg [3, 6] 200 (fun kq v3 v6 W => ∃ (cur : List S43) (i : Nat), v6 = .int .i64 i ∧ i ≤ cur.length ∧ cur.length ≤ 12 ∧ cur.length * 13 + (cur.length - i) < kq ∧ Aside0 (Kd.R k43 43 W w.heap.size (fun _ => True) v3 cur ∧ (∃ g, v3.ownBlock = some g) ∧ Below w.heap.size w W ∧ simpF kq cur i = simpF 200 l 0))
   case atStart => exact ⟨l, 0, rfl, by omega, h12, by omega, ⟨HV.out.1, HV.out.2.1, HV.out.2.2, rfl⟩⟩
   case round =>
    clear HV htl
    obtain ⟨cur, i, rfl, hi, h12c, hms, HV⟩ := hrel
    cases gk with
    | zero => omega
    | succ k1 =>
     have hsf := HV.out.2.2.2
     rw [simpF_succ] at hsf
     by_cases hlt : i < cur.length
     ·rw [if_pos hlt] at hsf
      have q1 : decide ((i : Int) < (cur.length : Int)) = true := decide_eq_true (by omega)
      obtain ⟨gg, cc, e, _, _, _⟩ := Kd.R_form HV.out.1 (by omega)
      subst e
      obtain ⟨_, hcc, hC⟩ := Kd.R_reads' HV.out.1
      have hne : ¬ cc = i := by omega
      have hcl := cancelN_le (cur.drop i)
      rw [List.length_drop] at hcl
      have hCd := Kd.C_drop (m := i) (c := cc) hC (by omega) hcc
      rw [if_neg hne, Option.map_some, add_plain] at hCd
      have hcn := impl_cancelling.calls (some ⟨gg, i * 6, none⟩) (cc - i) (cur.drop i) (cancelN (cur.drop i) : Int) wr hCd (by rw [List.length_drop]; omega) (by unfold impl_cancelling.f; rw [if_pos (by rw [List.length_drop]; omega)])
      rw [List.length_drop] at hcn
      have HCN := mk hcn
      have RO := mk HV.out.1
      have HBW := mk HV.out.2.2.1
      clear hC hCd hcn HV
      have hil : (i : Int) ≤ (cur.length : Int) := by omega
      by_cases hz : cancelN (cur.drop i) = 0
      ·rw [if_pos hz] at hsf
       rw [hz] at HCN
       have HSF := mk hsf
       clear hsf hz hcl
       go_wp2_with (first
        | (go_at_call 67; (with_reducible refine (HCN.out).mono ?_); rintro e w2 ⟨rfl, hb⟩; have RO2 := mk (Kd.R_below RO.out hb); have HB2 := mk (below_then HBW.out HBW.out.size hb); clear hb))
       go_roundg k1
       case measure => omega
       case rel => exact ⟨cur, i + 1, by go_num, by omega, h12c, by omega, ⟨RO2.out, ⟨gg, rfl⟩, HB2.out, HSF.out⟩⟩
      ·rw [if_neg hz] at hsf
       generalize cancelN (cur.drop i) = mm at *
       have HSF := mk hsf
       have hmz : decide ((mm : Int) = 0) = false := decide_eq_false (by omega)
       have hmz2 : ((mm : Int) == 0) = false := by simpa using hz
       have hwp : IntKind.i64.wrap ((i : Int) + (mm : Int)) = (i : Int) + (mm : Int) := by rw [IntKind.wrap_i64]; omega
       clear hsf
       go_wp2_with (first
        | (go_at_call 67; (with_reducible refine (HCN.out).mono ?_); rintro e w2 ⟨rfl, hb⟩; have RO2 := mk (Kd.R_below RO.out hb); have HB2 := mk (below_then HBW.out HBW.out.size hb); clear hb)
        | (go_at_call 68; have hdl := delete_calls cur.length cc gg w.heap.size (fun _ => True) cur i (i + mm) (by omega) (by omega) w2 HB2.out.size RO2.out; rw [Int.natCast_add] at hdl; (with_reducible refine hdl.mono ?_); clear hdl; rintro e w3 ⟨rfl, hR, hb⟩; have RO3 := mk hR; have HB3 := mk (below_weaken HB2.out (Nat.le_refl _) hb); clear hR hb))
       go_roundg k1
       case measure => omega
       case rel =>
        have hln : (cur.take i ++ cur.drop (i + mm)).length = cur.length - mm := by rw [List.length_append, List.length_take, List.length_drop]; omega
        exact ⟨cur.take i ++ cur.drop (i + mm), 0, by go_num, by omega, by omega, by omega, ⟨by have h := RO3.out; rw [Nat.add_sub_cancel_left] at h; exact h, ⟨gg, rfl⟩, HB3.out, HSF.out⟩⟩
     ·rw [if_neg hlt] at hsf
      have q1 : decide ((i : Int) < (cur.length : Int)) = false := decide_eq_false (by omega)
      obtain ⟨A3, c3, e3⟩ := Kd.R_slice HV.out.1
      subst e3
      subst hsf
      go_wp2
      go_ret
      exact ⟨_, rfl, HV.out.1, HV.out.2.2.1⟩
theorem impl_SimplifySteps.calls (A0 : Option Addr) (c0 : Nat) (l0 : List S43) (r : List S43) (w : World) (hr0 : Kd.C k43 w A0 l0.length l0) (hc0 : l0.length ≤ c0) (h : impl_SimplifySteps.f l0 = some r) :
  Calls Try.prog 37 #[.slice A0 l0.length c0] w fun e w' => ∃ v0_ : Value, e = .returned (v0_) ∧ Kd.R k43 43 w' w.heap.size (fun _ => True) v0_ r ∧ Below w.heap.size w w' := by
 unfold impl_SimplifySteps.f at h
 by_cases ha : l0.all (fun s => decide (s.f2.length ≤ 1000000)) = true
 ·rw [if_pos ha] at h
  by_cases h12 : 12 < l0.length
  ·rw [if_pos h12] at h
   obtain rfl := Option.some.inj h
   have q12 : decide ((l0.length : Int) > 12) = true := decide_eq_true (by omega)
   have q12b : decide (12 < l0.length) = true := decide_eq_true (by omega)
   clear hr0
   go_enter Try.func37, Try.ntmps37
   go_wp2
   go_ret
   exact ⟨_, rfl, Kd.R_nil _ _ _ _ _, Below.refl _ _⟩
  ·rw [if_neg h12] at h
   obtain rfl := Option.some.inj h
   exact simp_some A0 c0 l0 w hr0 (by omega) (fun s hs => by
    have := List.all_eq_true.1 ha s hs
    simpa using this)
 ·rw [if_neg ha] at h; cases h
end Go.Proofs.Ytgccpcnakkioiaa.Q

/- A pixel's numbers, and where they lie. -/
namespace Go.Proofs.Ytgccpcnakkioiaa.Pure
open Go.RowKit Go.Proofs.Ytgccpcnakkioiaa.Q Go.Proofs.YtgccpcnakkioiaaW.PrintWords Go.Proofs.YtgccpcnakkioiaaW.PrintLast Go.Proofs.YtgccpcnakkioiaaW.PrintMore
set_option linter.unusedVariables false
set_option linter.unusedSimpArgs false

def pixJ (a p : Int) (x y : Nat) : Int := wrap64 ((wrap64 ((wrap64 ((y : Int) * a)) + (x : Int))) * p)
theorem pixJ_is {a b p : Int} {d : List Int} (hv : validI a b p d = true) {x y : Nat} (hx : (x : Int) < a) (hy : (y : Int) < b) : 0 ≤ pixJ a p x y ∧ pixJ a p x y ≤ 1024 ∧ pixJ a p x y = ((y : Int) * a + x) * p ∧ pixJ a p x y + p ≤ (d.length : Int) := by
 have h := (validI_iff a b p d).1 hv
 have hp := shape_prod h.1
 have h1 : 0 ≤ (y : Int) * a := Int.mul_nonneg (by omega) (by omega)
 have h2 : (y : Int) * a ≤ (b - 1) * a := Int.mul_le_mul_of_nonneg_right (by omega) (by omega)
 have h3 : (b - 1) * a = a * b - a := by rw [Int.sub_mul, Int.mul_comm b a]; omega
 have h4 : 0 ≤ ((y : Int) * a + x) * p := Int.mul_nonneg (by omega) (by omega)
 have h5 : ((y : Int) * a + x) * p ≤ (a * b - 1) * p := Int.mul_le_mul_of_nonneg_right (by omega) (by omega)
 have h6 : (a * b - 1) * p = a * b * p - p := by rw [Int.sub_mul]; omega
 have e : pixJ a p x y = ((y : Int) * a + x) * p := by
  unfold pixJ
  rw [w64 (x := (y : Int) * a) (by omega) (by omega), w64 (x := (y : Int) * a + (x : Int)) (by omega) (by omega), w64 (by omega) (by omega)]
 omega
end Go.Proofs.Ytgccpcnakkioiaa.Pure

/- A pixel's numbers read out of an image that is valid. -/
namespace Go.Proofs.Ytgccpcnakkioiaa.Q
open Go.RowKit Go.Proofs.YtgccpcnakkioiaaW.PrintWords Go.Proofs.YtgccpcnakkioiaaW.PrintLast Go.Proofs.YtgccpcnakkioiaaW.PrintMore
attribute [local go_sem] max2_int min2_int max_two min_two max_three min_three max_four min_four
set_option linter.unusedVariables false
set_option linter.unusedSimpArgs false
open Go.Proofs.Ytgccpcnakkioiaa.Pure

def pxAt (a p : Int) (d : List Int) (x y : Nat) : List Int := pixT d (pixJ a p x y) p
theorem pxAt_len {a b p : Int} {d : List Int} (hv : validI a b p d = true) {x y : Nat} (hx : (x : Int) < a) (hy : (y : Int) < b) : ((pxAt a p d x y).length : Int) = p := by
  have hb := pixJ_is hv hx hy
  have hs := ((validI_iff a b p d).1 hv).1
  unfold pxAt
  rw [pixT_length _ _ _ (by rw [w64 (by omega) (by omega)]; omega), w64 (by omega) (by omega)]
  omega
theorem pxAt_le {a b p : Int} {d : List Int} (hv : validI a b p d = true) {x y : Nat} (hx : (x : Int) < a) (hy : (y : Int) < b) : (pxAt a p d x y).length ≤ 4 := by
  have h1 := pxAt_len hv hx hy
  have hs := ((validI_iff a b p d).1 hv).1
  omega
theorem at_px {a b p : Int} (A : Option Addr) (c : Nat) {d : List Int} (hv : validI a b p d = true) (hc : d.length ≤ c) {x y : Nat} (hx : (x : Int) < a) (hy : (y : Int) < b) :
    ∃ (A' : Option Addr) (c' : Nat), (pxAt a p d x y).length ≤ c' ∧ ∀ w : World, Kd.C (Kd.int .i64) w A d.length d → (Kd.C (Kd.int .i64) w A' (pxAt a p d x y).length (pxAt a p d x y) ∧
      Calls Try.prog 55 #[.agg #[.int .i64 a, .int .i64 b, .int .i64 p, .slice A d.length c], .int .i64 (x : Int), .int .i64 (y : Int)] w fun e w' => e = .returned (.slice A' (pxAt a p d x y).length c') ∧ Below w.heap.size w w') := by
  have hb := pixJ_is hv hx hy
  have hs := ((validI_iff a b p d).1 hv).1
  have hw : wrap64 (pixJ a p x y + p) = pixJ a p x y + p := w64 (by omega) (by omega)
  exact at_calls a b p A c d (x : Int) (y : Int) (pixJ a p x y) hc rfl (by omega) (by omega) (by omega)

/- impl.MirrorImage's function value: a pixel in the mirror. -/

set_option maxHeartbeats 1600000 in
set_option maxRecDepth 100000 in
theorem mirror1_calls (a b p : Int) (A : Option Addr) (c : Nat) (d : List Int) (hv : validI a b p d = true) (hc : d.length ≤ c) (x y : Nat) (hx : (x : Int) < a) (hy : (y : Int) < b) (B : Nat) (w : World) (h1 : w.heap[B]? = some (.cells #[.int .i64 a, .int .i64 b, .int .i64 p, .slice A d.length c] 28 (0, 0))) (hr : Kd.C (Kd.int .i64) w A d.length d) :
  Calls Try.prog 54 (#[.int .i64 (x : Int), .int .i64 (y : Int)] ++ #[.pointer (some ⟨B, 0, none⟩)]) w fun e w' => ∃ (A' : Option Addr) (c' : Nat), e = .returned (.slice A' (pxAt a p d ((a - 1 - (x : Int)).toNat) y).length c') ∧ Kd.C (Kd.int .i64) w' A' (pxAt a p d ((a - 1 - (x : Int)).toNat) y).length (pxAt a p d ((a - 1 - (x : Int)).toNat) y) ∧ (pxAt a p d ((a - 1 - (x : Int)).toNat) y).length ≤ c' ∧ Below w.heap.size w w' := by
 have hs := ((validI_iff a b p d).1 hv).1
 have k0 := (blk_cell h1 0).trans rfl; have k1 := (blk_cell h1 1).trans rfl; have k2 := (blk_cell h1 2).trans rfl; have k3 := (blk_cell h1 3).trans rfl
 have hX : (((a - 1 - (x : Int)).toNat : Nat) : Int) = a - 1 - (x : Int) := Int.toNat_of_nonneg (by omega)
 obtain ⟨A', c', hc', HA⟩ := at_px (x := (a - 1 - (x : Int)).toNat) (y := y) A c hv hc (by omega) hy
 have HA' := HA w hr
 rw [hX] at HA'
 generalize pxAt a p d ((a - 1 - (x : Int)).toNat) y = px at *
 replace HA' := Aside0.mk HA'
 clear HA hr h1 hv hc
 simp only [List.append_toArray, List.cons_append, List.nil_append]
 go_enter Try.func54, Try.ntmps54
 go_wp2_with (first | (go_at_call 55; (with_reducible refine (HA'.out.2).mono ?_); rintro e w2 ⟨rfl, hb⟩))
 go_ret
 exact ⟨A', c', rfl, Kd.C_below HA'.out.1 hb, hc', hb⟩
end Go.Proofs.Ytgccpcnakkioiaa.Q

/- impl.MirrorImage: the columns in reverse order. -/
namespace Go.Proofs.Ytgccpcnakkioiaa.Q
open Go.RowKit Go.Proofs.YtgccpcnakkioiaaW.PrintWords Go.Proofs.YtgccpcnakkioiaaW.PrintLast Go.Proofs.YtgccpcnakkioiaaW.PrintMore
open Go.Proofs.YtgccpcnakkioiaaW.PrintWords.Aside0 (mk)
attribute [local go_sem] max2_int min2_int max_two min_two max_three min_three max_four min_four
set_option linter.unusedVariables false
set_option linter.unusedSimpArgs false
open Go.Proofs.Ytgccpcnakkioiaa.Pure

def mirPx (a p : Int) (d : List Int) (x y : Nat) : List Int := pxAt a p d (a - 1 - (x : Int)).toNat y
def impl_MirrorImage.f (a b p : Int) (d : List Int) : Option (Int × Int × Int × List Int) := some (if validI a b p d = true then (a, b, p, imgD (mirPx a p d) a.toNat b.toNat) else (0, 0, 0, []))
set_option maxHeartbeats 4000000 in
set_option maxRecDepth 100000 in
theorem mirror_no (a b p : Int) (A : Option Addr) (c : Nat) (d : List Int) (w : World) (hr0_3 : Kd.C (Kd.int .i64) w A d.length d) (hc0_3 : d.length ≤ c) (hv1 : validI a b p d = false) :
  Calls Try.prog 25 #[.agg #[.int .i64 a, .int .i64 b, .int .i64 p, .slice A d.length c]] w fun e w' => ∃ v3_ : Value, e = .returned (.agg #[.int .i64 0, .int .i64 0, .int .i64 0, v3_]) ∧ Kd.R (Kd.int .i64) 3 w' w.heap.size (fun _ => True) v3_ [] ∧ Below w.heap.size w w' := by
 have HC := mk hc0_3
 have HR := mk hr0_3
 have HB0 := mk (Below.refl w.heap.size w)
 have E1 := mk (impl_isImage_eq a b p d)
 have HV := mk hv1
 have hu := Try.underlying28
 clear hr0_3 hc0_3
 rw [hv1] at E1
 go_enter Try.func25, Try.ntmps25
 go_wp2_with (first
  | ((with_reducible refine gate_dst (N := 1) rfl ?_); refine box_event ?hg (N := 1) ?hd (cs := #[.int .i64 a, .int .i64 b, .int .i64 p, .slice A d.length c]) (t := 28) ?hr ?_; (case hd => rfl); (case hg => rfl); (case hr => first | (go_simp; done) | (go_simp; rfl)); intro g1 hg_ w1 hbox hb; have HB1 := mk (below_then HB0.out HB0.out.size hb); have Kg1_1 := mk hbox; clear hbox hb hg_)
  | ((with_reducible refine gate_dst (N := 2) rfl ?_); refine box_event ?hg (N := 2) ?hd (cs := #[.int .i64 0, .int .i64 0, .int .i64 0, .slice none 0 0]) (t := 28) ?hr ?_; (case hd => rfl); (case hg => rfl); (case hr => first | (go_simp; done) | (go_simp; rfl)); intro g2 hg_ w2 hbox hb; have HB2 := mk (below_then HB1.out HB1.out.size hb); have Gg2 := mk (show w.heap.size ≤ g2 from by rw [hg_]; exact HB1.out.size); have Kg1_2 := mk (blk_below Kg1_1.out hb); have Kg2_2 := mk hbox; have fg1_0 : w2.cell? ⟨g1, 0, none⟩ = some (.int .i64 a) := (blk_cell Kg1_2.out 0).trans rfl; have fg1_1 : w2.cell? ⟨g1, 1, none⟩ = some (.int .i64 b) := (blk_cell Kg1_2.out 1).trans rfl; have fg1_2 : w2.cell? ⟨g1, 2, none⟩ = some (.int .i64 p) := (blk_cell Kg1_2.out 2).trans rfl; have fg1_3 : w2.cell? ⟨g1, 3, none⟩ = some (.slice A d.length c) := (blk_cell Kg1_2.out 3).trans rfl; clear hbox hb hg_)
  | (go_at_call 43; (with_reducible refine (impl_isImage.calls a b p A c d _ w2 (Kd.C_below HR.out HB2.out) HC.out E1.out).mono ?_); rintro e w3 ⟨rfl, hb_⟩; have HB3 := mk (below_then HB2.out HB2.out.size hb_); have Kg2_3 := mk (blk_below Kg2_2.out hb_); have eg2_3_0 : w3.cell? ⟨g2, 0, none⟩ = some (.int .i64 0) := (blk_cell Kg2_3.out 0).trans rfl; have eg2_3_1 : w3.cell? ⟨g2, 1, none⟩ = some (.int .i64 0) := (blk_cell Kg2_3.out 1).trans rfl; have eg2_3_2 : w3.cell? ⟨g2, 2, none⟩ = some (.int .i64 0) := (blk_cell Kg2_3.out 2).trans rfl; have eg2_3_3 : w3.cell? ⟨g2, 3, none⟩ = some (.slice none 0 0) := (blk_cell Kg2_3.out 3).trans rfl; have yg2_3_0 := blk_frozen Kg2_3.out 0; have yg2_3_1 := blk_frozen Kg2_3.out 1; have yg2_3_2 := blk_frozen Kg2_3.out 2; have yg2_3_3 := blk_frozen Kg2_3.out 3; clear hb_))
 refine bodyPost_ret (results_cell_row rfl _ _ g2 28 #[.int .i64 0, .int .i64 0, .int .i64 0, .slice none 0 0] (0, 0) _ rfl (by
  refine blk_put (cs := #[.int .i64 0, .int .i64 0, .int .i64 0, .slice none 0 0]) ?_ 3 _ rfl
  refine blk_put (cs := #[.int .i64 0, .int .i64 0, .int .i64 0, .slice none 0 0]) ?_ 2 _ rfl
  refine blk_put (cs := #[.int .i64 0, .int .i64 0, .int .i64 0, .slice none 0 0]) ?_ 1 _ rfl
  refine blk_put (cs := #[.int .i64 0, .int .i64 0, .int .i64 0, .slice none 0 0]) ?_ 0 _ rfl
  exact Kg2_3.out
  ) hu rfl (by kernel_rfl)) rfl ?_
 have G2 := Gg2.out
 exact ⟨_, rfl, Kd.R_nil _ _ _ _ _, below_set (below_set (below_set (below_set HB3.out (by omega)) (by omega)) (by omega)) (by omega)⟩
set_option maxHeartbeats 4000000 in
set_option maxRecDepth 100000 in
theorem mirror_yes (a b : Nat) (p : Int) (A : Option Addr) (c : Nat) (d : List Int) (w : World) (hr0_3 : Kd.C (Kd.int .i64) w A d.length d) (hc0_3 : d.length ≤ c) (hv1 : validI a b p d = true) :
  Calls Try.prog 25 #[.agg #[.int .i64 (a : Int), .int .i64 (b : Int), .int .i64 p, .slice A d.length c]] w fun e w' => ∃ v3_ : Value, e = .returned (.agg #[.int .i64 (a : Int), .int .i64 (b : Int), .int .i64 p, v3_]) ∧ Kd.R (Kd.int .i64) 3 w' w.heap.size (fun _ => True) v3_ (imgD (mirPx a p d) a b) ∧ Below w.heap.size w w' := by
 have HC := mk hc0_3
 have HR := mk hr0_3
 have HB0 := mk (Below.refl w.heap.size w)
 have E1 := mk (impl_isImage_eq a b p d)
 have HV := mk hv1
 have hu := Try.underlying28
 clear hr0_3 hc0_3
 rw [hv1] at E1
 have hs := ((validI_iff a b p d).1 hv1).1
 have HPL := mk (show ∀ x y, x < a → y < b → (mirPx a p d x y).length ≤ 4 from fun x y hx hy => pxAt_le hv1 (by omega) (by omega))
 clear hv1
 go_enter Try.func25, Try.ntmps25
 go_wp2_with (first
  | ((with_reducible refine gate_dst (N := 1) rfl ?_); refine box_event ?hg (N := 1) ?hd (cs := #[.int .i64 (a : Int), .int .i64 (b : Int), .int .i64 p, .slice A d.length c]) (t := 28) ?hr ?_; (case hd => rfl); (case hg => rfl); (case hr => first | (go_simp; done) | (go_simp; rfl)); intro g1 hg_ w1 hbox hb; have HB1 := mk (below_then HB0.out HB0.out.size hb); have Kg1_1 := mk hbox; clear hbox hb hg_)
  | ((with_reducible refine gate_dst (N := 2) rfl ?_); refine box_event ?hg (N := 2) ?hd (cs := #[.int .i64 0, .int .i64 0, .int .i64 0, .slice none 0 0]) (t := 28) ?hr ?_; (case hd => rfl); (case hg => rfl); (case hr => first | (go_simp; done) | (go_simp; rfl)); intro g2 hg_ w2 hbox hb; have HB2 := mk (below_then HB1.out HB1.out.size hb); have Gg2 := mk (show w.heap.size ≤ g2 from by rw [hg_]; exact HB1.out.size); have Kg1_2 := mk (blk_below Kg1_1.out hb); have Kg2_2 := mk hbox; have fg1_0 : w2.cell? ⟨g1, 0, none⟩ = some (.int .i64 (a : Int)) := (blk_cell Kg1_2.out 0).trans rfl; have fg1_1 : w2.cell? ⟨g1, 1, none⟩ = some (.int .i64 (b : Int)) := (blk_cell Kg1_2.out 1).trans rfl; have fg1_2 : w2.cell? ⟨g1, 2, none⟩ = some (.int .i64 p) := (blk_cell Kg1_2.out 2).trans rfl; have fg1_3 : w2.cell? ⟨g1, 3, none⟩ = some (.slice A d.length c) := (blk_cell Kg1_2.out 3).trans rfl; clear hbox hb hg_)
  | (go_at_call 43; (with_reducible refine (impl_isImage.calls a b p A c d _ w2 (Kd.C_below HR.out HB2.out) HC.out E1.out).mono ?_); rintro e w3 ⟨rfl, hb_⟩; have HB3 := mk (below_then HB2.out HB2.out.size hb_); have Kg1_3 := mk (blk_below Kg1_2.out hb_); have eg1_3_0 : w3.cell? ⟨g1, 0, none⟩ = some (.int .i64 (a : Int)) := (blk_cell Kg1_3.out 0).trans rfl; have eg1_3_1 : w3.cell? ⟨g1, 1, none⟩ = some (.int .i64 (b : Int)) := (blk_cell Kg1_3.out 1).trans rfl; have eg1_3_2 : w3.cell? ⟨g1, 2, none⟩ = some (.int .i64 p) := (blk_cell Kg1_3.out 2).trans rfl; have Kg2_3 := mk (blk_below Kg2_2.out hb_); clear hb_)
  | (go_at_call 53; refine (imageBy_calls 54 #[.pointer (some ⟨g1, 0, none⟩)] (mirPx a p d) a b p (by omega) (by omega) w3 (enters_of Try.func54 (by kernel_rfl) rfl) HPL.out (fun W x y hx hy hW => mirror1_calls a b p A c d HV.out HC.out x y (by omega) (by omega) g1 W (blk_below Kg1_3.out hW) (Kd.C_below (Kd.C_below HR.out HB3.out) hW))).mono ?_; rintro e w4 ⟨v4, rfl, hr4, hb_⟩; have HB4 := mk (below_then HB3.out HB3.out.size hb_); have Kg2_4 := mk (blk_below Kg2_3.out hb_); have eg2_4_0 : w4.cell? ⟨g2, 0, none⟩ = some (.int .i64 0) := (blk_cell Kg2_4.out 0).trans rfl; have eg2_4_1 : w4.cell? ⟨g2, 1, none⟩ = some (.int .i64 0) := (blk_cell Kg2_4.out 1).trans rfl; have eg2_4_2 : w4.cell? ⟨g2, 2, none⟩ = some (.int .i64 0) := (blk_cell Kg2_4.out 2).trans rfl; have eg2_4_3 : w4.cell? ⟨g2, 3, none⟩ = some (.slice none 0 0) := (blk_cell Kg2_4.out 3).trans rfl; have yg2_4_0 := blk_frozen Kg2_4.out 0; have yg2_4_1 := blk_frozen Kg2_4.out 1; have yg2_4_2 := blk_frozen Kg2_4.out 2; have yg2_4_3 := blk_frozen Kg2_4.out 3; have HR4 := mk (Kd.R_lower hr4 HB3.out.size); obtain ⟨A4, c4, ev4⟩ := Kd.R_slice HR4.out; subst ev4; clear hr4 hb_))
 have G2 := Gg2.out
 have RR := Kd.R_types HR4.out Kg2_4.out (by decide)
 refine bodyPost_ret (results_cell_row rfl _ _ g2 28 #[.int .i64 (a : Int), .int .i64 (b : Int), .int .i64 p, .slice A4 (imgD (mirPx a p d) a b).length c4] (0, 0) _ rfl (by
  refine blk_put (cs := #[.int .i64 (a : Int), .int .i64 (b : Int), .int .i64 p, .slice none 0 0]) ?_ 3 _ rfl
  refine blk_put (cs := #[.int .i64 (a : Int), .int .i64 (b : Int), .int .i64 0, .slice none 0 0]) ?_ 2 _ rfl
  refine blk_put (cs := #[.int .i64 (a : Int), .int .i64 0, .int .i64 0, .slice none 0 0]) ?_ 1 _ rfl
  refine blk_put (cs := #[.int .i64 0, .int .i64 0, .int .i64 0, .slice none 0 0]) ?_ 0 _ rfl
  exact Kg2_4.out
  ) hu rfl (by kernel_rfl)) rfl ?_
 exact ⟨_, rfl, Kd.R_mono (Kd.R_far (Kd.R_far (Kd.R_far (Kd.R_far RR (fun k hk => hk.2) _) (fun k hk => hk.2) _) (fun k hk => hk.2) _) (fun k hk => hk.2) _) (fun _ _ => trivial), below_set (below_set (below_set (below_set HB4.out (by omega)) (by omega)) (by omega)) (by omega)⟩
theorem impl_MirrorImage.calls (a b p : Int) (A : Option Addr) (c : Nat) (d : List Int) (r1 r2 r3 : Int) (r4 : List Int) (w : World) (hr0_3 : Kd.C (Kd.int .i64) w A d.length d) (hc0_3 : d.length ≤ c) (h : impl_MirrorImage.f a b p d = some (r1, r2, r3, r4)) :
  Calls Try.prog 25 #[.agg #[.int .i64 a, .int .i64 b, .int .i64 p, .slice A d.length c]] w fun e w' => ∃ v3_ : Value, e = .returned (.agg #[.int .i64 r1, .int .i64 r2, .int .i64 r3, v3_]) ∧ Kd.R (Kd.int .i64) 3 w' w.heap.size (fun _ => True) v3_ r4 ∧ Below w.heap.size w w' := by
 have hv := Option.some.inj h
 cases hv1 : validI a b p d with
 | false =>
  rw [hv1, if_neg (by simp)] at hv
  obtain ⟨rfl, rfl, rfl, rfl⟩ : 0 = r1 ∧ 0 = r2 ∧ 0 = r3 ∧ [] = r4 := by simpa using hv
  exact mirror_no a b p A c d w hr0_3 hc0_3 hv1
 | true =>
  have hs := ((validI_iff a b p d).1 hv1).1
  obtain ⟨an, rfl⟩ := Int.eq_ofNat_of_zero_le (show 0 ≤ a by omega)
  obtain ⟨bn, rfl⟩ := Int.eq_ofNat_of_zero_le (show 0 ≤ b by omega)
  rw [hv1, if_pos rfl] at hv
  obtain ⟨rfl, rfl, rfl, rfl⟩ : (an : Int) = r1 ∧ (bn : Int) = r2 ∧ p = r3 ∧ imgD (mirPx an p d) an bn = r4 := by simpa using hv
  exact mirror_yes an bn p A c d w hr0_3 hc0_3 hv1
end Go.Proofs.Ytgccpcnakkioiaa.Q

/- impl.TurnImage's function value: a pixel of the image before a quarter. -/
namespace Go.Proofs.Ytgccpcnakkioiaa.Q
open Go.RowKit Go.Proofs.YtgccpcnakkioiaaW.PrintWords Go.Proofs.YtgccpcnakkioiaaW.PrintLast Go.Proofs.YtgccpcnakkioiaaW.PrintMore
attribute [local go_sem] max2_int min2_int max_two min_two max_three min_three max_four min_four
set_option linter.unusedVariables false
set_option linter.unusedSimpArgs false
open Go.Proofs.Ytgccpcnakkioiaa.Pure

set_option maxHeartbeats 1600000 in
set_option maxRecDepth 100000 in
theorem turn1_calls (a b p : Int) (A : Option Addr) (c : Nat) (d : List Int) (hv : validI a b p d = true) (hc : d.length ≤ c) (x y : Nat) (hx : (x : Int) < b) (hy : (y : Int) < a) (B : Nat) (w : World) (h1 : w.heap[B]? = some (.cells #[.int .i64 a, .int .i64 b, .int .i64 p, .slice A d.length c] 28 (0, 0))) (hr : Kd.C (Kd.int .i64) w A d.length d) :
  Calls Try.prog 56 (#[.int .i64 (x : Int), .int .i64 (y : Int)] ++ #[.pointer (some ⟨B, 0, none⟩)]) w fun e w' => ∃ (A' : Option Addr) (c' : Nat), e = .returned (.slice A' (pxAt a p d y ((b - 1 - (x : Int)).toNat)).length c') ∧ Kd.C (Kd.int .i64) w' A' (pxAt a p d y ((b - 1 - (x : Int)).toNat)).length (pxAt a p d y ((b - 1 - (x : Int)).toNat)) ∧ (pxAt a p d y ((b - 1 - (x : Int)).toNat)).length ≤ c' ∧ Below w.heap.size w w' := by
 have hs := ((validI_iff a b p d).1 hv).1
 have k0 := (blk_cell h1 0).trans rfl; have k1 := (blk_cell h1 1).trans rfl; have k2 := (blk_cell h1 2).trans rfl; have k3 := (blk_cell h1 3).trans rfl
 have hX : (((b - 1 - (x : Int)).toNat : Nat) : Int) = b - 1 - (x : Int) := Int.toNat_of_nonneg (by omega)
 obtain ⟨A', c', hc', HA⟩ := at_px (x := y) (y := (b - 1 - (x : Int)).toNat) A c hv hc hy (by omega)
 have HA' := HA w hr
 rw [hX] at HA'
 generalize pxAt a p d y ((b - 1 - (x : Int)).toNat) = px at *
 replace HA' := Aside0.mk HA'
 clear HA hr h1 hv hc
 simp only [List.append_toArray, List.cons_append, List.nil_append]
 go_enter Try.func56, Try.ntmps56
 go_wp2_with (first | (go_at_call 55; (with_reducible refine (HA'.out.2).mono ?_); rintro e w2 ⟨rfl, hb⟩))
 go_ret
 exact ⟨A', c', rfl, Kd.C_below HA'.out.1 hb, hc', hb⟩
end Go.Proofs.Ytgccpcnakkioiaa.Q

/- impl.TurnImage, of one quarter. -/
namespace Go.Proofs.Ytgccpcnakkioiaa.Q
open Go.RowKit Go.Proofs.YtgccpcnakkioiaaW.PrintWords Go.Proofs.YtgccpcnakkioiaaW.PrintLast Go.Proofs.YtgccpcnakkioiaaW.PrintMore
open Go.Proofs.YtgccpcnakkioiaaW.PrintWords.Aside0 (mk)
attribute [local go_sem] max2_int min2_int max_two min_two max_three min_three max_four min_four
set_option linter.unusedVariables false
set_option linter.unusedSimpArgs false
open Go.Proofs.Ytgccpcnakkioiaa.Pure

def turnPx (a b p : Int) (d : List Int) (x y : Nat) : List Int := pxAt a p d y (b - 1 - (x : Int)).toNat
def impl_TurnImage.f (a b p : Int) (d : List Int) (k : Int) : Option (Int × Int × Int × List Int) := if k = 1 then some (if validI a b p d = true then (b, a, p, imgD (turnPx a b p d) b.toNat a.toNat) else (0, 0, 0, [])) else none
set_option maxHeartbeats 4000000 in
set_option maxRecDepth 100000 in
theorem turn_no (a b p : Int) (A : Option Addr) (c : Nat) (d : List Int) (w : World) (hr0_3 : Kd.C (Kd.int .i64) w A d.length d) (hc0_3 : d.length ≤ c) (hv1 : validI a b p d = false) :
  Calls Try.prog 26 #[.agg #[.int .i64 a, .int .i64 b, .int .i64 p, .slice A d.length c], .int .i64 1] w fun e w' => ∃ v3_ : Value, e = .returned (.agg #[.int .i64 0, .int .i64 0, .int .i64 0, v3_]) ∧ Kd.R (Kd.int .i64) 3 w' w.heap.size (fun _ => True) v3_ [] ∧ Below w.heap.size w w' := by
 have HC := mk hc0_3
 have HR := mk hr0_3
 have HB0 := mk (Below.refl w.heap.size w)
 have E1 := mk (impl_isImage_eq a b p d)
 have HV := mk hv1
 have hu := Try.underlying28
 clear hr0_3 hc0_3
 rw [hv1] at E1
 go_enter Try.func26, Try.ntmps26
 go_wp2_with (first
  | ((with_reducible refine gate_dst (N := 2) rfl ?_); refine box_event ?hg (N := 2) ?hd (cs := #[.int .i64 a, .int .i64 b, .int .i64 p, .slice A d.length c]) (t := 28) ?hr ?_; (case hd => rfl); (case hg => rfl); (case hr => first | (go_simp; done) | (go_simp; rfl)); intro g1 hg_ w1 hbox hb; have HB1 := mk (below_then HB0.out HB0.out.size hb); have Kb0 := mk hbox; have Gg1 := mk (show w.heap.size ≤ g1 from by rw [hg_]; exact HB0.out.size); have Kg1_1 := mk hbox; clear hbox hb hg_)
  | ((with_reducible refine gate_dst (N := 4) rfl ?_); refine box_event ?hg (N := 4) ?hd (cs := #[.int .i64 0, .int .i64 0, .int .i64 0, .slice none 0 0]) (t := 28) ?hr ?_; (case hd => rfl); (case hg => rfl); (case hr => first | (go_simp; done) | (go_simp; rfl)); intro g2 hg_ w2 hbox hb; have HB2 := mk (below_then HB1.out HB1.out.size hb); have Kb1 := mk hbox; have Gg2 := mk (show w.heap.size ≤ g2 from by rw [hg_]; exact HB1.out.size); have Kg1_2 := mk (blk_below Kg1_1.out hb); have Kg2_2 := mk hbox; obtain ⟨fg1_0, fg1_1, fg1_2, fg1_3, -⟩ := c4 Kg1_2.out; obtain ⟨fg2_0, fg2_1, fg2_2, fg2_3, -⟩ := c4 Kg2_2.out; clear hbox hb hg_)
  | (go_at_call 43; (with_reducible refine (impl_isImage.calls a b p A c d _ w2 (Kd.C_below HR.out HB2.out) HC.out E1.out).mono ?_); rintro e w3 ⟨rfl, hb_⟩; have HB3 := mk (below_then HB2.out HB2.out.size hb_); have Kg1_3 := mk (blk_below Kg1_2.out hb_); obtain ⟨eg1_3_0, eg1_3_1, eg1_3_2, eg1_3_3, -⟩ := c4 Kg1_3.out; have Kg2_3 := mk (blk_below Kg2_2.out hb_); obtain ⟨eg2_3_0, eg2_3_1, eg2_3_2, eg2_3_3, yg2_3_0, yg2_3_1, yg2_3_2, yg2_3_3⟩ := c4 Kg2_3.out; clear hb_))
 refine bodyPost_ret (results_cell_row rfl _ _ g2 28 #[.int .i64 0, .int .i64 0, .int .i64 0, .slice none 0 0] (0, 0) _ rfl (by
  refine blk_put (cs := #[.int .i64 0, .int .i64 0, .int .i64 0, .slice none 0 0]) ?_ 3 _ rfl
  refine blk_put (cs := #[.int .i64 0, .int .i64 0, .int .i64 0, .slice none 0 0]) ?_ 2 _ rfl
  refine blk_put (cs := #[.int .i64 0, .int .i64 0, .int .i64 0, .slice none 0 0]) ?_ 1 _ rfl
  refine blk_put (cs := #[.int .i64 0, .int .i64 0, .int .i64 0, .slice none 0 0]) ?_ 0 _ rfl
  exact Kg2_3.out
  ) hu rfl (by kernel_rfl)) rfl ?_
 have G2 := Gg2.out
 exact ⟨_, rfl, Kd.R_nil _ _ _ _ _, below_set (below_set (below_set (below_set HB3.out (by omega)) (by omega)) (by omega)) (by omega)⟩
set_option maxHeartbeats 4000000 in
set_option maxRecDepth 100000 in
theorem turn_yes (a b : Nat) (p : Int) (A : Option Addr) (c : Nat) (d : List Int) (w : World) (hr0_3 : Kd.C (Kd.int .i64) w A d.length d) (hc0_3 : d.length ≤ c) (hv1 : validI a b p d = true) :
  Calls Try.prog 26 #[.agg #[.int .i64 (a : Int), .int .i64 (b : Int), .int .i64 p, .slice A d.length c], .int .i64 1] w fun e w' => ∃ v3_ : Value, e = .returned (.agg #[.int .i64 (b : Int), .int .i64 (a : Int), .int .i64 p, v3_]) ∧ Kd.R (Kd.int .i64) 3 w' w.heap.size (fun _ => True) v3_ (imgD (turnPx a b p d) b a) ∧ Below w.heap.size w w' := by
 have HC := mk hc0_3
 have HR := mk hr0_3
 have HB0 := mk (Below.refl w.heap.size w)
 have E1 := mk (impl_isImage_eq a b p d)
 have HV := mk hv1
 have hu := Try.underlying28
 clear hr0_3 hc0_3
 rw [hv1] at E1
 have hs := ((validI_iff a b p d).1 hv1).1
 have hl := ((validI_iff a b p d).1 hv1).2.1
 have hsp := shape_prod hs
 have hpos : 0 < (a : Int) * b * p := Int.mul_pos (Int.mul_pos (by omega) (by omega)) (by omega)
 have HNE := mk (show 0 < d.length by omega)
 have HCP := mk (show impl_copyImage.f a b p d = some ((a : Int), (b : Int), p, d) from by
  unfold impl_copyImage.f
  simp only [Option.bind_some]
  rw [if_pos (by simp; omega)]
  simp)
 have HPL := mk (show ∀ x y, x < b → y < a → (turnPx a b p d x y).length ≤ 4 from fun x y hx hy => pxAt_le hv1 (by omega) (by omega))
 clear hv1 hl hsp hpos
 go_enter Try.func26, Try.ntmps26
 go_wp2_with (first
  | ((with_reducible refine gate_dst (N := 2) rfl ?_); refine box_event ?hg (N := 2) ?hd (cs := #[.int .i64 (a : Int), .int .i64 (b : Int), .int .i64 p, .slice A d.length c]) (t := 28) ?hr ?_; (case hd => rfl); (case hg => rfl); (case hr => first | (go_simp; done) | (go_simp; rfl)); intro g1 hg_ w1 hbox hb; have HB1 := mk (below_then HB0.out HB0.out.size hb); have Kb0 := mk hbox; have Gg1 := mk (show w.heap.size ≤ g1 from by rw [hg_]; exact HB0.out.size); have Kg1_1 := mk hbox; clear hbox hb hg_)
  | ((with_reducible refine gate_dst (N := 4) rfl ?_); refine box_event ?hg (N := 4) ?hd (cs := #[.int .i64 0, .int .i64 0, .int .i64 0, .slice none 0 0]) (t := 28) ?hr ?_; (case hd => rfl); (case hg => rfl); (case hr => first | (go_simp; done) | (go_simp; rfl)); intro g2 hg_ w2 hbox hb; have HB2 := mk (below_then HB1.out HB1.out.size hb); have Kb1 := mk hbox; have Gg2 := mk (show w.heap.size ≤ g2 from by rw [hg_]; exact HB1.out.size); have Kg1_2 := mk (blk_below Kg1_1.out hb); have Kg2_2 := mk hbox; obtain ⟨fg1_0, fg1_1, fg1_2, fg1_3, -⟩ := c4 Kg1_2.out; obtain ⟨fg2_0, fg2_1, fg2_2, fg2_3, -⟩ := c4 Kg2_2.out; clear hbox hb hg_)
  | (go_at_call 43; (with_reducible refine (impl_isImage.calls a b p A c d _ w2 (Kd.C_below HR.out HB2.out) HC.out E1.out).mono ?_); rintro e w3 ⟨rfl, hb_⟩; have HB3 := mk (below_then HB2.out HB2.out.size hb_); have Kg1_3 := mk (blk_below Kg1_2.out hb_); obtain ⟨eg1_3_0, eg1_3_1, eg1_3_2, eg1_3_3, -⟩ := c4 Kg1_3.out; have Kg2_3 := mk (blk_below Kg2_2.out hb_); obtain ⟨eg2_3_0, eg2_3_1, eg2_3_2, eg2_3_3, yg2_3_0, yg2_3_1, yg2_3_2, yg2_3_3⟩ := c4 Kg2_3.out; clear hb_)
  | (go_at_call 44; (with_reducible refine (impl_copyImage.calls a b p A c d a b p d w3 (Kd.C_below HR.out HB3.out) HC.out HCP.out).mono ?_); rintro e w4 ⟨v4, rfl, hr4, hb4⟩; have HB4 := mk (below_then HB3.out HB3.out.size hb4); have HR4 := mk (Kd.R_lower hr4 HB3.out.size); have Kg1_4 := mk (blk_below Kg1_3.out hb4); have Kg2_4 := mk (blk_below Kg2_3.out hb4); obtain ⟨gr, cr, e4, hgr, hgl, _⟩ := Kd.R_form hr4 HNE.out; subst e4; clear hr4 hb4 hgr hgl))
 have HCR := mk (Kd.R_reads' HR4.out).2.1
 have HGM := blk_new w4 (.cells #[.int .i64 (a : Int), .int .i64 (b : Int), .int .i64 p, .slice (some ⟨gr, 0, none⟩) d.length cr] 28 (0, 0))
 obtain ⟨g5, hg5⟩ : ∃ g5, g5 = w4.heap.size := ⟨_, rfl⟩
 have GE5 : w.heap.size ≤ g5 := by rw [hg5]; exact HB4.out.size
 have G25 : g2 < g5 := by rw [hg5]; exact blk_lt Kg2_4.out
 have G15 : g1 < g5 := by rw [hg5]; exact blk_lt Kg1_4.out
 rw [← hg5] at HGM ⊢
 have G2 := Gg2.out
 go_loopw [22] (fun v22 W => ((v22 = .int .i64 0 ∧ Aside0 (W.heap[g5]? = some (.cells #[.int .i64 (a : Int), .int .i64 (b : Int), .int .i64 p, .slice (some ⟨gr, 0, none⟩) d.length cr] 28 (0, 0))) ∧ Aside0 (Kd.C (Kd.int .i64) W (some ⟨gr, 0, none⟩) d.length d)) ∨ (v22 = .int .i64 1 ∧ ∃ v, Aside0 (W.heap[g5]? = some (.cells #[.int .i64 (b : Int), .int .i64 (a : Int), .int .i64 p, v] 28 (0, 0))) ∧ Aside0 (Kd.R (Kd.int .i64) 3 W w.heap.size (fun _ => True) v (imgD (turnPx a b p d) b a)))) ∧ Aside0 (W.heap[g1]? = some (.cells #[.int .i64 (a : Int), .int .i64 (b : Int), .int .i64 p, .slice A d.length c] 28 (0, 0))) ∧ Aside0 (W.heap[g2]? = some (.cells #[.int .i64 0, .int .i64 0, .int .i64 0, .slice none 0 0] 28 (0, 0))) ∧ Aside0 (Below w.heap.size w W)) (fun v22 _ => 1 - (intOf v22).toNat)
 case atStart => exact ⟨.inl ⟨rfl, ⟨HGM⟩, ⟨Kd.C_alloc (Kd.R_reads' HR4.out).2.2 _⟩⟩, ⟨blk_alloc Kg1_4.out _⟩, ⟨blk_alloc Kg2_4.out _⟩, ⟨below_alloc HB4.out _⟩⟩
 case round =>
  clear HGM hg5
  obtain ⟨hh, h1, h2, hb⟩ := hrel
  rcases hh with ⟨rfl, h5, HCO⟩ | ⟨rfl, v, h5, hr⟩
  ·have m0 := blk_cell h5.out 0; have m1 := blk_cell h5.out 1; have m2 := blk_cell h5.out 2; have m3 := blk_cell h5.out 3
   have n2 : ∀ o, (wr.alloc o).cell? ⟨g1, 2, none⟩ = some (.int .i64 p) := fun o => (blk_cell (blk_alloc h1.out o) 2).trans rfl
   have hne : wr.heap.size ≠ g5 := by have := blk_lt h5.out; omega
   have hne1 : wr.heap.size ≠ g1 := by have := blk_lt h1.out; omega
   go_wp2_with (first
    | (go_at_call 53; refine (imageBy_calls 56 #[.pointer (some ⟨wr.heap.size, 0, none⟩)] (turnPx a b p d) b a p (by omega) (by omega) _ (enters_of Try.func56 (by kernel_rfl) rfl) HPL.out (fun W x y hx hy hW => turn1_calls a b p (some ⟨gr, 0, none⟩) cr d HV.out HCR.out x y (by omega) (by omega) wr.heap.size W (blk_below (blk_new _ _) hW) (Kd.C_below (Kd.C_alloc HCO.out _) hW))).mono ?_; rintro e w6 ⟨v6, rfl, hr6, hb6⟩; have HB6 := mk (below_then (below_alloc hb.out _) (below_alloc hb.out _).size hb6); have h56 := mk (blk_below (blk_alloc h5.out _) hb6); have h26 := mk (blk_below (blk_alloc h2.out _) hb6); have h16 := mk (blk_below (blk_alloc h1.out _) hb6); have HR6 := mk (Kd.R_lower hr6 (below_alloc hb.out _).size); have q0 := blk_cell h56.out 0; have q1 := blk_cell h56.out 1; have q2 := blk_cell h56.out 2; have q3 := blk_cell h56.out 3; have u0 := blk_frozen h56.out 0; have u1 := blk_frozen h56.out 1; have u2 := blk_frozen h56.out 2; have u3 := blk_frozen h56.out 3; obtain ⟨A6, c6, ev6⟩ := Kd.R_slice HR6.out; subst ev6; clear hr6 hb6))
   have RR := Kd.R_types HR6.out h56.out (by decide)
   have H56 := h56.out
   refine ⟨⟨.inr ⟨rfl, .slice A6 (imgD (turnPx a b p d) b a).length c6, ⟨?_⟩, ⟨Kd.R_mono (Kd.R_far (Kd.R_far (Kd.R_far (Kd.R_far RR (fun k hk => hk.2) _) (fun k hk => hk.2) _) (fun k hk => hk.2) _) (fun k hk => hk.2) _) (fun _ _ => trivial)⟩⟩, ⟨blk_far (blk_far (blk_far (blk_far h16.out (by simp; omega) _) (by simp; omega) _) (by simp; omega) _) (by simp; omega) _⟩, ⟨blk_far (blk_far (blk_far (blk_far h26.out (by simp; omega) _) (by simp; omega) _) (by simp; omega) _) (by simp; omega) _⟩, ⟨below_set (below_set (below_set (below_set HB6.out (by omega)) (by omega)) (by omega)) (by omega)⟩⟩, by simp [intOf]⟩
   refine blk_put (cs := #[.int .i64 (b : Int), .int .i64 (a : Int), .int .i64 p, .slice (some ⟨gr, 0, none⟩) d.length cr]) ?_ 3 _ rfl
   refine blk_put (cs := #[.int .i64 (b : Int), .int .i64 (a : Int), .int .i64 p, .slice (some ⟨gr, 0, none⟩) d.length cr]) ?_ 2 _ rfl
   refine blk_put (cs := #[.int .i64 (b : Int), .int .i64 (b : Int), .int .i64 p, .slice (some ⟨gr, 0, none⟩) d.length cr]) ?_ 1 _ rfl
   exact blk_put (cs := #[.int .i64 (a : Int), .int .i64 (b : Int), .int .i64 p, .slice (some ⟨gr, 0, none⟩) d.length cr]) H56 0 _ rfl
  have m0 := blk_cell h5.out 0; have m1 := blk_cell h5.out 1; have m2 := blk_cell h5.out 2; have m3 := blk_cell h5.out 3
  have z0 := blk_cell h2.out 0; have z1 := blk_cell h2.out 1; have z2 := blk_cell h2.out 2; have z3 := blk_cell h2.out 3
  have y0 := blk_frozen h2.out 0; have y1 := blk_frozen h2.out 1; have y2 := blk_frozen h2.out 2; have y3 := blk_frozen h2.out 3
  obtain ⟨A6, c6, ev6⟩ := Kd.R_slice hr.out
  subst ev6
  go_wp2
  have G2 := Gg2.out
  have RR := Kd.R_types hr.out h2.out (by decide)
  refine bodyPost_ret (results_cell_row rfl _ _ g2 28 #[.int .i64 (b : Int), .int .i64 (a : Int), .int .i64 p, .slice A6 (imgD (turnPx a b p d) b a).length c6] (0, 0) _ rfl (by
   refine blk_put (cs := #[.int .i64 (b : Int), .int .i64 (a : Int), .int .i64 p, .slice none 0 0]) ?_ 3 _ rfl
   refine blk_put (cs := #[.int .i64 (b : Int), .int .i64 (a : Int), .int .i64 0, .slice none 0 0]) ?_ 2 _ rfl
   refine blk_put (cs := #[.int .i64 (b : Int), .int .i64 0, .int .i64 0, .slice none 0 0]) ?_ 1 _ rfl
   refine blk_put (cs := #[.int .i64 0, .int .i64 0, .int .i64 0, .slice none 0 0]) ?_ 0 _ rfl
   exact h2.out
   ) hu rfl (by kernel_rfl)) rfl ?_
  exact ⟨_, rfl, Kd.R_mono (Kd.R_far (Kd.R_far (Kd.R_far (Kd.R_far RR (fun k hk => hk.2) _) (fun k hk => hk.2) _) (fun k hk => hk.2) _) (fun k hk => hk.2) _) (fun _ _ => trivial), below_set (below_set (below_set (below_set hb.out (by omega)) (by omega)) (by omega)) (by omega)⟩
theorem impl_TurnImage.calls (a b p : Int) (A : Option Addr) (c : Nat) (d : List Int) (k : Int) (r1 r2 r3 : Int) (r4 : List Int) (w : World) (hr0_3 : Kd.C (Kd.int .i64) w A d.length d) (hc0_3 : d.length ≤ c) (h : impl_TurnImage.f a b p d k = some (r1, r2, r3, r4)) :
  Calls Try.prog 26 #[.agg #[.int .i64 a, .int .i64 b, .int .i64 p, .slice A d.length c], .int .i64 k] w fun e w' => ∃ v3_ : Value, e = .returned (.agg #[.int .i64 r1, .int .i64 r2, .int .i64 r3, v3_]) ∧ Kd.R (Kd.int .i64) 3 w' w.heap.size (fun _ => True) v3_ r4 ∧ Below w.heap.size w w' := by
 unfold impl_TurnImage.f at h
 by_cases hk : k = 1
 ·subst hk
  rw [if_pos rfl] at h
  have hv := Option.some.inj h
  cases hv1 : validI a b p d with
  | false =>
   rw [hv1, if_neg (by simp)] at hv
   obtain ⟨rfl, rfl, rfl, rfl⟩ : 0 = r1 ∧ 0 = r2 ∧ 0 = r3 ∧ [] = r4 := by simpa using hv
   exact turn_no a b p A c d w hr0_3 hc0_3 hv1
  | true =>
   have hs := ((validI_iff a b p d).1 hv1).1
   obtain ⟨an, rfl⟩ := Int.eq_ofNat_of_zero_le (show 0 ≤ a by omega)
   obtain ⟨bn, rfl⟩ := Int.eq_ofNat_of_zero_le (show 0 ≤ b by omega)
   rw [hv1, if_pos rfl] at hv
   obtain ⟨rfl, rfl, rfl, rfl⟩ : (bn : Int) = r1 ∧ (an : Int) = r2 ∧ p = r3 ∧ imgD (turnPx an bn p d) bn an = r4 := by simpa using hv
   exact turn_yes an bn p A c d w hr0_3 hc0_3 hv1
 rw [if_neg hk] at h; cases h
end Go.Proofs.Ytgccpcnakkioiaa.Q

/- impl.CropImage's function value: a pixel of a part. -/
namespace Go.Proofs.Ytgccpcnakkioiaa.Q
open Go.RowKit Go.Proofs.YtgccpcnakkioiaaW.PrintWords Go.Proofs.YtgccpcnakkioiaaW.PrintLast Go.Proofs.YtgccpcnakkioiaaW.PrintMore
attribute [local go_sem] max2_int min2_int max_two min_two max_three min_three max_four min_four
set_option linter.unusedVariables false
set_option linter.unusedSimpArgs false
open Go.Proofs.Ytgccpcnakkioiaa.Pure

set_option maxHeartbeats 1600000 in
set_option maxRecDepth 100000 in
theorem crop1_calls (a b p : Int) (A : Option Addr) (c : Nat) (d : List Int) (hv : validI a b p d = true) (hc : d.length ≤ c) (X Y : Nat) (Wd Hg : Int) (x y : Nat) (hx : ((X + x : Nat) : Int) < a) (hy : ((Y + y : Nat) : Int) < b) (B : Nat) (w : World) (h1 : w.heap[B]? = some (.cells #[.int .i64 a, .int .i64 b, .int .i64 p, .slice A d.length c] 28 (0, 0))) (B2 : Nat) (h2 : w.heap[B2]? = some (.cells #[.int .i64 (X : Int), .int .i64 (Y : Int), .int .i64 Wd, .int .i64 Hg] 41 (0, 0))) (hr : Kd.C (Kd.int .i64) w A d.length d) :
  Calls Try.prog 60 (#[.int .i64 (x : Int), .int .i64 (y : Int)] ++ #[.pointer (some ⟨B, 0, none⟩), .pointer (some ⟨B2, 0, none⟩)]) w fun e w' => ∃ (A' : Option Addr) (c' : Nat), e = .returned (.slice A' (pxAt a p d (X + x) (Y + y)).length c') ∧ Kd.C (Kd.int .i64) w' A' (pxAt a p d (X + x) (Y + y)).length (pxAt a p d (X + x) (Y + y)) ∧ (pxAt a p d (X + x) (Y + y)).length ≤ c' ∧ Below w.heap.size w w' := by
 have hs := ((validI_iff a b p d).1 hv).1
 have k0 := (blk_cell h1 0).trans rfl; have k1 := (blk_cell h1 1).trans rfl; have k2 := (blk_cell h1 2).trans rfl; have k3 := (blk_cell h1 3).trans rfl
 have q0 := (blk_cell h2 0).trans rfl; have q1 := (blk_cell h2 1).trans rfl; have q2 := (blk_cell h2 2).trans rfl; have q3 := (blk_cell h2 3).trans rfl
 have hX : ((X + x : Nat) : Int) = (X : Int) + (x : Int) := by omega
 have hY : ((Y + y : Nat) : Int) = (Y : Int) + (y : Int) := by omega
 obtain ⟨A', c', hc', HA⟩ := at_px (x := X + x) (y := Y + y) A c hv hc hx hy
 have HA' := HA w hr
 rw [hX, hY] at HA'
 generalize pxAt a p d (X + x) (Y + y) = px at *
 replace HA' := Aside0.mk HA'
 clear HA hr h1 hv hc
 simp only [List.append_toArray, List.cons_append, List.nil_append]
 go_enter Try.func60, Try.ntmps60
 go_wp2_with (first | (go_at_call 55; (with_reducible refine (HA'.out.2).mono ?_); rintro e w2 ⟨rfl, hb⟩))
 go_ret
 exact ⟨A', c', rfl, Kd.C_below HA'.out.1 hb, hc', hb⟩

/- impl.isBoxOn, of a box on a valid image. -/

def boxOn (a b x y wd hg : Int) : Bool := decide (0 ≤ x ∧ x < a ∧ 0 ≤ y ∧ y < b ∧ 1 ≤ wd ∧ wd ≤ a - x ∧ 1 ≤ hg ∧ hg ≤ b - y)
theorem boxOn_iff (a b x y wd hg : Int) : boxOn a b x y wd hg = true ↔ 0 ≤ x ∧ x < a ∧ 0 ≤ y ∧ y < b ∧ 1 ≤ wd ∧ wd ≤ a - x ∧ 1 ≤ hg ∧ hg ≤ b - y := by unfold boxOn; exact decide_eq_true_iff
theorem impl_isBoxOn_eq {a b p : Int} {d : List Int} (hv : validI a b p d = true) (x y wd hg : Int) : impl_isBoxOn.f a b p d x y wd hg = some (boxOn a b x y wd hg) := by
  have hs := ((validI_iff a b p d).1 hv).1
  unfold impl_isBoxOn.f boxOn
  by_cases c1 : x ≥ 0
  · rw [if_pos c1]
    by_cases c2 : x < a
    · rw [if_pos c2]
      by_cases c3 : y ≥ 0
      · rw [if_pos c3]
        by_cases c4 : y < b
        · rw [if_pos c4, w64 (x := a - x) (by omega) (by omega), w64 (x := b - y) (by omega) (by omega)]
          by_cases c5 : wd ≥ 1
          · rw [if_pos c5]
            by_cases c6 : wd ≤ a - x
            · rw [if_pos c6]
              by_cases c7 : hg ≥ 1
              · rw [if_pos c7]; congr 1; rw [decide_eq_decide]; omega
              · rw [if_neg c7, decide_eq_false (by omega)]
            · rw [if_neg c6, decide_eq_false (by omega)]
          · rw [if_neg c5, decide_eq_false (by omega)]
        · rw [if_neg c4, decide_eq_false (by omega)]
      · rw [if_neg c3, decide_eq_false (by omega)]
    · rw [if_neg c2, decide_eq_false (by omega)]
  · rw [if_neg c1, decide_eq_false (by omega)]
end Go.Proofs.Ytgccpcnakkioiaa.Q

/- impl.CropImage: a part of an image. -/
namespace Go.Proofs.Ytgccpcnakkioiaa.Q
open Go.RowKit Go.Proofs.YtgccpcnakkioiaaW.PrintWords Go.Proofs.YtgccpcnakkioiaaW.PrintLast Go.Proofs.YtgccpcnakkioiaaW.PrintMore
open Go.Proofs.YtgccpcnakkioiaaW.PrintWords.Aside0 (mk)
attribute [local go_sem] max2_int min2_int max_two min_two max_three min_three max_four min_four
set_option linter.unusedVariables false
set_option linter.unusedSimpArgs false
open Go.Proofs.Ytgccpcnakkioiaa.Pure

def cropPx (a p : Int) (d : List Int) (X Y : Nat) (x y : Nat) : List Int := pxAt a p d (X + x) (Y + y)
def impl_CropImage.f (a b p : Int) (d : List Int) (x y wd hg : Int) : Option (Int × Int × Int × List Int × Bool) := some (if validI a b p d = true ∧ boxOn a b x y wd hg = true then (wd, hg, p, imgD (cropPx a p d x.toNat y.toNat) wd.toNat hg.toNat, true) else (0, 0, 0, [], false))
set_option maxHeartbeats 4000000 in
set_option maxRecDepth 100000 in
theorem crop_no1 (a b p : Int) (A : Option Addr) (c : Nat) (d : List Int) (x y wd hg : Int) (w : World) (hr0_3 : Kd.C (Kd.int .i64) w A d.length d) (hc0_3 : d.length ≤ c) (hv1 : validI a b p d = false) :
  Calls Try.prog 29 #[.agg #[.int .i64 a, .int .i64 b, .int .i64 p, .slice A d.length c], .agg #[.int .i64 x, .int .i64 y, .int .i64 wd, .int .i64 hg]] w fun e w' => ∃ v3_ : Value, e = .returned (.tuple #[.agg #[.int .i64 0, .int .i64 0, .int .i64 0, v3_], .bool false]) ∧ Kd.R (Kd.int .i64) 3 w' w.heap.size (fun _ => True) v3_ [] ∧ Below w.heap.size w w' := by
 have HC := mk hc0_3
 have HR := mk hr0_3
 have HB0 := mk (Below.refl w.heap.size w)
 have E1 := mk (impl_isImage_eq a b p d)
 have HV := mk hv1
 have hu := Try.underlying28
 clear hr0_3 hc0_3
 rw [hv1] at E1
 go_enter Try.func29, Try.ntmps29
 go_wp2_with (first | ((with_reducible refine gate_dst (N := 2) rfl ?_); refine box_event (by rfl) (N := 2) (by rfl) (cs := #[.int .i64 a, .int .i64 b, .int .i64 p, .slice A d.length c]) (t := 28) (by go_simp; done) ?_; intro g1 hg_ w1 hbox hb; have HB1 := mk (below_then HB0.out HB0.out.size hb); have Kg1_1 := mk hbox; clear hbox hb hg_) | ((with_reducible refine gate_dst (N := 3) rfl ?_); refine box_event (by rfl) (N := 3) (by rfl) (cs := #[.int .i64 x, .int .i64 y, .int .i64 wd, .int .i64 hg]) (t := 41) (by go_simp; done) ?_; intro g3 hg_ w2 hbox hb; have HB2 := mk (below_then HB1.out HB1.out.size hb); have Kg1_2 := mk (blk_below Kg1_1.out hb); clear hbox hb hg_) | ((with_reducible refine gate_dst (N := 4) rfl ?_); refine box_event (by rfl) (N := 4) (by rfl) (cs := #[.int .i64 0, .int .i64 0, .int .i64 0, .slice none 0 0]) (t := 28) (by go_simp; done) ?_; intro g2 hg_ w3 hbox hb; have HB3 := mk (below_then HB2.out HB2.out.size hb); have Gg2 := mk (show w.heap.size ≤ g2 from by rw [hg_]; exact HB2.out.size); have Kg1_3 := mk (blk_below Kg1_2.out hb); have Kg2_3 := mk hbox; have fg1_0 : w3.cell? ⟨g1, 0, none⟩ = some (.int .i64 a) := (blk_cell Kg1_3.out 0).trans rfl; have fg1_1 : w3.cell? ⟨g1, 1, none⟩ = some (.int .i64 b) := (blk_cell Kg1_3.out 1).trans rfl; have fg1_2 : w3.cell? ⟨g1, 2, none⟩ = some (.int .i64 p) := (blk_cell Kg1_3.out 2).trans rfl; have fg1_3 : w3.cell? ⟨g1, 3, none⟩ = some (.slice A d.length c) := (blk_cell Kg1_3.out 3).trans rfl; clear hbox hb hg_) | (go_at_call 43; (with_reducible refine (impl_isImage.calls a b p A c d _ w3 (Kd.C_below HR.out HB3.out) HC.out E1.out).mono ?_); rintro e w4 ⟨rfl, hb_⟩; have HB4 := mk (below_then HB3.out HB3.out.size hb_); have Kg2_4 := mk (blk_below Kg2_3.out hb_); have eg2_4_0 : w4.cell? ⟨g2, 0, none⟩ = some (.int .i64 0) := (blk_cell Kg2_4.out 0).trans rfl; have eg2_4_1 : w4.cell? ⟨g2, 1, none⟩ = some (.int .i64 0) := (blk_cell Kg2_4.out 1).trans rfl; have eg2_4_2 : w4.cell? ⟨g2, 2, none⟩ = some (.int .i64 0) := (blk_cell Kg2_4.out 2).trans rfl; have eg2_4_3 : w4.cell? ⟨g2, 3, none⟩ = some (.slice none 0 0) := (blk_cell Kg2_4.out 3).trans rfl; have yg2_4_0 := blk_frozen Kg2_4.out 0; have yg2_4_1 := blk_frozen Kg2_4.out 1; have yg2_4_2 := blk_frozen Kg2_4.out 2; have yg2_4_3 := blk_frozen Kg2_4.out 3; clear hb_))
 refine bodyPost_ret (results_ct rfl _ _ g2 28 #[.int .i64 0, .int .i64 0, .int .i64 0, .slice none 0 0] (0, 0) _ rfl (by
  refine blk_put (cs := #[.int .i64 0, .int .i64 0, .int .i64 0, .slice none 0 0]) ?_ 3 _ rfl
  refine blk_put (cs := #[.int .i64 0, .int .i64 0, .int .i64 0, .slice none 0 0]) ?_ 2 _ rfl
  refine blk_put (cs := #[.int .i64 0, .int .i64 0, .int .i64 0, .slice none 0 0]) ?_ 1 _ rfl
  refine blk_put (cs := #[.int .i64 0, .int .i64 0, .int .i64 0, .slice none 0 0]) ?_ 0 _ rfl
  exact Kg2_4.out
  ) hu rfl (by kernel_rfl)) rfl ?_
 have G2 := Gg2.out
 exact ⟨_, rfl, Kd.R_nil _ _ _ _ _, below_set (below_set (below_set (below_set HB4.out (by omega)) (by omega)) (by omega)) (by omega)⟩
set_option maxHeartbeats 4000000 in
set_option maxRecDepth 100000 in
theorem crop_no2 (a b p : Int) (A : Option Addr) (c : Nat) (d : List Int) (x y wd hg : Int) (w : World) (hr0_3 : Kd.C (Kd.int .i64) w A d.length d) (hc0_3 : d.length ≤ c) (hv1 : validI a b p d = true) (hv2 : boxOn a b x y wd hg = false) :
  Calls Try.prog 29 #[.agg #[.int .i64 a, .int .i64 b, .int .i64 p, .slice A d.length c], .agg #[.int .i64 x, .int .i64 y, .int .i64 wd, .int .i64 hg]] w fun e w' => ∃ v3_ : Value, e = .returned (.tuple #[.agg #[.int .i64 0, .int .i64 0, .int .i64 0, v3_], .bool false]) ∧ Kd.R (Kd.int .i64) 3 w' w.heap.size (fun _ => True) v3_ [] ∧ Below w.heap.size w w' := by
 have HC := mk hc0_3
 have HR := mk hr0_3
 have HB0 := mk (Below.refl w.heap.size w)
 have E1 := mk (impl_isImage_eq a b p d)
 have HV := mk hv1
 have hu := Try.underlying28
 clear hr0_3 hc0_3
 rw [hv1] at E1
 have E2 := mk (impl_isBoxOn_eq hv1 x y wd hg)
 rw [hv2] at E2
 clear hv1 hv2
 go_enter Try.func29, Try.ntmps29
 go_wp2_with (first | ((with_reducible refine gate_dst (N := 2) rfl ?_); refine box_event (by rfl) (N := 2) (by rfl) (cs := #[.int .i64 a, .int .i64 b, .int .i64 p, .slice A d.length c]) (t := 28) (by go_simp; done) ?_; intro g1 hg_ w1 hbox hb; have HB1 := mk (below_then HB0.out HB0.out.size hb); have Kg1_1 := mk hbox; clear hbox hb hg_) | ((with_reducible refine gate_dst (N := 3) rfl ?_); refine box_event (by rfl) (N := 3) (by rfl) (cs := #[.int .i64 x, .int .i64 y, .int .i64 wd, .int .i64 hg]) (t := 41) (by go_simp; done) ?_; intro g3 hg_ w2 hbox hb; have HB2 := mk (below_then HB1.out HB1.out.size hb); have Kg1_2 := mk (blk_below Kg1_1.out hb); have Kg3_2 := mk hbox; clear hbox hb hg_) | ((with_reducible refine gate_dst (N := 4) rfl ?_); refine box_event (by rfl) (N := 4) (by rfl) (cs := #[.int .i64 0, .int .i64 0, .int .i64 0, .slice none 0 0]) (t := 28) (by go_simp; done) ?_; intro g2 hg_ w3 hbox hb; have HB3 := mk (below_then HB2.out HB2.out.size hb); have Gg2 := mk (show w.heap.size ≤ g2 from by rw [hg_]; exact HB2.out.size); have Kg1_3 := mk (blk_below Kg1_2.out hb); have Kg3_3 := mk (blk_below Kg3_2.out hb); have Kg2_3 := mk hbox; have fg1_0 : w3.cell? ⟨g1, 0, none⟩ = some (.int .i64 a) := (blk_cell Kg1_3.out 0).trans rfl; have fg1_1 : w3.cell? ⟨g1, 1, none⟩ = some (.int .i64 b) := (blk_cell Kg1_3.out 1).trans rfl; have fg1_2 : w3.cell? ⟨g1, 2, none⟩ = some (.int .i64 p) := (blk_cell Kg1_3.out 2).trans rfl; have fg1_3 : w3.cell? ⟨g1, 3, none⟩ = some (.slice A d.length c) := (blk_cell Kg1_3.out 3).trans rfl; clear hbox hb hg_) | (go_at_call 43; (with_reducible refine (impl_isImage.calls a b p A c d _ w3 (Kd.C_below HR.out HB3.out) HC.out E1.out).mono ?_); rintro e w4 ⟨rfl, hb_⟩; have HB4 := mk (below_then HB3.out HB3.out.size hb_); have Kg1_4 := mk (blk_below Kg1_3.out hb_); have eg1_4_0 : w4.cell? ⟨g1, 0, none⟩ = some (.int .i64 a) := (blk_cell Kg1_4.out 0).trans rfl; have eg1_4_1 : w4.cell? ⟨g1, 1, none⟩ = some (.int .i64 b) := (blk_cell Kg1_4.out 1).trans rfl; have eg1_4_2 : w4.cell? ⟨g1, 2, none⟩ = some (.int .i64 p) := (blk_cell Kg1_4.out 2).trans rfl; have eg1_4_3 : w4.cell? ⟨g1, 3, none⟩ = some (.slice A d.length c) := (blk_cell Kg1_4.out 3).trans rfl; have Kg3_4 := mk (blk_below Kg3_3.out hb_); have eg3_4_0 : w4.cell? ⟨g3, 0, none⟩ = some (.int .i64 x) := (blk_cell Kg3_4.out 0).trans rfl; have eg3_4_1 : w4.cell? ⟨g3, 1, none⟩ = some (.int .i64 y) := (blk_cell Kg3_4.out 1).trans rfl; have eg3_4_2 : w4.cell? ⟨g3, 2, none⟩ = some (.int .i64 wd) := (blk_cell Kg3_4.out 2).trans rfl; have eg3_4_3 : w4.cell? ⟨g3, 3, none⟩ = some (.int .i64 hg) := (blk_cell Kg3_4.out 3).trans rfl; have Kg2_4 := mk (blk_below Kg2_3.out hb_); clear hb_) | (go_at_call 59; (with_reducible refine (impl_isBoxOn.calls a b p A c d x y wd hg _ w4 (Kd.C_below HR.out HB4.out) HC.out E2.out).mono ?_); rintro e w5 ⟨rfl, hb_⟩; have HB5 := mk (below_then HB4.out HB4.out.size hb_); have Kg2_5 := mk (blk_below Kg2_4.out hb_); have eg2_5_0 : w5.cell? ⟨g2, 0, none⟩ = some (.int .i64 0) := (blk_cell Kg2_5.out 0).trans rfl; have eg2_5_1 : w5.cell? ⟨g2, 1, none⟩ = some (.int .i64 0) := (blk_cell Kg2_5.out 1).trans rfl; have eg2_5_2 : w5.cell? ⟨g2, 2, none⟩ = some (.int .i64 0) := (blk_cell Kg2_5.out 2).trans rfl; have eg2_5_3 : w5.cell? ⟨g2, 3, none⟩ = some (.slice none 0 0) := (blk_cell Kg2_5.out 3).trans rfl; have yg2_5_0 := blk_frozen Kg2_5.out 0; have yg2_5_1 := blk_frozen Kg2_5.out 1; have yg2_5_2 := blk_frozen Kg2_5.out 2; have yg2_5_3 := blk_frozen Kg2_5.out 3; clear hb_))
 refine bodyPost_ret (results_ct rfl _ _ g2 28 #[.int .i64 0, .int .i64 0, .int .i64 0, .slice none 0 0] (0, 0) _ rfl (by
  refine blk_put (cs := #[.int .i64 0, .int .i64 0, .int .i64 0, .slice none 0 0]) ?_ 3 _ rfl
  refine blk_put (cs := #[.int .i64 0, .int .i64 0, .int .i64 0, .slice none 0 0]) ?_ 2 _ rfl
  refine blk_put (cs := #[.int .i64 0, .int .i64 0, .int .i64 0, .slice none 0 0]) ?_ 1 _ rfl
  refine blk_put (cs := #[.int .i64 0, .int .i64 0, .int .i64 0, .slice none 0 0]) ?_ 0 _ rfl
  exact Kg2_5.out
  ) hu rfl (by kernel_rfl)) rfl ?_
 have G2 := Gg2.out
 exact ⟨_, rfl, Kd.R_nil _ _ _ _ _, below_set (below_set (below_set (below_set HB5.out (by omega)) (by omega)) (by omega)) (by omega)⟩
set_option maxHeartbeats 4000000 in
set_option maxRecDepth 100000 in
theorem crop_yes (a b p : Int) (A : Option Addr) (c : Nat) (d : List Int) (x y wd hg : Nat) (w : World) (hr0_3 : Kd.C (Kd.int .i64) w A d.length d) (hc0_3 : d.length ≤ c) (hv1 : validI a b p d = true) (hv2 : boxOn a b x y wd hg = true) :
  Calls Try.prog 29 #[.agg #[.int .i64 a, .int .i64 b, .int .i64 p, .slice A d.length c], .agg #[.int .i64 (x : Int), .int .i64 (y : Int), .int .i64 (wd : Int), .int .i64 (hg : Int)]] w fun e w' => ∃ v3_ : Value, e = .returned (.tuple #[.agg #[.int .i64 (wd : Int), .int .i64 (hg : Int), .int .i64 p, v3_], .bool true]) ∧ Kd.R (Kd.int .i64) 3 w' w.heap.size (fun _ => True) v3_ (imgD (cropPx a p d x y) wd hg) ∧ Below w.heap.size w w' := by
 have HC := mk hc0_3
 have HR := mk hr0_3
 have HB0 := mk (Below.refl w.heap.size w)
 have E1 := mk (impl_isImage_eq a b p d)
 have HV := mk hv1
 have hu := Try.underlying28
 clear hr0_3 hc0_3
 rw [hv1] at E1
 have E2 := mk (impl_isBoxOn_eq hv1 x y wd hg)
 rw [hv2] at E2
 have hs := ((validI_iff a b p d).1 hv1).1
 have hbx := (boxOn_iff a b x y wd hg).1 hv2
 have HPL := mk (show ∀ x' y', x' < wd → y' < hg → (cropPx a p d x y x' y').length ≤ 4 from fun x' y' hx hy => pxAt_le hv1 (by omega) (by omega))
 clear hv1 hv2
 go_enter Try.func29, Try.ntmps29
 go_wp2_with (first | ((with_reducible refine gate_dst (N := 2) rfl ?_); refine box_event (by rfl) (N := 2) (by rfl) (cs := #[.int .i64 a, .int .i64 b, .int .i64 p, .slice A d.length c]) (t := 28) (by go_simp; done) ?_; intro g1 hg_ w1 hbox hb; have HB1 := mk (below_then HB0.out HB0.out.size hb); have Kg1_1 := mk hbox; clear hbox hb hg_) | ((with_reducible refine gate_dst (N := 3) rfl ?_); refine box_event (by rfl) (N := 3) (by rfl) (cs := #[.int .i64 (x : Int), .int .i64 (y : Int), .int .i64 (wd : Int), .int .i64 (hg : Int)]) (t := 41) (by go_simp; done) ?_; intro g3 hg_ w2 hbox hb; have HB2 := mk (below_then HB1.out HB1.out.size hb); have Kg1_2 := mk (blk_below Kg1_1.out hb); have Kg3_2 := mk hbox; clear hbox hb hg_) | ((with_reducible refine gate_dst (N := 4) rfl ?_); refine box_event (by rfl) (N := 4) (by rfl) (cs := #[.int .i64 0, .int .i64 0, .int .i64 0, .slice none 0 0]) (t := 28) (by go_simp; done) ?_; intro g2 hg_ w3 hbox hb; have HB3 := mk (below_then HB2.out HB2.out.size hb); have Gg2 := mk (show w.heap.size ≤ g2 from by rw [hg_]; exact HB2.out.size); have Kg1_3 := mk (blk_below Kg1_2.out hb); have Kg3_3 := mk (blk_below Kg3_2.out hb); have Kg2_3 := mk hbox; have fg1_0 : w3.cell? ⟨g1, 0, none⟩ = some (.int .i64 a) := (blk_cell Kg1_3.out 0).trans rfl; have fg1_1 : w3.cell? ⟨g1, 1, none⟩ = some (.int .i64 b) := (blk_cell Kg1_3.out 1).trans rfl; have fg1_2 : w3.cell? ⟨g1, 2, none⟩ = some (.int .i64 p) := (blk_cell Kg1_3.out 2).trans rfl; have fg1_3 : w3.cell? ⟨g1, 3, none⟩ = some (.slice A d.length c) := (blk_cell Kg1_3.out 3).trans rfl; clear hbox hb hg_) | (go_at_call 43; (with_reducible refine (impl_isImage.calls a b p A c d _ w3 (Kd.C_below HR.out HB3.out) HC.out E1.out).mono ?_); rintro e w4 ⟨rfl, hb_⟩; have HB4 := mk (below_then HB3.out HB3.out.size hb_); have Kg1_4 := mk (blk_below Kg1_3.out hb_); have eg1_4_0 : w4.cell? ⟨g1, 0, none⟩ = some (.int .i64 a) := (blk_cell Kg1_4.out 0).trans rfl; have eg1_4_1 : w4.cell? ⟨g1, 1, none⟩ = some (.int .i64 b) := (blk_cell Kg1_4.out 1).trans rfl; have eg1_4_2 : w4.cell? ⟨g1, 2, none⟩ = some (.int .i64 p) := (blk_cell Kg1_4.out 2).trans rfl; have eg1_4_3 : w4.cell? ⟨g1, 3, none⟩ = some (.slice A d.length c) := (blk_cell Kg1_4.out 3).trans rfl; have Kg3_4 := mk (blk_below Kg3_3.out hb_); have eg3_4_0 : w4.cell? ⟨g3, 0, none⟩ = some (.int .i64 (x : Int)) := (blk_cell Kg3_4.out 0).trans rfl; have eg3_4_1 : w4.cell? ⟨g3, 1, none⟩ = some (.int .i64 (y : Int)) := (blk_cell Kg3_4.out 1).trans rfl; have eg3_4_2 : w4.cell? ⟨g3, 2, none⟩ = some (.int .i64 (wd : Int)) := (blk_cell Kg3_4.out 2).trans rfl; have eg3_4_3 : w4.cell? ⟨g3, 3, none⟩ = some (.int .i64 (hg : Int)) := (blk_cell Kg3_4.out 3).trans rfl; have Kg2_4 := mk (blk_below Kg2_3.out hb_); clear hb_) | (go_at_call 59; (with_reducible refine (impl_isBoxOn.calls a b p A c d x y wd hg _ w4 (Kd.C_below HR.out HB4.out) HC.out E2.out).mono ?_); rintro e w5 ⟨rfl, hb_⟩; have HB5 := mk (below_then HB4.out HB4.out.size hb_); have Kg1_5 := mk (blk_below Kg1_4.out hb_); have eg1_5_2 : w5.cell? ⟨g1, 2, none⟩ = some (.int .i64 p) := (blk_cell Kg1_5.out 2).trans rfl; have Kg3_5 := mk (blk_below Kg3_4.out hb_); have eg3_5_2 : w5.cell? ⟨g3, 2, none⟩ = some (.int .i64 (wd : Int)) := (blk_cell Kg3_5.out 2).trans rfl; have eg3_5_3 : w5.cell? ⟨g3, 3, none⟩ = some (.int .i64 (hg : Int)) := (blk_cell Kg3_5.out 3).trans rfl; have Kg2_5 := mk (blk_below Kg2_4.out hb_); clear hb_) | (go_at_call 53; refine (imageBy_calls 60 #[.pointer (some ⟨g1, 0, none⟩), .pointer (some ⟨g3, 0, none⟩)] (cropPx a p d x y) wd hg p (by omega) (by omega) w5 (enters_of Try.func60 (by kernel_rfl) rfl) HPL.out (fun W x' y' hx hy hW => crop1_calls a b p A c d HV.out HC.out x y wd hg x' y' (by omega) (by omega) g1 W (blk_below Kg1_5.out hW) g3 (blk_below Kg3_5.out hW) (Kd.C_below (Kd.C_below HR.out HB5.out) hW))).mono ?_; rintro e w6 ⟨v6, rfl, hr6, hb_⟩; have HB6 := mk (below_then HB5.out HB5.out.size hb_); have Kg2_6 := mk (blk_below Kg2_5.out hb_); have eg2_6_0 : w6.cell? ⟨g2, 0, none⟩ = some (.int .i64 0) := (blk_cell Kg2_6.out 0).trans rfl; have eg2_6_1 : w6.cell? ⟨g2, 1, none⟩ = some (.int .i64 0) := (blk_cell Kg2_6.out 1).trans rfl; have eg2_6_2 : w6.cell? ⟨g2, 2, none⟩ = some (.int .i64 0) := (blk_cell Kg2_6.out 2).trans rfl; have eg2_6_3 : w6.cell? ⟨g2, 3, none⟩ = some (.slice none 0 0) := (blk_cell Kg2_6.out 3).trans rfl; have yg2_6_0 := blk_frozen Kg2_6.out 0; have yg2_6_1 := blk_frozen Kg2_6.out 1; have yg2_6_2 := blk_frozen Kg2_6.out 2; have yg2_6_3 := blk_frozen Kg2_6.out 3; have HR6 := mk (Kd.R_lower hr6 HB5.out.size); obtain ⟨A6, c6, ev6⟩ := Kd.R_slice HR6.out; subst ev6; clear hr6 hb_))
 have G2 := Gg2.out
 have RR := Kd.R_types HR6.out Kg2_6.out (by decide)
 refine bodyPost_ret (results_ct rfl _ _ g2 28 #[.int .i64 (wd : Int), .int .i64 (hg : Int), .int .i64 p, .slice A6 (imgD (cropPx a p d x y) wd hg).length c6] (0, 0) _ rfl (by
  refine blk_put (cs := #[.int .i64 (wd : Int), .int .i64 (hg : Int), .int .i64 p, .slice none 0 0]) ?_ 3 _ rfl
  refine blk_put (cs := #[.int .i64 (wd : Int), .int .i64 (hg : Int), .int .i64 0, .slice none 0 0]) ?_ 2 _ rfl
  refine blk_put (cs := #[.int .i64 (wd : Int), .int .i64 0, .int .i64 0, .slice none 0 0]) ?_ 1 _ rfl
  refine blk_put (cs := #[.int .i64 0, .int .i64 0, .int .i64 0, .slice none 0 0]) ?_ 0 _ rfl
  exact Kg2_6.out
  ) hu rfl (by kernel_rfl)) rfl ?_
 exact ⟨_, rfl, Kd.R_mono (Kd.R_far (Kd.R_far (Kd.R_far (Kd.R_far RR (fun k hk => hk.2) _) (fun k hk => hk.2) _) (fun k hk => hk.2) _) (fun k hk => hk.2) _) (fun _ _ => trivial), below_set (below_set (below_set (below_set HB6.out (by omega)) (by omega)) (by omega)) (by omega)⟩
theorem impl_CropImage.calls (a b p : Int) (A : Option Addr) (c : Nat) (d : List Int) (x y wd hg : Int) (r1 r2 r3 : Int) (r4 : List Int) (r5 : Bool) (w : World) (hr0_3 : Kd.C (Kd.int .i64) w A d.length d) (hc0_3 : d.length ≤ c) (h : impl_CropImage.f a b p d x y wd hg = some (r1, r2, r3, r4, r5)) :
  Calls Try.prog 29 #[.agg #[.int .i64 a, .int .i64 b, .int .i64 p, .slice A d.length c], .agg #[.int .i64 x, .int .i64 y, .int .i64 wd, .int .i64 hg]] w fun e w' => ∃ v3_ : Value, e = .returned (.tuple #[.agg #[.int .i64 r1, .int .i64 r2, .int .i64 r3, v3_], .bool r5]) ∧ Kd.R (Kd.int .i64) 3 w' w.heap.size (fun _ => True) v3_ r4 ∧ Below w.heap.size w w' := by
 have hv := Option.some.inj h
 cases hv1 : validI a b p d with
 | false =>
  rw [hv1, if_neg (by simp)] at hv
  obtain ⟨rfl, rfl, rfl, rfl, rfl⟩ : 0 = r1 ∧ 0 = r2 ∧ 0 = r3 ∧ [] = r4 ∧ false = r5 := by simpa using hv
  exact crop_no1 a b p A c d x y wd hg w hr0_3 hc0_3 hv1
 | true =>
  cases hv2 : boxOn a b x y wd hg with
  | false =>
   rw [hv1, hv2, if_neg (by simp)] at hv
   obtain ⟨rfl, rfl, rfl, rfl, rfl⟩ : 0 = r1 ∧ 0 = r2 ∧ 0 = r3 ∧ [] = r4 ∧ false = r5 := by simpa using hv
   exact crop_no2 a b p A c d x y wd hg w hr0_3 hc0_3 hv1 hv2
  | true =>
   have hbx := (boxOn_iff a b x y wd hg).1 hv2
   rw [hv1, hv2, if_pos ⟨rfl, rfl⟩] at hv
   obtain ⟨xn, rfl⟩ := Int.eq_ofNat_of_zero_le (show 0 ≤ x by omega)
   obtain ⟨yn, rfl⟩ := Int.eq_ofNat_of_zero_le (show 0 ≤ y by omega)
   obtain ⟨wn, rfl⟩ := Int.eq_ofNat_of_zero_le (show 0 ≤ wd by omega)
   obtain ⟨hn, rfl⟩ := Int.eq_ofNat_of_zero_le (show 0 ≤ hg by omega)
   obtain ⟨rfl, rfl, rfl, rfl, rfl⟩ : (wn : Int) = r1 ∧ (hn : Int) = r2 ∧ p = r3 ∧ imgD (cropPx a p d xn yn) wn hn = r4 ∧ true = r5 := by simpa using hv
   exact crop_yes a b p A c d xn yn wn hn w hr0_3 hc0_3 hv1 hv2
end Go.Proofs.Ytgccpcnakkioiaa.Q

/- impl.doStep's function value: a box's pixels are one pixel's numbers. -/
namespace Go.Proofs.Ytgccpcnakkioiaa.Q
open Go.RowKit Go.Proofs.YtgccpcnakkioiaaW.PrintWords Go.Proofs.YtgccpcnakkioiaaW.PrintLast Go.Proofs.YtgccpcnakkioiaaW.PrintMore
attribute [local go_sem] max2_int min2_int max_two min_two max_three min_three max_four min_four
set_option linter.unusedVariables false
set_option linter.unusedSimpArgs false
open Go.Proofs.Ytgccpcnakkioiaa.Pure

def inBox (x y wd hg : Nat) (i j : Nat) : Bool := decide (x ≤ i ∧ i < x + wd ∧ y ≤ j ∧ j < y + hg)
theorem impl_Box_has_nat (x y wd hg i j : Nat) (h1 : x ≤ 1000) (h2 : y ≤ 1000) (h3 : wd ≤ 1000) (h4 : hg ≤ 1000) : impl_Box_has.f (x : Int) (y : Int) (wd : Int) (hg : Int) (i : Int) (j : Int) = some (inBox x y wd hg i j) := by
 unfold impl_Box_has.f inBox
 rw [w64 (x := (x : Int) + wd) (by omega) (by omega), w64 (x := (y : Int) + hg) (by omega) (by omega)]
 by_cases c1 : (i : Int) ≥ x
 ·rw [if_pos c1]
  by_cases c2 : (i : Int) < (x : Int) + wd
  ·rw [if_pos c2]
   by_cases c3 : (j : Int) ≥ y
   ·rw [if_pos c3]; congr 1; rw [decide_eq_decide]; omega
   ·rw [if_neg c3, decide_eq_false (by omega)]
  ·rw [if_neg c2, decide_eq_false (by omega)]
 ·rw [if_neg c1, decide_eq_false (by omega)]
def fillPx (a p : Int) (d : List Int) (x y wd hg : Nat) (pix : List Int) (i j : Nat) : List Int := if inBox x y wd hg i j = true then pix else pxAt a p d i j
set_option maxHeartbeats 1600000 in
set_option maxRecDepth 100000 in
theorem fill1_calls (a b p : Int) (A : Option Addr) (c : Nat) (d : List Int) (hv : validI a b p d = true) (hc : d.length ≤ c) (kind : Int) (x y wd hg : Nat) (hx4 : x ≤ 16) (hy4 : y ≤ 16) (hw4 : wd ≤ 16) (hh4 : hg ≤ 16) (A3 : Option Addr) (c3 : Nat) (pix : List Int) (hc3 : pix.length ≤ c3) (i j : Nat) (hi : (i : Int) < a) (hj : (j : Int) < b) (B2 : Nat) (w : World) (h2 : w.heap[B2]? = some (.cells #[.int .i64 kind, .int .i64 (x : Int), .int .i64 (y : Int), .int .i64 (wd : Int), .int .i64 (hg : Int), .slice A3 pix.length c3] 43 (0, 0))) (B : Nat) (h1 : w.heap[B]? = some (.cells #[.int .i64 a, .int .i64 b, .int .i64 p, .slice A d.length c] 28 (0, 0))) (hr : Kd.C (Kd.int .i64) w A d.length d) (hr3 : Kd.C (Kd.int .i64) w A3 pix.length pix) :
  Calls Try.prog 80 (#[.int .i64 (i : Int), .int .i64 (j : Int)] ++ #[.pointer (some ⟨B2, 0, none⟩), .pointer (some ⟨B, 0, none⟩)]) w fun e w' => ∃ (A' : Option Addr) (c' : Nat), e = .returned (.slice A' (fillPx a p d x y wd hg pix i j).length c') ∧ Kd.C (Kd.int .i64) w' A' (fillPx a p d x y wd hg pix i j).length (fillPx a p d x y wd hg pix i j) ∧ (fillPx a p d x y wd hg pix i j).length ≤ c' ∧ Below w.heap.size w w' := by
 have H1 := Aside0.mk h1
 have H2 := Aside0.mk h2
 have HR3 := Aside0.mk hr3
 have HH := Aside0.mk (impl_Box_has_nat x y wd hg i j (by omega) (by omega) (by omega) (by omega))
 have q1 := (blk_cell h2 1).trans rfl; have q2 := (blk_cell h2 2).trans rfl; have q3 := (blk_cell h2 3).trans rfl; have q4 := (blk_cell h2 4).trans rfl
 obtain ⟨A', c', hc', HA⟩ := at_px (x := i) (y := j) A c hv hc hi hj
 have HR := Aside0.mk hr
 unfold fillPx
 cases hin : inBox x y wd hg i j with
 | true =>
  rw [hin] at HH
  simp only [if_true]
  clear HA hr hr3 h1 h2 hv hc hin
  simp only [List.append_toArray, List.cons_append, List.nil_append]
  go_enter Try.func80, Try.ntmps80
  go_wp2_with (first | (go_at_call 81; (with_reducible refine (impl_Box_has.calls (x : Int) (y : Int) (wd : Int) (hg : Int) (i : Int) (j : Int) _ _ HH.out).mono ?_); rintro e w2 ⟨rfl, hb⟩; have k5 := (blk_cell (blk_below H2.out hb) 5).trans rfl))
  go_ret
  exact ⟨A3, c3, rfl, Kd.C_below HR3.out hb, hc3, hb⟩
 | false =>
  rw [hin] at HH
  simp only [Bool.false_eq_true, if_false]
  generalize pxAt a p d i j = px at *
  replace HA := Aside0.mk HA
  clear hr hr3 h1 h2 hv hc hin
  simp only [List.append_toArray, List.cons_append, List.nil_append]
  go_enter Try.func80, Try.ntmps80
  go_wp2_with (first
   | (go_at_call 81; (with_reducible refine (impl_Box_has.calls (x : Int) (y : Int) (wd : Int) (hg : Int) (i : Int) (j : Int) _ _ HH.out).mono ?_); rintro e w2 ⟨rfl, hb⟩; have H12 := blk_below H1.out hb; have HRw := Aside0.mk (Kd.C_below HR.out hb); have k0 := (blk_cell H12 0).trans rfl; have k1 := (blk_cell H12 1).trans rfl; have k2 := (blk_cell H12 2).trans rfl; have k3 := (blk_cell H12 3).trans rfl; have hb2 := Aside0.mk hb; clear hb H12)
   | (go_at_call 55; (with_reducible refine ((HA.out _ HRw.out).2).mono ?_); rintro e w3 ⟨rfl, hb3⟩))
  go_ret
  exact ⟨A', c', rfl, Kd.C_below (HA.out _ HRw.out).1 hb3, hc', below_then hb2.out hb2.out.size hb3⟩
end Go.Proofs.Ytgccpcnakkioiaa.Q

/- impl.doStep: the image that a step makes of a valid image. -/
namespace Go.Proofs.Ytgccpcnakkioiaa.Q
open Go.RowKit Go.Proofs.YtgccpcnakkioiaaW.PrintWords Go.Proofs.YtgccpcnakkioiaaW.PrintLast Go.Proofs.YtgccpcnakkioiaaW.PrintMore
open Go.Proofs.YtgccpcnakkioiaaW.PrintWords.Aside0 (mk)
attribute [local go_sem] max2_int min2_int max_two min_two max_three min_three max_four min_four
set_option linter.unusedVariables false
set_option linter.unusedSimpArgs false
open Go.Proofs.Ytgccpcnakkioiaa.Pure

def doStepV (a b p : Int) (d : List Int) (kind x y wd hg : Int) (pix : List Int) : Int × Int × Int × List Int × Bool :=
 if kind = 0 then (a, b, p, imgD (mirPx a p d) a.toNat b.toNat, true)
 else if kind = 1 then (b, a, p, imgD (turnPx a b p d) b.toNat a.toNat, true)
 else if kind = 2 then (a, b, p, invD d, true)
 else if kind = 3 then (if boxOn a b x y wd hg = true then (wd, hg, p, imgD (cropPx a p d x.toNat y.toNat) wd.toNat hg.toNat, true) else (0, 0, 0, [], false))
 else if kind = 4 then (if boxOn a b x y wd hg = true ∧ (pix.length : Int) = p ∧ pix.all byteI = true then (a, b, p, imgD (fillPx a p d x.toNat y.toNat wd.toNat hg.toNat pix) a.toNat b.toNat, true) else (0, 0, 0, [], false))
 else (0, 0, 0, [], false)
def impl_doStep.f (a b p : Int) (d : List Int) (kind x y wd hg : Int) (pix : List Int) : Option (Int × Int × Int × List Int × Bool) := if validI a b p d = true then some (doStepV a b p d kind x y wd hg pix) else none
set_option maxHeartbeats 4000000 in
set_option maxRecDepth 100000 in
theorem step0 (a b p : Int) (A : Option Addr) (c : Nat) (d : List Int) (x y wd hg : Int) (A3 : Option Addr) (c3 : Nat) (pix : List Int) (w : World) (hr0_3 : Kd.C (Kd.int .i64) w A d.length d) (hc0_3 : d.length ≤ c) (hr3 : Kd.C (Kd.int .i64) w A3 pix.length pix) (hc3 : pix.length ≤ c3) (hv1 : validI a b p d = true) :
  Calls Try.prog 45 #[.agg #[.int .i64 a, .int .i64 b, .int .i64 p, .slice A d.length c], .agg #[.int .i64 0, .int .i64 x, .int .i64 y, .int .i64 wd, .int .i64 hg, .slice A3 pix.length c3]] w fun e w' => ∃ v3_ : Value, e = .returned (.tuple #[.agg #[.int .i64 a, .int .i64 b, .int .i64 p, v3_], .bool true]) ∧ Kd.R (Kd.int .i64) 3 w' w.heap.size (fun _ => True) v3_ (imgD (mirPx a p d) a.toNat b.toNat) ∧ Below w.heap.size w w' := by
 have HC := mk hc0_3
 have HR := mk hr0_3
 have HB0 := mk (Below.refl w.heap.size w)
 have hu := Try.underlying28
 clear hr0_3 hc0_3 hr3 hc3
 have E1 := mk (show impl_MirrorImage.f a b p d = some (a, b, p, imgD (mirPx a p d) a.toNat b.toNat) from by unfold impl_MirrorImage.f; rw [hv1, if_pos rfl])
 clear hv1
 go_enter Try.func45, Try.ntmps45
 go_wp2_with (first | ((with_reducible refine gate_dst (N := 2) rfl ?_); refine box_event (by rfl) (N := 2) (by rfl) (cs := #[.int .i64 a, .int .i64 b, .int .i64 p, .slice A d.length c]) (t := 28) (by go_simp; done) ?_; intro g1 hg_ w1 hbox hb; have HB1 := mk (below_then HB0.out HB0.out.size hb); have Kg1_1 := mk hbox; clear hbox hb hg_) | ((with_reducible refine gate_dst (N := 3) rfl ?_); refine box_event (by rfl) (N := 3) (by rfl) (cs := #[.int .i64 0, .int .i64 x, .int .i64 y, .int .i64 wd, .int .i64 hg, .slice A3 pix.length c3]) (t := 43) (by go_simp; done) ?_; intro g3 hg_ w2 hbox hb; have HB2 := mk (below_then HB1.out HB1.out.size hb); have Kg1_2 := mk (blk_below Kg1_1.out hb); have Kg3_2 := mk hbox; clear hbox hb hg_) | ((with_reducible refine gate_dst (N := 4) rfl ?_); refine box_event (by rfl) (N := 4) (by rfl) (cs := #[.int .i64 0, .int .i64 0, .int .i64 0, .slice none 0 0]) (t := 28) (by go_simp; done) ?_; intro g2 hg_ w3 hbox hb; have HB3 := mk (below_then HB2.out HB2.out.size hb); have Gg2 := mk (show w.heap.size ≤ g2 from by rw [hg_]; exact HB2.out.size); have Kg1_3 := mk (blk_below Kg1_2.out hb); have Kg3_3 := mk (blk_below Kg3_2.out hb); have Kg2_3 := mk hbox; have fg1_0 : w3.cell? ⟨g1, 0, none⟩ = some (.int .i64 a) := (blk_cell Kg1_3.out 0).trans rfl; have fg1_1 : w3.cell? ⟨g1, 1, none⟩ = some (.int .i64 b) := (blk_cell Kg1_3.out 1).trans rfl; have fg1_2 : w3.cell? ⟨g1, 2, none⟩ = some (.int .i64 p) := (blk_cell Kg1_3.out 2).trans rfl; have fg1_3 : w3.cell? ⟨g1, 3, none⟩ = some (.slice A d.length c) := (blk_cell Kg1_3.out 3).trans rfl; have fg3_0 : w3.cell? ⟨g3, 0, none⟩ = some (.int .i64 0) := (blk_cell Kg3_3.out 0).trans rfl; clear hbox hb hg_) | (go_at_call 25; (with_reducible refine (impl_MirrorImage.calls a b p A c d a b p (imgD (mirPx a p d) a.toNat b.toNat) w3 (Kd.C_below HR.out HB3.out) HC.out E1.out).mono ?_); rintro e w4 ⟨v4, rfl, hr4, hb_⟩; have HB4 := mk (below_then HB3.out HB3.out.size hb_); have Kg2_4 := mk (blk_below Kg2_3.out hb_); have eg2_4_0 : w4.cell? ⟨g2, 0, none⟩ = some (.int .i64 0) := (blk_cell Kg2_4.out 0).trans rfl; have eg2_4_1 : w4.cell? ⟨g2, 1, none⟩ = some (.int .i64 0) := (blk_cell Kg2_4.out 1).trans rfl; have eg2_4_2 : w4.cell? ⟨g2, 2, none⟩ = some (.int .i64 0) := (blk_cell Kg2_4.out 2).trans rfl; have eg2_4_3 : w4.cell? ⟨g2, 3, none⟩ = some (.slice none 0 0) := (blk_cell Kg2_4.out 3).trans rfl; have yg2_4_0 := blk_frozen Kg2_4.out 0; have yg2_4_1 := blk_frozen Kg2_4.out 1; have yg2_4_2 := blk_frozen Kg2_4.out 2; have yg2_4_3 := blk_frozen Kg2_4.out 3; have HR4 := mk (Kd.R_lower hr4 HB3.out.size); obtain ⟨A4, c4, ev4⟩ := Kd.R_slice HR4.out; subst ev4; clear hr4 hb_))
 have G2 := Gg2.out
 have RR := Kd.R_types HR4.out Kg2_4.out (by decide)
 refine bodyPost_ret (results_ct rfl _ _ g2 28 #[.int .i64 a, .int .i64 b, .int .i64 p, .slice A4 (imgD (mirPx a p d) a.toNat b.toNat).length c4] (0, 0) _ rfl (by
  refine blk_put (cs := #[.int .i64 a, .int .i64 b, .int .i64 p, .slice none 0 0]) ?_ 3 _ rfl
  refine blk_put (cs := #[.int .i64 a, .int .i64 b, .int .i64 0, .slice none 0 0]) ?_ 2 _ rfl
  refine blk_put (cs := #[.int .i64 a, .int .i64 0, .int .i64 0, .slice none 0 0]) ?_ 1 _ rfl
  refine blk_put (cs := #[.int .i64 0, .int .i64 0, .int .i64 0, .slice none 0 0]) ?_ 0 _ rfl
  exact Kg2_4.out
  ) hu rfl (by kernel_rfl)) rfl ?_
 exact ⟨_, rfl, Kd.R_mono (Kd.R_far (Kd.R_far (Kd.R_far (Kd.R_far RR (fun k hk => hk.2) _) (fun k hk => hk.2) _) (fun k hk => hk.2) _) (fun k hk => hk.2) _) (fun _ _ => trivial), below_set (below_set (below_set (below_set HB4.out (by omega)) (by omega)) (by omega)) (by omega)⟩
set_option maxHeartbeats 4000000 in
set_option maxRecDepth 100000 in
theorem step1 (a b p : Int) (A : Option Addr) (c : Nat) (d : List Int) (x y wd hg : Int) (A3 : Option Addr) (c3 : Nat) (pix : List Int) (w : World) (hr0_3 : Kd.C (Kd.int .i64) w A d.length d) (hc0_3 : d.length ≤ c) (hr3 : Kd.C (Kd.int .i64) w A3 pix.length pix) (hc3 : pix.length ≤ c3) (hv1 : validI a b p d = true) :
  Calls Try.prog 45 #[.agg #[.int .i64 a, .int .i64 b, .int .i64 p, .slice A d.length c], .agg #[.int .i64 1, .int .i64 x, .int .i64 y, .int .i64 wd, .int .i64 hg, .slice A3 pix.length c3]] w fun e w' => ∃ v3_ : Value, e = .returned (.tuple #[.agg #[.int .i64 b, .int .i64 a, .int .i64 p, v3_], .bool true]) ∧ Kd.R (Kd.int .i64) 3 w' w.heap.size (fun _ => True) v3_ (imgD (turnPx a b p d) b.toNat a.toNat) ∧ Below w.heap.size w w' := by
 have HC := mk hc0_3
 have HR := mk hr0_3
 have HB0 := mk (Below.refl w.heap.size w)
 have hu := Try.underlying28
 clear hr0_3 hc0_3 hr3 hc3
 have E1 := mk (show impl_TurnImage.f a b p d 1 = some (b, a, p, imgD (turnPx a b p d) b.toNat a.toNat) from by unfold impl_TurnImage.f; rw [if_pos rfl, hv1, if_pos rfl])
 clear hv1
 go_enter Try.func45, Try.ntmps45
 go_wp2_with (first | ((with_reducible refine gate_dst (N := 2) rfl ?_); refine box_event (by rfl) (N := 2) (by rfl) (cs := #[.int .i64 a, .int .i64 b, .int .i64 p, .slice A d.length c]) (t := 28) (by go_simp; done) ?_; intro g1 hg_ w1 hbox hb; have HB1 := mk (below_then HB0.out HB0.out.size hb); have Kg1_1 := mk hbox; clear hbox hb hg_) | ((with_reducible refine gate_dst (N := 3) rfl ?_); refine box_event (by rfl) (N := 3) (by rfl) (cs := #[.int .i64 1, .int .i64 x, .int .i64 y, .int .i64 wd, .int .i64 hg, .slice A3 pix.length c3]) (t := 43) (by go_simp; done) ?_; intro g3 hg_ w2 hbox hb; have HB2 := mk (below_then HB1.out HB1.out.size hb); have Kg1_2 := mk (blk_below Kg1_1.out hb); have Kg3_2 := mk hbox; clear hbox hb hg_) | ((with_reducible refine gate_dst (N := 4) rfl ?_); refine box_event (by rfl) (N := 4) (by rfl) (cs := #[.int .i64 0, .int .i64 0, .int .i64 0, .slice none 0 0]) (t := 28) (by go_simp; done) ?_; intro g2 hg_ w3 hbox hb; have HB3 := mk (below_then HB2.out HB2.out.size hb); have Gg2 := mk (show w.heap.size ≤ g2 from by rw [hg_]; exact HB2.out.size); have Kg1_3 := mk (blk_below Kg1_2.out hb); have Kg3_3 := mk (blk_below Kg3_2.out hb); have Kg2_3 := mk hbox; have fg1_0 : w3.cell? ⟨g1, 0, none⟩ = some (.int .i64 a) := (blk_cell Kg1_3.out 0).trans rfl; have fg1_1 : w3.cell? ⟨g1, 1, none⟩ = some (.int .i64 b) := (blk_cell Kg1_3.out 1).trans rfl; have fg1_2 : w3.cell? ⟨g1, 2, none⟩ = some (.int .i64 p) := (blk_cell Kg1_3.out 2).trans rfl; have fg1_3 : w3.cell? ⟨g1, 3, none⟩ = some (.slice A d.length c) := (blk_cell Kg1_3.out 3).trans rfl; have fg3_0 : w3.cell? ⟨g3, 0, none⟩ = some (.int .i64 1) := (blk_cell Kg3_3.out 0).trans rfl; clear hbox hb hg_) | (go_at_call 26; (with_reducible refine (impl_TurnImage.calls a b p A c d 1 b a p (imgD (turnPx a b p d) b.toNat a.toNat) w3 (Kd.C_below HR.out HB3.out) HC.out E1.out).mono ?_); rintro e w4 ⟨v4, rfl, hr4, hb_⟩; have HB4 := mk (below_then HB3.out HB3.out.size hb_); have Kg2_4 := mk (blk_below Kg2_3.out hb_); have eg2_4_0 : w4.cell? ⟨g2, 0, none⟩ = some (.int .i64 0) := (blk_cell Kg2_4.out 0).trans rfl; have eg2_4_1 : w4.cell? ⟨g2, 1, none⟩ = some (.int .i64 0) := (blk_cell Kg2_4.out 1).trans rfl; have eg2_4_2 : w4.cell? ⟨g2, 2, none⟩ = some (.int .i64 0) := (blk_cell Kg2_4.out 2).trans rfl; have eg2_4_3 : w4.cell? ⟨g2, 3, none⟩ = some (.slice none 0 0) := (blk_cell Kg2_4.out 3).trans rfl; have yg2_4_0 := blk_frozen Kg2_4.out 0; have yg2_4_1 := blk_frozen Kg2_4.out 1; have yg2_4_2 := blk_frozen Kg2_4.out 2; have yg2_4_3 := blk_frozen Kg2_4.out 3; have HR4 := mk (Kd.R_lower hr4 HB3.out.size); obtain ⟨A4, c4, ev4⟩ := Kd.R_slice HR4.out; subst ev4; clear hr4 hb_))
 have G2 := Gg2.out
 have RR := Kd.R_types HR4.out Kg2_4.out (by decide)
 refine bodyPost_ret (results_ct rfl _ _ g2 28 #[.int .i64 b, .int .i64 a, .int .i64 p, .slice A4 (imgD (turnPx a b p d) b.toNat a.toNat).length c4] (0, 0) _ rfl (by
  refine blk_put (cs := #[.int .i64 b, .int .i64 a, .int .i64 p, .slice none 0 0]) ?_ 3 _ rfl
  refine blk_put (cs := #[.int .i64 b, .int .i64 a, .int .i64 0, .slice none 0 0]) ?_ 2 _ rfl
  refine blk_put (cs := #[.int .i64 b, .int .i64 0, .int .i64 0, .slice none 0 0]) ?_ 1 _ rfl
  refine blk_put (cs := #[.int .i64 0, .int .i64 0, .int .i64 0, .slice none 0 0]) ?_ 0 _ rfl
  exact Kg2_4.out
  ) hu rfl (by kernel_rfl)) rfl ?_
 exact ⟨_, rfl, Kd.R_mono (Kd.R_far (Kd.R_far (Kd.R_far (Kd.R_far RR (fun k hk => hk.2) _) (fun k hk => hk.2) _) (fun k hk => hk.2) _) (fun k hk => hk.2) _) (fun _ _ => trivial), below_set (below_set (below_set (below_set HB4.out (by omega)) (by omega)) (by omega)) (by omega)⟩
set_option maxHeartbeats 4000000 in
set_option maxRecDepth 100000 in
theorem step2 (a b p : Int) (A : Option Addr) (c : Nat) (d : List Int) (x y wd hg : Int) (A3 : Option Addr) (c3 : Nat) (pix : List Int) (w : World) (hr0_3 : Kd.C (Kd.int .i64) w A d.length d) (hc0_3 : d.length ≤ c) (hr3 : Kd.C (Kd.int .i64) w A3 pix.length pix) (hc3 : pix.length ≤ c3) (hv1 : validI a b p d = true) :
  Calls Try.prog 45 #[.agg #[.int .i64 a, .int .i64 b, .int .i64 p, .slice A d.length c], .agg #[.int .i64 2, .int .i64 x, .int .i64 y, .int .i64 wd, .int .i64 hg, .slice A3 pix.length c3]] w fun e w' => ∃ v3_ : Value, e = .returned (.tuple #[.agg #[.int .i64 a, .int .i64 b, .int .i64 p, v3_], .bool true]) ∧ Kd.R (Kd.int .i64) 3 w' w.heap.size (fun _ => True) v3_ (invD d) ∧ Below w.heap.size w w' := by
 have HC := mk hc0_3
 have HR := mk hr0_3
 have HB0 := mk (Below.refl w.heap.size w)
 have hu := Try.underlying28
 clear hr0_3 hc0_3 hr3 hc3
 have E1 := mk (show impl_InvertImage.f a b p d = some (a, b, p, invD d) from by unfold impl_InvertImage.f; rw [hv1, if_pos rfl])
 clear hv1
 go_enter Try.func45, Try.ntmps45
 go_wp2_with (first | ((with_reducible refine gate_dst (N := 2) rfl ?_); refine box_event (by rfl) (N := 2) (by rfl) (cs := #[.int .i64 a, .int .i64 b, .int .i64 p, .slice A d.length c]) (t := 28) (by go_simp; done) ?_; intro g1 hg_ w1 hbox hb; have HB1 := mk (below_then HB0.out HB0.out.size hb); have Kg1_1 := mk hbox; clear hbox hb hg_) | ((with_reducible refine gate_dst (N := 3) rfl ?_); refine box_event (by rfl) (N := 3) (by rfl) (cs := #[.int .i64 2, .int .i64 x, .int .i64 y, .int .i64 wd, .int .i64 hg, .slice A3 pix.length c3]) (t := 43) (by go_simp; done) ?_; intro g3 hg_ w2 hbox hb; have HB2 := mk (below_then HB1.out HB1.out.size hb); have Kg1_2 := mk (blk_below Kg1_1.out hb); have Kg3_2 := mk hbox; clear hbox hb hg_) | ((with_reducible refine gate_dst (N := 4) rfl ?_); refine box_event (by rfl) (N := 4) (by rfl) (cs := #[.int .i64 0, .int .i64 0, .int .i64 0, .slice none 0 0]) (t := 28) (by go_simp; done) ?_; intro g2 hg_ w3 hbox hb; have HB3 := mk (below_then HB2.out HB2.out.size hb); have Gg2 := mk (show w.heap.size ≤ g2 from by rw [hg_]; exact HB2.out.size); have Kg1_3 := mk (blk_below Kg1_2.out hb); have Kg3_3 := mk (blk_below Kg3_2.out hb); have Kg2_3 := mk hbox; have fg1_0 : w3.cell? ⟨g1, 0, none⟩ = some (.int .i64 a) := (blk_cell Kg1_3.out 0).trans rfl; have fg1_1 : w3.cell? ⟨g1, 1, none⟩ = some (.int .i64 b) := (blk_cell Kg1_3.out 1).trans rfl; have fg1_2 : w3.cell? ⟨g1, 2, none⟩ = some (.int .i64 p) := (blk_cell Kg1_3.out 2).trans rfl; have fg1_3 : w3.cell? ⟨g1, 3, none⟩ = some (.slice A d.length c) := (blk_cell Kg1_3.out 3).trans rfl; have fg3_0 : w3.cell? ⟨g3, 0, none⟩ = some (.int .i64 2) := (blk_cell Kg3_3.out 0).trans rfl; clear hbox hb hg_) | (go_at_call 27; (with_reducible refine (impl_InvertImage.calls a b p A c d a b p (invD d) w3 (Kd.C_below HR.out HB3.out) HC.out E1.out).mono ?_); rintro e w4 ⟨v4, rfl, hr4, hb_⟩; have HB4 := mk (below_then HB3.out HB3.out.size hb_); have Kg2_4 := mk (blk_below Kg2_3.out hb_); have eg2_4_0 : w4.cell? ⟨g2, 0, none⟩ = some (.int .i64 0) := (blk_cell Kg2_4.out 0).trans rfl; have eg2_4_1 : w4.cell? ⟨g2, 1, none⟩ = some (.int .i64 0) := (blk_cell Kg2_4.out 1).trans rfl; have eg2_4_2 : w4.cell? ⟨g2, 2, none⟩ = some (.int .i64 0) := (blk_cell Kg2_4.out 2).trans rfl; have eg2_4_3 : w4.cell? ⟨g2, 3, none⟩ = some (.slice none 0 0) := (blk_cell Kg2_4.out 3).trans rfl; have yg2_4_0 := blk_frozen Kg2_4.out 0; have yg2_4_1 := blk_frozen Kg2_4.out 1; have yg2_4_2 := blk_frozen Kg2_4.out 2; have yg2_4_3 := blk_frozen Kg2_4.out 3; have HR4 := mk (Kd.R_lower hr4 HB3.out.size); obtain ⟨A4, c4, ev4⟩ := Kd.R_slice HR4.out; subst ev4; clear hr4 hb_))
 have G2 := Gg2.out
 have RR := Kd.R_types HR4.out Kg2_4.out (by decide)
 refine bodyPost_ret (results_ct rfl _ _ g2 28 #[.int .i64 a, .int .i64 b, .int .i64 p, .slice A4 (invD d).length c4] (0, 0) _ rfl (by
  refine blk_put (cs := #[.int .i64 a, .int .i64 b, .int .i64 p, .slice none 0 0]) ?_ 3 _ rfl
  refine blk_put (cs := #[.int .i64 a, .int .i64 b, .int .i64 0, .slice none 0 0]) ?_ 2 _ rfl
  refine blk_put (cs := #[.int .i64 a, .int .i64 0, .int .i64 0, .slice none 0 0]) ?_ 1 _ rfl
  refine blk_put (cs := #[.int .i64 0, .int .i64 0, .int .i64 0, .slice none 0 0]) ?_ 0 _ rfl
  exact Kg2_4.out
  ) hu rfl (by kernel_rfl)) rfl ?_
 exact ⟨_, rfl, Kd.R_mono (Kd.R_far (Kd.R_far (Kd.R_far (Kd.R_far RR (fun k hk => hk.2) _) (fun k hk => hk.2) _) (fun k hk => hk.2) _) (fun k hk => hk.2) _) (fun _ _ => trivial), below_set (below_set (below_set (below_set HB4.out (by omega)) (by omega)) (by omega)) (by omega)⟩
set_option maxHeartbeats 4000000 in
set_option maxRecDepth 100000 in
theorem step3_yes (a b p : Int) (A : Option Addr) (c : Nat) (d : List Int) (x y wd hg : Int) (A3 : Option Addr) (c3 : Nat) (pix : List Int) (w : World) (hr0_3 : Kd.C (Kd.int .i64) w A d.length d) (hc0_3 : d.length ≤ c) (hr3 : Kd.C (Kd.int .i64) w A3 pix.length pix) (hc3 : pix.length ≤ c3) (hv1 : validI a b p d = true) (hv2 : boxOn a b x y wd hg = true) :
  Calls Try.prog 45 #[.agg #[.int .i64 a, .int .i64 b, .int .i64 p, .slice A d.length c], .agg #[.int .i64 3, .int .i64 x, .int .i64 y, .int .i64 wd, .int .i64 hg, .slice A3 pix.length c3]] w fun e w' => ∃ v3_ : Value, e = .returned (.tuple #[.agg #[.int .i64 wd, .int .i64 hg, .int .i64 p, v3_], .bool true]) ∧ Kd.R (Kd.int .i64) 3 w' w.heap.size (fun _ => True) v3_ (imgD (cropPx a p d x.toNat y.toNat) wd.toNat hg.toNat) ∧ Below w.heap.size w w' := by
 have HC := mk hc0_3
 have HR := mk hr0_3
 have HB0 := mk (Below.refl w.heap.size w)
 have hu := Try.underlying28
 clear hr0_3 hc0_3 hr3 hc3
 have E1 := mk (show impl_CropImage.f a b p d x y wd hg = some (wd, hg, p, imgD (cropPx a p d x.toNat y.toNat) wd.toNat hg.toNat, true) from by unfold impl_CropImage.f; rw [hv1, hv2, if_pos ⟨rfl, rfl⟩])
 clear hv1 hv2
 go_enter Try.func45, Try.ntmps45
 go_wp2_with (first | ((with_reducible refine gate_dst (N := 2) rfl ?_); refine box_event (by rfl) (N := 2) (by rfl) (cs := #[.int .i64 a, .int .i64 b, .int .i64 p, .slice A d.length c]) (t := 28) (by go_simp; done) ?_; intro g1 hg_ w1 hbox hb; have HB1 := mk (below_then HB0.out HB0.out.size hb); have Kg1_1 := mk hbox; clear hbox hb hg_) | ((with_reducible refine gate_dst (N := 3) rfl ?_); refine box_event (by rfl) (N := 3) (by rfl) (cs := #[.int .i64 3, .int .i64 x, .int .i64 y, .int .i64 wd, .int .i64 hg, .slice A3 pix.length c3]) (t := 43) (by go_simp; done) ?_; intro g3 hg_ w2 hbox hb; have HB2 := mk (below_then HB1.out HB1.out.size hb); have Kg1_2 := mk (blk_below Kg1_1.out hb); have Kg3_2 := mk hbox; clear hbox hb hg_) | ((with_reducible refine gate_dst (N := 4) rfl ?_); refine box_event (by rfl) (N := 4) (by rfl) (cs := #[.int .i64 0, .int .i64 0, .int .i64 0, .slice none 0 0]) (t := 28) (by go_simp; done) ?_; intro g2 hg_ w3 hbox hb; have HB3 := mk (below_then HB2.out HB2.out.size hb); have Gg2 := mk (show w.heap.size ≤ g2 from by rw [hg_]; exact HB2.out.size); have Kg1_3 := mk (blk_below Kg1_2.out hb); have Kg3_3 := mk (blk_below Kg3_2.out hb); have Kg2_3 := mk hbox; have fg1_0 : w3.cell? ⟨g1, 0, none⟩ = some (.int .i64 a) := (blk_cell Kg1_3.out 0).trans rfl; have fg1_1 : w3.cell? ⟨g1, 1, none⟩ = some (.int .i64 b) := (blk_cell Kg1_3.out 1).trans rfl; have fg1_2 : w3.cell? ⟨g1, 2, none⟩ = some (.int .i64 p) := (blk_cell Kg1_3.out 2).trans rfl; have fg1_3 : w3.cell? ⟨g1, 3, none⟩ = some (.slice A d.length c) := (blk_cell Kg1_3.out 3).trans rfl; have fg3_0 : w3.cell? ⟨g3, 0, none⟩ = some (.int .i64 3) := (blk_cell Kg3_3.out 0).trans rfl; have fg3_1 : w3.cell? ⟨g3, 1, none⟩ = some (.int .i64 x) := (blk_cell Kg3_3.out 1).trans rfl; have fg3_2 : w3.cell? ⟨g3, 2, none⟩ = some (.int .i64 y) := (blk_cell Kg3_3.out 2).trans rfl; have fg3_3 : w3.cell? ⟨g3, 3, none⟩ = some (.int .i64 wd) := (blk_cell Kg3_3.out 3).trans rfl; have fg3_4 : w3.cell? ⟨g3, 4, none⟩ = some (.int .i64 hg) := (blk_cell Kg3_3.out 4).trans rfl; clear hbox hb hg_) | (go_at_call 29; (with_reducible refine (impl_CropImage.calls a b p A c d x y wd hg wd hg p (imgD (cropPx a p d x.toNat y.toNat) wd.toNat hg.toNat) true w3 (Kd.C_below HR.out HB3.out) HC.out E1.out).mono ?_); rintro e w4 ⟨v4, rfl, hr4, hb_⟩; have HB4 := mk (below_then HB3.out HB3.out.size hb_); have Kg2_4 := mk (blk_below Kg2_3.out hb_); have eg2_4_0 : w4.cell? ⟨g2, 0, none⟩ = some (.int .i64 0) := (blk_cell Kg2_4.out 0).trans rfl; have eg2_4_1 : w4.cell? ⟨g2, 1, none⟩ = some (.int .i64 0) := (blk_cell Kg2_4.out 1).trans rfl; have eg2_4_2 : w4.cell? ⟨g2, 2, none⟩ = some (.int .i64 0) := (blk_cell Kg2_4.out 2).trans rfl; have eg2_4_3 : w4.cell? ⟨g2, 3, none⟩ = some (.slice none 0 0) := (blk_cell Kg2_4.out 3).trans rfl; have yg2_4_0 := blk_frozen Kg2_4.out 0; have yg2_4_1 := blk_frozen Kg2_4.out 1; have yg2_4_2 := blk_frozen Kg2_4.out 2; have yg2_4_3 := blk_frozen Kg2_4.out 3; have HR4 := mk (Kd.R_lower hr4 HB3.out.size); obtain ⟨A4, c4, ev4⟩ := Kd.R_slice HR4.out; subst ev4; clear hr4 hb_))
 have G2 := Gg2.out
 have RR := Kd.R_types HR4.out Kg2_4.out (by decide)
 refine bodyPost_ret (results_ct rfl _ _ g2 28 #[.int .i64 wd, .int .i64 hg, .int .i64 p, .slice A4 (imgD (cropPx a p d x.toNat y.toNat) wd.toNat hg.toNat).length c4] (0, 0) _ rfl (by
  refine blk_put (cs := #[.int .i64 wd, .int .i64 hg, .int .i64 p, .slice none 0 0]) ?_ 3 _ rfl
  refine blk_put (cs := #[.int .i64 wd, .int .i64 hg, .int .i64 0, .slice none 0 0]) ?_ 2 _ rfl
  refine blk_put (cs := #[.int .i64 wd, .int .i64 0, .int .i64 0, .slice none 0 0]) ?_ 1 _ rfl
  refine blk_put (cs := #[.int .i64 0, .int .i64 0, .int .i64 0, .slice none 0 0]) ?_ 0 _ rfl
  exact Kg2_4.out
  ) hu rfl (by kernel_rfl)) rfl ?_
 exact ⟨_, rfl, Kd.R_mono (Kd.R_far (Kd.R_far (Kd.R_far (Kd.R_far RR (fun k hk => hk.2) _) (fun k hk => hk.2) _) (fun k hk => hk.2) _) (fun k hk => hk.2) _) (fun _ _ => trivial), below_set (below_set (below_set (below_set HB4.out (by omega)) (by omega)) (by omega)) (by omega)⟩
set_option maxHeartbeats 4000000 in
set_option maxRecDepth 100000 in
theorem step3_no (a b p : Int) (A : Option Addr) (c : Nat) (d : List Int) (x y wd hg : Int) (A3 : Option Addr) (c3 : Nat) (pix : List Int) (w : World) (hr0_3 : Kd.C (Kd.int .i64) w A d.length d) (hc0_3 : d.length ≤ c) (hr3 : Kd.C (Kd.int .i64) w A3 pix.length pix) (hc3 : pix.length ≤ c3) (hv1 : validI a b p d = true) (hv2 : boxOn a b x y wd hg = false) :
  Calls Try.prog 45 #[.agg #[.int .i64 a, .int .i64 b, .int .i64 p, .slice A d.length c], .agg #[.int .i64 3, .int .i64 x, .int .i64 y, .int .i64 wd, .int .i64 hg, .slice A3 pix.length c3]] w fun e w' => ∃ v3_ : Value, e = .returned (.tuple #[.agg #[.int .i64 0, .int .i64 0, .int .i64 0, v3_], .bool false]) ∧ Kd.R (Kd.int .i64) 3 w' w.heap.size (fun _ => True) v3_ [] ∧ Below w.heap.size w w' := by
 have HC := mk hc0_3
 have HR := mk hr0_3
 have HB0 := mk (Below.refl w.heap.size w)
 have hu := Try.underlying28
 clear hr0_3 hc0_3 hr3 hc3
 have E1 := mk (show impl_CropImage.f a b p d x y wd hg = some (0, 0, 0, [], false) from by unfold impl_CropImage.f; rw [hv1, hv2, if_neg (by simp)])
 clear hv1 hv2
 go_enter Try.func45, Try.ntmps45
 go_wp2_with (first | ((with_reducible refine gate_dst (N := 2) rfl ?_); refine box_event (by rfl) (N := 2) (by rfl) (cs := #[.int .i64 a, .int .i64 b, .int .i64 p, .slice A d.length c]) (t := 28) (by go_simp; done) ?_; intro g1 hg_ w1 hbox hb; have HB1 := mk (below_then HB0.out HB0.out.size hb); have Kg1_1 := mk hbox; clear hbox hb hg_) | ((with_reducible refine gate_dst (N := 3) rfl ?_); refine box_event (by rfl) (N := 3) (by rfl) (cs := #[.int .i64 3, .int .i64 x, .int .i64 y, .int .i64 wd, .int .i64 hg, .slice A3 pix.length c3]) (t := 43) (by go_simp; done) ?_; intro g3 hg_ w2 hbox hb; have HB2 := mk (below_then HB1.out HB1.out.size hb); have Kg1_2 := mk (blk_below Kg1_1.out hb); have Kg3_2 := mk hbox; clear hbox hb hg_) | ((with_reducible refine gate_dst (N := 4) rfl ?_); refine box_event (by rfl) (N := 4) (by rfl) (cs := #[.int .i64 0, .int .i64 0, .int .i64 0, .slice none 0 0]) (t := 28) (by go_simp; done) ?_; intro g2 hg_ w3 hbox hb; have HB3 := mk (below_then HB2.out HB2.out.size hb); have Gg2 := mk (show w.heap.size ≤ g2 from by rw [hg_]; exact HB2.out.size); have Kg1_3 := mk (blk_below Kg1_2.out hb); have Kg3_3 := mk (blk_below Kg3_2.out hb); have Kg2_3 := mk hbox; have fg1_0 : w3.cell? ⟨g1, 0, none⟩ = some (.int .i64 a) := (blk_cell Kg1_3.out 0).trans rfl; have fg1_1 : w3.cell? ⟨g1, 1, none⟩ = some (.int .i64 b) := (blk_cell Kg1_3.out 1).trans rfl; have fg1_2 : w3.cell? ⟨g1, 2, none⟩ = some (.int .i64 p) := (blk_cell Kg1_3.out 2).trans rfl; have fg1_3 : w3.cell? ⟨g1, 3, none⟩ = some (.slice A d.length c) := (blk_cell Kg1_3.out 3).trans rfl; have fg3_0 : w3.cell? ⟨g3, 0, none⟩ = some (.int .i64 3) := (blk_cell Kg3_3.out 0).trans rfl; have fg3_1 : w3.cell? ⟨g3, 1, none⟩ = some (.int .i64 x) := (blk_cell Kg3_3.out 1).trans rfl; have fg3_2 : w3.cell? ⟨g3, 2, none⟩ = some (.int .i64 y) := (blk_cell Kg3_3.out 2).trans rfl; have fg3_3 : w3.cell? ⟨g3, 3, none⟩ = some (.int .i64 wd) := (blk_cell Kg3_3.out 3).trans rfl; have fg3_4 : w3.cell? ⟨g3, 4, none⟩ = some (.int .i64 hg) := (blk_cell Kg3_3.out 4).trans rfl; clear hbox hb hg_) | (go_at_call 29; (with_reducible refine (impl_CropImage.calls a b p A c d x y wd hg 0 0 0 [] false w3 (Kd.C_below HR.out HB3.out) HC.out E1.out).mono ?_); rintro e w4 ⟨v4, rfl, hr4, hb_⟩; have HB4 := mk (below_then HB3.out HB3.out.size hb_); have Kg2_4 := mk (blk_below Kg2_3.out hb_); have eg2_4_0 : w4.cell? ⟨g2, 0, none⟩ = some (.int .i64 0) := (blk_cell Kg2_4.out 0).trans rfl; have eg2_4_1 : w4.cell? ⟨g2, 1, none⟩ = some (.int .i64 0) := (blk_cell Kg2_4.out 1).trans rfl; have eg2_4_2 : w4.cell? ⟨g2, 2, none⟩ = some (.int .i64 0) := (blk_cell Kg2_4.out 2).trans rfl; have eg2_4_3 : w4.cell? ⟨g2, 3, none⟩ = some (.slice none 0 0) := (blk_cell Kg2_4.out 3).trans rfl; have yg2_4_0 := blk_frozen Kg2_4.out 0; have yg2_4_1 := blk_frozen Kg2_4.out 1; have yg2_4_2 := blk_frozen Kg2_4.out 2; have yg2_4_3 := blk_frozen Kg2_4.out 3; have HR4 := mk (Kd.R_lower hr4 HB3.out.size); obtain ⟨A4, c4, ev4⟩ := Kd.R_slice HR4.out; subst ev4; clear hr4 hb_))
 have G2 := Gg2.out
 have RR := Kd.R_types HR4.out Kg2_4.out (by decide)
 refine bodyPost_ret (results_ct rfl _ _ g2 28 #[.int .i64 0, .int .i64 0, .int .i64 0, .slice A4 0 c4] (0, 0) _ rfl (by
  refine blk_put (cs := #[.int .i64 0, .int .i64 0, .int .i64 0, .slice none 0 0]) ?_ 3 _ rfl
  refine blk_put (cs := #[.int .i64 0, .int .i64 0, .int .i64 0, .slice none 0 0]) ?_ 2 _ rfl
  refine blk_put (cs := #[.int .i64 0, .int .i64 0, .int .i64 0, .slice none 0 0]) ?_ 1 _ rfl
  refine blk_put (cs := #[.int .i64 0, .int .i64 0, .int .i64 0, .slice none 0 0]) ?_ 0 _ rfl
  exact Kg2_4.out
  ) hu rfl (by kernel_rfl)) rfl ?_
 exact ⟨_, rfl, Kd.R_mono (Kd.R_far (Kd.R_far (Kd.R_far (Kd.R_far RR (fun k hk => hk.2) _) (fun k hk => hk.2) _) (fun k hk => hk.2) _) (fun k hk => hk.2) _) (fun _ _ => trivial), below_set (below_set (below_set (below_set HB4.out (by omega)) (by omega)) (by omega)) (by omega)⟩
set_option maxHeartbeats 4000000 in
set_option maxRecDepth 100000 in
theorem step4_no1 (a b p : Int) (A : Option Addr) (c : Nat) (d : List Int) (x y wd hg : Int) (A3 : Option Addr) (c3 : Nat) (pix : List Int) (w : World) (hr0_3 : Kd.C (Kd.int .i64) w A d.length d) (hc0_3 : d.length ≤ c) (hr3 : Kd.C (Kd.int .i64) w A3 pix.length pix) (hc3 : pix.length ≤ c3) (hv1 : validI a b p d = true) (hv2 : boxOn a b x y wd hg = false) :
  Calls Try.prog 45 #[.agg #[.int .i64 a, .int .i64 b, .int .i64 p, .slice A d.length c], .agg #[.int .i64 4, .int .i64 x, .int .i64 y, .int .i64 wd, .int .i64 hg, .slice A3 pix.length c3]] w fun e w' => ∃ v3_ : Value, e = .returned (.tuple #[.agg #[.int .i64 0, .int .i64 0, .int .i64 0, v3_], .bool false]) ∧ Kd.R (Kd.int .i64) 3 w' w.heap.size (fun _ => True) v3_ [] ∧ Below w.heap.size w w' := by
 have HC := mk hc0_3
 have HR := mk hr0_3
 have HB0 := mk (Below.refl w.heap.size w)
 have hu := Try.underlying28
 clear hr0_3 hc0_3 hr3 hc3
 have E2 := mk (impl_isBoxOn_eq hv1 x y wd hg)
 rw [hv2] at E2
 clear hv1 hv2
 go_enter Try.func45, Try.ntmps45
 go_wp2_with (first | ((with_reducible refine gate_dst (N := 2) rfl ?_); refine box_event (by rfl) (N := 2) (by rfl) (cs := #[.int .i64 a, .int .i64 b, .int .i64 p, .slice A d.length c]) (t := 28) (by go_simp; done) ?_; intro g1 hg_ w1 hbox hb; have HB1 := mk (below_then HB0.out HB0.out.size hb); have Kg1_1 := mk hbox; clear hbox hb hg_) | ((with_reducible refine gate_dst (N := 3) rfl ?_); refine box_event (by rfl) (N := 3) (by rfl) (cs := #[.int .i64 4, .int .i64 x, .int .i64 y, .int .i64 wd, .int .i64 hg, .slice A3 pix.length c3]) (t := 43) (by go_simp; done) ?_; intro g3 hg_ w2 hbox hb; have HB2 := mk (below_then HB1.out HB1.out.size hb); have Kg1_2 := mk (blk_below Kg1_1.out hb); have Kg3_2 := mk hbox; clear hbox hb hg_) | ((with_reducible refine gate_dst (N := 4) rfl ?_); refine box_event (by rfl) (N := 4) (by rfl) (cs := #[.int .i64 0, .int .i64 0, .int .i64 0, .slice none 0 0]) (t := 28) (by go_simp; done) ?_; intro g2 hg_ w3 hbox hb; have HB3 := mk (below_then HB2.out HB2.out.size hb); have Gg2 := mk (show w.heap.size ≤ g2 from by rw [hg_]; exact HB2.out.size); have Kg1_3 := mk (blk_below Kg1_2.out hb); have Kg3_3 := mk (blk_below Kg3_2.out hb); have Kg2_3 := mk hbox; have fg1_0 : w3.cell? ⟨g1, 0, none⟩ = some (.int .i64 a) := (blk_cell Kg1_3.out 0).trans rfl; have fg1_1 : w3.cell? ⟨g1, 1, none⟩ = some (.int .i64 b) := (blk_cell Kg1_3.out 1).trans rfl; have fg1_2 : w3.cell? ⟨g1, 2, none⟩ = some (.int .i64 p) := (blk_cell Kg1_3.out 2).trans rfl; have fg1_3 : w3.cell? ⟨g1, 3, none⟩ = some (.slice A d.length c) := (blk_cell Kg1_3.out 3).trans rfl; have fg3_0 : w3.cell? ⟨g3, 0, none⟩ = some (.int .i64 4) := (blk_cell Kg3_3.out 0).trans rfl; have fg3_1 : w3.cell? ⟨g3, 1, none⟩ = some (.int .i64 x) := (blk_cell Kg3_3.out 1).trans rfl; have fg3_2 : w3.cell? ⟨g3, 2, none⟩ = some (.int .i64 y) := (blk_cell Kg3_3.out 2).trans rfl; have fg3_3 : w3.cell? ⟨g3, 3, none⟩ = some (.int .i64 wd) := (blk_cell Kg3_3.out 3).trans rfl; have fg3_4 : w3.cell? ⟨g3, 4, none⟩ = some (.int .i64 hg) := (blk_cell Kg3_3.out 4).trans rfl; clear hbox hb hg_) | (go_at_call 59; (with_reducible refine (impl_isBoxOn.calls a b p A c d x y wd hg _ w3 (Kd.C_below HR.out HB3.out) HC.out E2.out).mono ?_); rintro e w4 ⟨rfl, hb_⟩; have HB4 := mk (below_then HB3.out HB3.out.size hb_); have Kg2_4 := mk (blk_below Kg2_3.out hb_); have eg2_4_0 : w4.cell? ⟨g2, 0, none⟩ = some (.int .i64 0) := (blk_cell Kg2_4.out 0).trans rfl; have eg2_4_1 : w4.cell? ⟨g2, 1, none⟩ = some (.int .i64 0) := (blk_cell Kg2_4.out 1).trans rfl; have eg2_4_2 : w4.cell? ⟨g2, 2, none⟩ = some (.int .i64 0) := (blk_cell Kg2_4.out 2).trans rfl; have eg2_4_3 : w4.cell? ⟨g2, 3, none⟩ = some (.slice none 0 0) := (blk_cell Kg2_4.out 3).trans rfl; have yg2_4_0 := blk_frozen Kg2_4.out 0; have yg2_4_1 := blk_frozen Kg2_4.out 1; have yg2_4_2 := blk_frozen Kg2_4.out 2; have yg2_4_3 := blk_frozen Kg2_4.out 3; clear hb_))
 refine bodyPost_ret (results_ct rfl _ _ g2 28 #[.int .i64 0, .int .i64 0, .int .i64 0, .slice none 0 0] (0, 0) _ rfl (by
  refine blk_put (cs := #[.int .i64 0, .int .i64 0, .int .i64 0, .slice none 0 0]) ?_ 3 _ rfl
  refine blk_put (cs := #[.int .i64 0, .int .i64 0, .int .i64 0, .slice none 0 0]) ?_ 2 _ rfl
  refine blk_put (cs := #[.int .i64 0, .int .i64 0, .int .i64 0, .slice none 0 0]) ?_ 1 _ rfl
  refine blk_put (cs := #[.int .i64 0, .int .i64 0, .int .i64 0, .slice none 0 0]) ?_ 0 _ rfl
  exact Kg2_4.out
  ) hu rfl (by kernel_rfl)) rfl ?_
 have G2 := Gg2.out
 exact ⟨_, rfl, Kd.R_nil _ _ _ _ _, below_set (below_set (below_set (below_set HB4.out (by omega)) (by omega)) (by omega)) (by omega)⟩
set_option maxHeartbeats 4000000 in
set_option maxRecDepth 100000 in
theorem step4_no2 (a b p : Int) (A : Option Addr) (c : Nat) (d : List Int) (x y wd hg : Int) (A3 : Option Addr) (c3 : Nat) (pix : List Int) (w : World) (hr0_3 : Kd.C (Kd.int .i64) w A d.length d) (hc0_3 : d.length ≤ c) (hr3 : Kd.C (Kd.int .i64) w A3 pix.length pix) (hc3 : pix.length ≤ c3) (hv1 : validI a b p d = true) (hv2 : boxOn a b x y wd hg = true) (hv3 : ¬ (pix.length : Int) = p) :
  Calls Try.prog 45 #[.agg #[.int .i64 a, .int .i64 b, .int .i64 p, .slice A d.length c], .agg #[.int .i64 4, .int .i64 x, .int .i64 y, .int .i64 wd, .int .i64 hg, .slice A3 pix.length c3]] w fun e w' => ∃ v3_ : Value, e = .returned (.tuple #[.agg #[.int .i64 0, .int .i64 0, .int .i64 0, v3_], .bool false]) ∧ Kd.R (Kd.int .i64) 3 w' w.heap.size (fun _ => True) v3_ [] ∧ Below w.heap.size w w' := by
 have HC := mk hc0_3
 have HR := mk hr0_3
 have HB0 := mk (Below.refl w.heap.size w)
 have hu := Try.underlying28
 clear hr0_3 hc0_3 hr3 hc3
 have E2 := mk (impl_isBoxOn_eq hv1 x y wd hg)
 rw [hv2] at E2
 clear hv1 hv2
 go_enter Try.func45, Try.ntmps45
 go_wp2_with (first | ((with_reducible refine gate_dst (N := 2) rfl ?_); refine box_event (by rfl) (N := 2) (by rfl) (cs := #[.int .i64 a, .int .i64 b, .int .i64 p, .slice A d.length c]) (t := 28) (by go_simp; done) ?_; intro g1 hg_ w1 hbox hb; have HB1 := mk (below_then HB0.out HB0.out.size hb); have Kg1_1 := mk hbox; clear hbox hb hg_) | ((with_reducible refine gate_dst (N := 3) rfl ?_); refine box_event (by rfl) (N := 3) (by rfl) (cs := #[.int .i64 4, .int .i64 x, .int .i64 y, .int .i64 wd, .int .i64 hg, .slice A3 pix.length c3]) (t := 43) (by go_simp; done) ?_; intro g3 hg_ w2 hbox hb; have HB2 := mk (below_then HB1.out HB1.out.size hb); have Kg1_2 := mk (blk_below Kg1_1.out hb); have Kg3_2 := mk hbox; clear hbox hb hg_) | ((with_reducible refine gate_dst (N := 4) rfl ?_); refine box_event (by rfl) (N := 4) (by rfl) (cs := #[.int .i64 0, .int .i64 0, .int .i64 0, .slice none 0 0]) (t := 28) (by go_simp; done) ?_; intro g2 hg_ w3 hbox hb; have HB3 := mk (below_then HB2.out HB2.out.size hb); have Gg2 := mk (show w.heap.size ≤ g2 from by rw [hg_]; exact HB2.out.size); have Kg1_3 := mk (blk_below Kg1_2.out hb); have Kg3_3 := mk (blk_below Kg3_2.out hb); have Kg2_3 := mk hbox; have fg1_0 : w3.cell? ⟨g1, 0, none⟩ = some (.int .i64 a) := (blk_cell Kg1_3.out 0).trans rfl; have fg1_1 : w3.cell? ⟨g1, 1, none⟩ = some (.int .i64 b) := (blk_cell Kg1_3.out 1).trans rfl; have fg1_2 : w3.cell? ⟨g1, 2, none⟩ = some (.int .i64 p) := (blk_cell Kg1_3.out 2).trans rfl; have fg1_3 : w3.cell? ⟨g1, 3, none⟩ = some (.slice A d.length c) := (blk_cell Kg1_3.out 3).trans rfl; have fg3_0 : w3.cell? ⟨g3, 0, none⟩ = some (.int .i64 4) := (blk_cell Kg3_3.out 0).trans rfl; have fg3_1 : w3.cell? ⟨g3, 1, none⟩ = some (.int .i64 x) := (blk_cell Kg3_3.out 1).trans rfl; have fg3_2 : w3.cell? ⟨g3, 2, none⟩ = some (.int .i64 y) := (blk_cell Kg3_3.out 2).trans rfl; have fg3_3 : w3.cell? ⟨g3, 3, none⟩ = some (.int .i64 wd) := (blk_cell Kg3_3.out 3).trans rfl; have fg3_4 : w3.cell? ⟨g3, 4, none⟩ = some (.int .i64 hg) := (blk_cell Kg3_3.out 4).trans rfl; clear hbox hb hg_) | (go_at_call 59; (with_reducible refine (impl_isBoxOn.calls a b p A c d x y wd hg _ w3 (Kd.C_below HR.out HB3.out) HC.out E2.out).mono ?_); rintro e w4 ⟨rfl, hb_⟩; have HB4 := mk (below_then HB3.out HB3.out.size hb_); have Kg1_4 := mk (blk_below Kg1_3.out hb_); have eg1_4_2 : w4.cell? ⟨g1, 2, none⟩ = some (.int .i64 p) := (blk_cell Kg1_4.out 2).trans rfl; have Kg3_4 := mk (blk_below Kg3_3.out hb_); have eg3_4_5 : w4.cell? ⟨g3, 5, none⟩ = some (.slice A3 pix.length c3) := (blk_cell Kg3_4.out 5).trans rfl; have Kg2_4 := mk (blk_below Kg2_3.out hb_); have eg2_4_0 : w4.cell? ⟨g2, 0, none⟩ = some (.int .i64 0) := (blk_cell Kg2_4.out 0).trans rfl; have eg2_4_1 : w4.cell? ⟨g2, 1, none⟩ = some (.int .i64 0) := (blk_cell Kg2_4.out 1).trans rfl; have eg2_4_2 : w4.cell? ⟨g2, 2, none⟩ = some (.int .i64 0) := (blk_cell Kg2_4.out 2).trans rfl; have eg2_4_3 : w4.cell? ⟨g2, 3, none⟩ = some (.slice none 0 0) := (blk_cell Kg2_4.out 3).trans rfl; have yg2_4_0 := blk_frozen Kg2_4.out 0; have yg2_4_1 := blk_frozen Kg2_4.out 1; have yg2_4_2 := blk_frozen Kg2_4.out 2; have yg2_4_3 := blk_frozen Kg2_4.out 3; clear hb_))
 refine bodyPost_ret (results_ct rfl _ _ g2 28 #[.int .i64 0, .int .i64 0, .int .i64 0, .slice none 0 0] (0, 0) _ rfl (by
  refine blk_put (cs := #[.int .i64 0, .int .i64 0, .int .i64 0, .slice none 0 0]) ?_ 3 _ rfl
  refine blk_put (cs := #[.int .i64 0, .int .i64 0, .int .i64 0, .slice none 0 0]) ?_ 2 _ rfl
  refine blk_put (cs := #[.int .i64 0, .int .i64 0, .int .i64 0, .slice none 0 0]) ?_ 1 _ rfl
  refine blk_put (cs := #[.int .i64 0, .int .i64 0, .int .i64 0, .slice none 0 0]) ?_ 0 _ rfl
  exact Kg2_4.out
  ) hu rfl (by kernel_rfl)) rfl ?_
 have G2 := Gg2.out
 exact ⟨_, rfl, Kd.R_nil _ _ _ _ _, below_set (below_set (below_set (below_set HB4.out (by omega)) (by omega)) (by omega)) (by omega)⟩
set_option maxHeartbeats 4000000 in
set_option maxRecDepth 100000 in
theorem step4_no3 (a b : Int) (A : Option Addr) (c : Nat) (d : List Int) (x y wd hg : Int) (A3 : Option Addr) (c3 : Nat) (pix : List Int) (w : World) (hr0_3 : Kd.C (Kd.int .i64) w A d.length d) (hc0_3 : d.length ≤ c) (hr3 : Kd.C (Kd.int .i64) w A3 pix.length pix) (hc3 : pix.length ≤ c3) (hv1 : validI a b (pix.length : Int) d = true) (hv2 : boxOn a b x y wd hg = true) (hv4 : pix.all byteI = false) :
  Calls Try.prog 45 #[.agg #[.int .i64 a, .int .i64 b, .int .i64 (pix.length : Int), .slice A d.length c], .agg #[.int .i64 4, .int .i64 x, .int .i64 y, .int .i64 wd, .int .i64 hg, .slice A3 pix.length c3]] w fun e w' => ∃ v3_ : Value, e = .returned (.tuple #[.agg #[.int .i64 0, .int .i64 0, .int .i64 0, v3_], .bool false]) ∧ Kd.R (Kd.int .i64) 3 w' w.heap.size (fun _ => True) v3_ [] ∧ Below w.heap.size w w' := by
 have HC := mk hc0_3
 have HR := mk hr0_3
 have HC3 := mk hc3
 have HR3 := mk hr3
 have HB0 := mk (Below.refl w.heap.size w)
 have hu := Try.underlying28
 clear hr0_3 hc0_3 hr3 hc3
 have E2 := mk (impl_isBoxOn_eq hv1 x y wd hg)
 rw [hv2] at E2
 have E3 := mk (areBytesI_eq pix)
 rw [hv4] at E3
 clear hv1 hv2 hv4
 go_enter Try.func45, Try.ntmps45
 go_wp2_with (first | ((with_reducible refine gate_dst (N := 2) rfl ?_); refine box_event (by rfl) (N := 2) (by rfl) (cs := #[.int .i64 a, .int .i64 b, .int .i64 (pix.length : Int), .slice A d.length c]) (t := 28) (by go_simp; done) ?_; intro g1 hg_ w1 hbox hb; have HB1 := mk (below_then HB0.out HB0.out.size hb); have Kg1_1 := mk hbox; clear hbox hb hg_) | ((with_reducible refine gate_dst (N := 3) rfl ?_); refine box_event (by rfl) (N := 3) (by rfl) (cs := #[.int .i64 4, .int .i64 x, .int .i64 y, .int .i64 wd, .int .i64 hg, .slice A3 pix.length c3]) (t := 43) (by go_simp; done) ?_; intro g3 hg_ w2 hbox hb; have HB2 := mk (below_then HB1.out HB1.out.size hb); have Kg1_2 := mk (blk_below Kg1_1.out hb); have Kg3_2 := mk hbox; clear hbox hb hg_) | ((with_reducible refine gate_dst (N := 4) rfl ?_); refine box_event (by rfl) (N := 4) (by rfl) (cs := #[.int .i64 0, .int .i64 0, .int .i64 0, .slice none 0 0]) (t := 28) (by go_simp; done) ?_; intro g2 hg_ w3 hbox hb; have HB3 := mk (below_then HB2.out HB2.out.size hb); have Gg2 := mk (show w.heap.size ≤ g2 from by rw [hg_]; exact HB2.out.size); have Kg1_3 := mk (blk_below Kg1_2.out hb); have Kg3_3 := mk (blk_below Kg3_2.out hb); have Kg2_3 := mk hbox; have fg1_0 : w3.cell? ⟨g1, 0, none⟩ = some (.int .i64 a) := (blk_cell Kg1_3.out 0).trans rfl; have fg1_1 : w3.cell? ⟨g1, 1, none⟩ = some (.int .i64 b) := (blk_cell Kg1_3.out 1).trans rfl; have fg1_2 : w3.cell? ⟨g1, 2, none⟩ = some (.int .i64 (pix.length : Int)) := (blk_cell Kg1_3.out 2).trans rfl; have fg1_3 : w3.cell? ⟨g1, 3, none⟩ = some (.slice A d.length c) := (blk_cell Kg1_3.out 3).trans rfl; have fg3_0 : w3.cell? ⟨g3, 0, none⟩ = some (.int .i64 4) := (blk_cell Kg3_3.out 0).trans rfl; have fg3_1 : w3.cell? ⟨g3, 1, none⟩ = some (.int .i64 x) := (blk_cell Kg3_3.out 1).trans rfl; have fg3_2 : w3.cell? ⟨g3, 2, none⟩ = some (.int .i64 y) := (blk_cell Kg3_3.out 2).trans rfl; have fg3_3 : w3.cell? ⟨g3, 3, none⟩ = some (.int .i64 wd) := (blk_cell Kg3_3.out 3).trans rfl; have fg3_4 : w3.cell? ⟨g3, 4, none⟩ = some (.int .i64 hg) := (blk_cell Kg3_3.out 4).trans rfl; clear hbox hb hg_) | (go_at_call 59; (with_reducible refine (impl_isBoxOn.calls a b (pix.length : Int) A c d x y wd hg _ w3 (Kd.C_below HR.out HB3.out) HC.out E2.out).mono ?_); rintro e w4 ⟨rfl, hb_⟩; have HB4 := mk (below_then HB3.out HB3.out.size hb_); have Kg1_4 := mk (blk_below Kg1_3.out hb_); have eg1_4_2 : w4.cell? ⟨g1, 2, none⟩ = some (.int .i64 (pix.length : Int)) := (blk_cell Kg1_4.out 2).trans rfl; have Kg3_4 := mk (blk_below Kg3_3.out hb_); have eg3_4_5 : w4.cell? ⟨g3, 5, none⟩ = some (.slice A3 pix.length c3) := (blk_cell Kg3_4.out 5).trans rfl; have Kg2_4 := mk (blk_below Kg2_3.out hb_); clear hb_) | (go_at_call 63; (with_reducible refine (impl_areBytes.calls A3 c3 pix _ w4 (Kd.C_below HR3.out HB4.out) HC3.out E3.out).mono ?_); rintro e w5 ⟨rfl, hd_⟩; have hb_ := hd_.below; have HB5 := mk (below_then HB4.out HB4.out.size hb_); have Kg2_5 := mk (blk_below Kg2_4.out hb_); have eg2_5_0 : w5.cell? ⟨g2, 0, none⟩ = some (.int .i64 0) := (blk_cell Kg2_5.out 0).trans rfl; have eg2_5_1 : w5.cell? ⟨g2, 1, none⟩ = some (.int .i64 0) := (blk_cell Kg2_5.out 1).trans rfl; have eg2_5_2 : w5.cell? ⟨g2, 2, none⟩ = some (.int .i64 0) := (blk_cell Kg2_5.out 2).trans rfl; have eg2_5_3 : w5.cell? ⟨g2, 3, none⟩ = some (.slice none 0 0) := (blk_cell Kg2_5.out 3).trans rfl; have yg2_5_0 := blk_frozen Kg2_5.out 0; have yg2_5_1 := blk_frozen Kg2_5.out 1; have yg2_5_2 := blk_frozen Kg2_5.out 2; have yg2_5_3 := blk_frozen Kg2_5.out 3; clear hd_ hb_))
 refine bodyPost_ret (results_ct rfl _ _ g2 28 #[.int .i64 0, .int .i64 0, .int .i64 0, .slice none 0 0] (0, 0) _ rfl (by
  refine blk_put (cs := #[.int .i64 0, .int .i64 0, .int .i64 0, .slice none 0 0]) ?_ 3 _ rfl
  refine blk_put (cs := #[.int .i64 0, .int .i64 0, .int .i64 0, .slice none 0 0]) ?_ 2 _ rfl
  refine blk_put (cs := #[.int .i64 0, .int .i64 0, .int .i64 0, .slice none 0 0]) ?_ 1 _ rfl
  refine blk_put (cs := #[.int .i64 0, .int .i64 0, .int .i64 0, .slice none 0 0]) ?_ 0 _ rfl
  exact Kg2_5.out
  ) hu rfl (by kernel_rfl)) rfl ?_
 have G2 := Gg2.out
 exact ⟨_, rfl, Kd.R_nil _ _ _ _ _, below_set (below_set (below_set (below_set HB5.out (by omega)) (by omega)) (by omega)) (by omega)⟩
set_option maxHeartbeats 4000000 in
set_option maxRecDepth 100000 in
theorem step4_yes (a b : Nat) (A : Option Addr) (c : Nat) (d : List Int) (x y wd hg : Nat) (A3 : Option Addr) (c3 : Nat) (pix : List Int) (w : World) (hr0_3 : Kd.C (Kd.int .i64) w A d.length d) (hc0_3 : d.length ≤ c) (hr3 : Kd.C (Kd.int .i64) w A3 pix.length pix) (hc3 : pix.length ≤ c3) (hv1 : validI a b (pix.length : Int) d = true) (hv2 : boxOn a b x y wd hg = true) (hv4 : pix.all byteI = true) :
  Calls Try.prog 45 #[.agg #[.int .i64 (a : Int), .int .i64 (b : Int), .int .i64 (pix.length : Int), .slice A d.length c], .agg #[.int .i64 4, .int .i64 (x : Int), .int .i64 (y : Int), .int .i64 (wd : Int), .int .i64 (hg : Int), .slice A3 pix.length c3]] w fun e w' => ∃ v3_ : Value, e = .returned (.tuple #[.agg #[.int .i64 (a : Int), .int .i64 (b : Int), .int .i64 (pix.length : Int), v3_], .bool true]) ∧ Kd.R (Kd.int .i64) 3 w' w.heap.size (fun _ => True) v3_ (imgD (fillPx a (pix.length : Int) d x y wd hg pix) a b) ∧ Below w.heap.size w w' := by
 have HC := mk hc0_3
 have HR := mk hr0_3
 have HC3 := mk hc3
 have HR3 := mk hr3
 have HB0 := mk (Below.refl w.heap.size w)
 have HV := mk hv1
 have hu := Try.underlying28
 have hm := hr3.2.1
 clear hr0_3 hc0_3 hr3 hc3
 have E2 := mk (impl_isBoxOn_eq hv1 x y wd hg)
 rw [hv2] at E2
 have E3 := mk (areBytesI_eq pix)
 rw [hv4] at E3
 have hs := ((validI_iff a b pix.length d).1 hv1).1
 have hbx := (boxOn_iff a b x y wd hg).1 hv2
 have HPL := mk (show ∀ i j, i < a → j < b → ((fillPx a (pix.length : Int) d x y wd hg pix) i j).length ≤ 4 from fun i j hi hj => by
  unfold fillPx
  split
  ·omega
  exact pxAt_le hv1 (by omega) (by omega))
 clear hv1 hv2 hv4
 go_enter Try.func45, Try.ntmps45
 go_wp2_with (first | ((with_reducible refine gate_dst (N := 2) rfl ?_); refine box_event (by rfl) (N := 2) (by rfl) (cs := #[.int .i64 (a : Int), .int .i64 (b : Int), .int .i64 (pix.length : Int), .slice A d.length c]) (t := 28) (by go_simp; done) ?_; intro g1 hg_ w1 hbox hb; have HB1 := mk (below_then HB0.out HB0.out.size hb); have Kg1_1 := mk hbox; clear hbox hb hg_) | ((with_reducible refine gate_dst (N := 3) rfl ?_); refine box_event (by rfl) (N := 3) (by rfl) (cs := #[.int .i64 4, .int .i64 (x : Int), .int .i64 (y : Int), .int .i64 (wd : Int), .int .i64 (hg : Int), .slice A3 pix.length c3]) (t := 43) (by go_simp; done) ?_; intro g3 hg_ w2 hbox hb; have HB2 := mk (below_then HB1.out HB1.out.size hb); have Kg1_2 := mk (blk_below Kg1_1.out hb); have Kg3_2 := mk hbox; clear hbox hb hg_) | ((with_reducible refine gate_dst (N := 4) rfl ?_); refine box_event (by rfl) (N := 4) (by rfl) (cs := #[.int .i64 0, .int .i64 0, .int .i64 0, .slice none 0 0]) (t := 28) (by go_simp; done) ?_; intro g2 hg_ w3 hbox hb; have HB3 := mk (below_then HB2.out HB2.out.size hb); have Gg2 := mk (show w.heap.size ≤ g2 from by rw [hg_]; exact HB2.out.size); have Kg1_3 := mk (blk_below Kg1_2.out hb); have Kg3_3 := mk (blk_below Kg3_2.out hb); have Kg2_3 := mk hbox; have fg1_0 : w3.cell? ⟨g1, 0, none⟩ = some (.int .i64 (a : Int)) := (blk_cell Kg1_3.out 0).trans rfl; have fg1_1 : w3.cell? ⟨g1, 1, none⟩ = some (.int .i64 (b : Int)) := (blk_cell Kg1_3.out 1).trans rfl; have fg1_2 : w3.cell? ⟨g1, 2, none⟩ = some (.int .i64 (pix.length : Int)) := (blk_cell Kg1_3.out 2).trans rfl; have fg1_3 : w3.cell? ⟨g1, 3, none⟩ = some (.slice A d.length c) := (blk_cell Kg1_3.out 3).trans rfl; have fg3_0 : w3.cell? ⟨g3, 0, none⟩ = some (.int .i64 4) := (blk_cell Kg3_3.out 0).trans rfl; have fg3_1 : w3.cell? ⟨g3, 1, none⟩ = some (.int .i64 (x : Int)) := (blk_cell Kg3_3.out 1).trans rfl; have fg3_2 : w3.cell? ⟨g3, 2, none⟩ = some (.int .i64 (y : Int)) := (blk_cell Kg3_3.out 2).trans rfl; have fg3_3 : w3.cell? ⟨g3, 3, none⟩ = some (.int .i64 (wd : Int)) := (blk_cell Kg3_3.out 3).trans rfl; have fg3_4 : w3.cell? ⟨g3, 4, none⟩ = some (.int .i64 (hg : Int)) := (blk_cell Kg3_3.out 4).trans rfl; clear hbox hb hg_) | (go_at_call 59; (with_reducible refine (impl_isBoxOn.calls a b (pix.length : Int) A c d x y wd hg _ w3 (Kd.C_below HR.out HB3.out) HC.out E2.out).mono ?_); rintro e w4 ⟨rfl, hb_⟩; have HB4 := mk (below_then HB3.out HB3.out.size hb_); have Kg1_4 := mk (blk_below Kg1_3.out hb_); have eg1_4_2 : w4.cell? ⟨g1, 2, none⟩ = some (.int .i64 (pix.length : Int)) := (blk_cell Kg1_4.out 2).trans rfl; have Kg3_4 := mk (blk_below Kg3_3.out hb_); have eg3_4_5 : w4.cell? ⟨g3, 5, none⟩ = some (.slice A3 pix.length c3) := (blk_cell Kg3_4.out 5).trans rfl; have Kg2_4 := mk (blk_below Kg2_3.out hb_); clear hb_) | (go_at_call 63; (with_reducible refine (impl_areBytes.calls A3 c3 pix _ w4 (Kd.C_below HR3.out HB4.out) HC3.out E3.out).mono ?_); rintro e w5 ⟨rfl, hd_⟩; have hb_ := hd_.below; have HB5 := mk (below_then HB4.out HB4.out.size hb_); have Kg1_5 := mk (blk_below Kg1_4.out hb_); have eg1_5_0 : w5.cell? ⟨g1, 0, none⟩ = some (.int .i64 (a : Int)) := (blk_cell Kg1_5.out 0).trans rfl; have eg1_5_1 : w5.cell? ⟨g1, 1, none⟩ = some (.int .i64 (b : Int)) := (blk_cell Kg1_5.out 1).trans rfl; have eg1_5_2 : w5.cell? ⟨g1, 2, none⟩ = some (.int .i64 (pix.length : Int)) := (blk_cell Kg1_5.out 2).trans rfl; have Kg3_5 := mk (blk_below Kg3_4.out hb_); have Kg2_5 := mk (blk_below Kg2_4.out hb_); clear hd_ hb_) | (go_at_call 53; refine (imageBy_calls 80 #[.pointer (some ⟨g3, 0, none⟩), .pointer (some ⟨g1, 0, none⟩)] (fillPx a (pix.length : Int) d x y wd hg pix) a b (pix.length : Int) (by omega) (by omega) w5 (enters_of Try.func80 (by kernel_rfl) rfl) HPL.out (fun W i j hi hj hW => fill1_calls a b pix.length A c d HV.out HC.out 4 x y wd hg (by omega) (by omega) (by omega) (by omega) A3 c3 pix HC3.out i j (by omega) (by omega) g3 W (blk_below Kg3_5.out hW) g1 (blk_below Kg1_5.out hW) (Kd.C_below (Kd.C_below HR.out HB5.out) hW) (Kd.C_below (Kd.C_below HR3.out HB5.out) hW))).mono ?_; rintro e w6 ⟨v6, rfl, hr6, hb_⟩; have HB6 := mk (below_then HB5.out HB5.out.size hb_); have Kg2_6 := mk (blk_below Kg2_5.out hb_); have eg2_6_0 : w6.cell? ⟨g2, 0, none⟩ = some (.int .i64 0) := (blk_cell Kg2_6.out 0).trans rfl; have eg2_6_1 : w6.cell? ⟨g2, 1, none⟩ = some (.int .i64 0) := (blk_cell Kg2_6.out 1).trans rfl; have eg2_6_2 : w6.cell? ⟨g2, 2, none⟩ = some (.int .i64 0) := (blk_cell Kg2_6.out 2).trans rfl; have eg2_6_3 : w6.cell? ⟨g2, 3, none⟩ = some (.slice none 0 0) := (blk_cell Kg2_6.out 3).trans rfl; have yg2_6_0 := blk_frozen Kg2_6.out 0; have yg2_6_1 := blk_frozen Kg2_6.out 1; have yg2_6_2 := blk_frozen Kg2_6.out 2; have yg2_6_3 := blk_frozen Kg2_6.out 3; have HR6 := mk (Kd.R_lower hr6 HB5.out.size); obtain ⟨A6, c6, ev6⟩ := Kd.R_slice HR6.out; subst ev6; clear hr6 hb_))
 have G2 := Gg2.out
 have RR := Kd.R_types HR6.out Kg2_6.out (by decide)
 refine bodyPost_ret (results_ct rfl _ _ g2 28 #[.int .i64 (a : Int), .int .i64 (b : Int), .int .i64 (pix.length : Int), .slice A6 (imgD (fillPx a (pix.length : Int) d x y wd hg pix) a b).length c6] (0, 0) _ rfl (by
  refine blk_put (cs := #[.int .i64 (a : Int), .int .i64 (b : Int), .int .i64 (pix.length : Int), .slice none 0 0]) ?_ 3 _ rfl
  refine blk_put (cs := #[.int .i64 (a : Int), .int .i64 (b : Int), .int .i64 0, .slice none 0 0]) ?_ 2 _ rfl
  refine blk_put (cs := #[.int .i64 (a : Int), .int .i64 0, .int .i64 0, .slice none 0 0]) ?_ 1 _ rfl
  refine blk_put (cs := #[.int .i64 0, .int .i64 0, .int .i64 0, .slice none 0 0]) ?_ 0 _ rfl
  exact Kg2_6.out
  ) hu rfl (by kernel_rfl)) rfl ?_
 exact ⟨_, rfl, Kd.R_mono (Kd.R_far (Kd.R_far (Kd.R_far (Kd.R_far RR (fun k hk => hk.2) _) (fun k hk => hk.2) _) (fun k hk => hk.2) _) (fun k hk => hk.2) _) (fun _ _ => trivial), below_set (below_set (below_set (below_set HB6.out (by omega)) (by omega)) (by omega)) (by omega)⟩
set_option maxHeartbeats 4000000 in
set_option maxRecDepth 100000 in
theorem step5 (a b p : Int) (A : Option Addr) (c : Nat) (d : List Int) (kind x y wd hg : Int) (A3 : Option Addr) (c3 : Nat) (pix : List Int) (w : World) (hr0_3 : Kd.C (Kd.int .i64) w A d.length d) (hc0_3 : d.length ≤ c) (hr3 : Kd.C (Kd.int .i64) w A3 pix.length pix) (hc3 : pix.length ≤ c3) (hv1 : validI a b p d = true) (h0 : ¬ kind = 0) (h1 : ¬ kind = 1) (h2 : ¬ kind = 2) (h3 : ¬ kind = 3) (h4 : ¬ kind = 4) :
  Calls Try.prog 45 #[.agg #[.int .i64 a, .int .i64 b, .int .i64 p, .slice A d.length c], .agg #[.int .i64 kind, .int .i64 x, .int .i64 y, .int .i64 wd, .int .i64 hg, .slice A3 pix.length c3]] w fun e w' => ∃ v3_ : Value, e = .returned (.tuple #[.agg #[.int .i64 0, .int .i64 0, .int .i64 0, v3_], .bool false]) ∧ Kd.R (Kd.int .i64) 3 w' w.heap.size (fun _ => True) v3_ [] ∧ Below w.heap.size w w' := by
 have HB0 := mk (Below.refl w.heap.size w)
 have hu := Try.underlying28
 clear hr0_3 hc0_3 hr3 hc3
 have k0a : (kind == 0) = false := by simpa using h0
 have k1a : (kind == 1) = false := by simpa using h1
 have k2a : (kind == 2) = false := by simpa using h2
 have k3a : (kind == 3) = false := by simpa using h3
 have k4a : (kind == 4) = false := by simpa using h4
 clear hv1 h0 h1 h2 h3 h4
 go_enter Try.func45, Try.ntmps45
 go_wp2_with (first | ((with_reducible refine gate_dst (N := 2) rfl ?_); refine box_event (by rfl) (N := 2) (by rfl) (cs := #[.int .i64 a, .int .i64 b, .int .i64 p, .slice A d.length c]) (t := 28) (by go_simp; done) ?_; intro g1 hg_ w1 hbox hb; have HB1 := mk (below_then HB0.out HB0.out.size hb); clear hbox hb hg_) | ((with_reducible refine gate_dst (N := 3) rfl ?_); refine box_event (by rfl) (N := 3) (by rfl) (cs := #[.int .i64 kind, .int .i64 x, .int .i64 y, .int .i64 wd, .int .i64 hg, .slice A3 pix.length c3]) (t := 43) (by go_simp; done) ?_; intro g3 hg_ w2 hbox hb; have HB2 := mk (below_then HB1.out HB1.out.size hb); have Kg3_2 := mk hbox; clear hbox hb hg_) | ((with_reducible refine gate_dst (N := 4) rfl ?_); refine box_event (by rfl) (N := 4) (by rfl) (cs := #[.int .i64 0, .int .i64 0, .int .i64 0, .slice none 0 0]) (t := 28) (by go_simp; done) ?_; intro g2 hg_ w3 hbox hb; have HB3 := mk (below_then HB2.out HB2.out.size hb); have Gg2 := mk (show w.heap.size ≤ g2 from by rw [hg_]; exact HB2.out.size); have Kg3_3 := mk (blk_below Kg3_2.out hb); have Kg2_3 := mk hbox; have fg3_0 : w3.cell? ⟨g3, 0, none⟩ = some (.int .i64 kind) := (blk_cell Kg3_3.out 0).trans rfl; have fg2_0 : w3.cell? ⟨g2, 0, none⟩ = some (.int .i64 0) := (blk_cell Kg2_3.out 0).trans rfl; have fg2_1 : w3.cell? ⟨g2, 1, none⟩ = some (.int .i64 0) := (blk_cell Kg2_3.out 1).trans rfl; have fg2_2 : w3.cell? ⟨g2, 2, none⟩ = some (.int .i64 0) := (blk_cell Kg2_3.out 2).trans rfl; have fg2_3 : w3.cell? ⟨g2, 3, none⟩ = some (.slice none 0 0) := (blk_cell Kg2_3.out 3).trans rfl; have yg2_0 := blk_frozen Kg2_3.out 0; have yg2_1 := blk_frozen Kg2_3.out 1; have yg2_2 := blk_frozen Kg2_3.out 2; have yg2_3 := blk_frozen Kg2_3.out 3; clear hbox hb hg_))
 refine bodyPost_ret (results_ct rfl _ _ g2 28 #[.int .i64 0, .int .i64 0, .int .i64 0, .slice none 0 0] (0, 0) _ rfl (by
  refine blk_put (cs := #[.int .i64 0, .int .i64 0, .int .i64 0, .slice none 0 0]) ?_ 3 _ rfl
  refine blk_put (cs := #[.int .i64 0, .int .i64 0, .int .i64 0, .slice none 0 0]) ?_ 2 _ rfl
  refine blk_put (cs := #[.int .i64 0, .int .i64 0, .int .i64 0, .slice none 0 0]) ?_ 1 _ rfl
  refine blk_put (cs := #[.int .i64 0, .int .i64 0, .int .i64 0, .slice none 0 0]) ?_ 0 _ rfl
  exact Kg2_3.out
  ) hu rfl (by kernel_rfl)) rfl ?_
 have G2 := Gg2.out
 exact ⟨_, rfl, Kd.R_nil _ _ _ _ _, below_set (below_set (below_set (below_set HB3.out (by omega)) (by omega)) (by omega)) (by omega)⟩
theorem impl_doStep.calls (a b p : Int) (A : Option Addr) (c : Nat) (d : List Int) (kind x y wd hg : Int) (A3 : Option Addr) (c3 : Nat) (pix : List Int) (r1 r2 r3 : Int) (r4 : List Int) (r5 : Bool) (w : World) (hr0_3 : Kd.C (Kd.int .i64) w A d.length d) (hc0_3 : d.length ≤ c) (hr1_5 : Kd.C (Kd.int .i64) w A3 pix.length pix) (hc1_5 : pix.length ≤ c3) (h : impl_doStep.f a b p d kind x y wd hg pix = some (r1, r2, r3, r4, r5)) :
  Calls Try.prog 45 #[.agg #[.int .i64 a, .int .i64 b, .int .i64 p, .slice A d.length c], .agg #[.int .i64 kind, .int .i64 x, .int .i64 y, .int .i64 wd, .int .i64 hg, .slice A3 pix.length c3]] w fun e w' => ∃ v3_ : Value, e = .returned (.tuple #[.agg #[.int .i64 r1, .int .i64 r2, .int .i64 r3, v3_], .bool r5]) ∧ Kd.R (Kd.int .i64) 3 w' w.heap.size (fun _ => True) v3_ r4 ∧ Below w.heap.size w w' := by
 unfold impl_doStep.f at h
 by_cases hv1 : validI a b p d = true
 ·rw [if_pos hv1] at h
  have hv := Option.some.inj h
  clear h
  unfold doStepV at hv
  by_cases h0 : kind = 0
  ·subst h0
   rw [if_pos rfl] at hv
   obtain ⟨rfl, rfl, rfl, rfl, rfl⟩ : a = r1 ∧ b = r2 ∧ p = r3 ∧ imgD (mirPx a p d) a.toNat b.toNat = r4 ∧ true = r5 := by simpa using hv
   exact step0 a b p A c d x y wd hg A3 c3 pix w hr0_3 hc0_3 hr1_5 hc1_5 hv1
  rw [if_neg h0] at hv
  by_cases h1 : kind = 1
  ·subst h1
   rw [if_pos rfl] at hv
   obtain ⟨rfl, rfl, rfl, rfl, rfl⟩ : b = r1 ∧ a = r2 ∧ p = r3 ∧ imgD (turnPx a b p d) b.toNat a.toNat = r4 ∧ true = r5 := by simpa using hv
   exact step1 a b p A c d x y wd hg A3 c3 pix w hr0_3 hc0_3 hr1_5 hc1_5 hv1
  rw [if_neg h1] at hv
  by_cases h2 : kind = 2
  ·subst h2
   rw [if_pos rfl] at hv
   obtain ⟨rfl, rfl, rfl, rfl, rfl⟩ : a = r1 ∧ b = r2 ∧ p = r3 ∧ invD d = r4 ∧ true = r5 := by simpa using hv
   exact step2 a b p A c d x y wd hg A3 c3 pix w hr0_3 hc0_3 hr1_5 hc1_5 hv1
  rw [if_neg h2] at hv
  by_cases h3 : kind = 3
  ·subst h3
   rw [if_pos rfl] at hv
   cases hv2 : boxOn a b x y wd hg with
   | true =>
    rw [hv2, if_pos rfl] at hv
    obtain ⟨rfl, rfl, rfl, rfl, rfl⟩ : wd = r1 ∧ hg = r2 ∧ p = r3 ∧ imgD (cropPx a p d x.toNat y.toNat) wd.toNat hg.toNat = r4 ∧ true = r5 := by simpa using hv
    exact step3_yes a b p A c d x y wd hg A3 c3 pix w hr0_3 hc0_3 hr1_5 hc1_5 hv1 hv2
   | false =>
    rw [hv2, if_neg (by simp)] at hv
    obtain ⟨rfl, rfl, rfl, rfl, rfl⟩ : 0 = r1 ∧ 0 = r2 ∧ 0 = r3 ∧ [] = r4 ∧ false = r5 := by simpa using hv
    exact step3_no a b p A c d x y wd hg A3 c3 pix w hr0_3 hc0_3 hr1_5 hc1_5 hv1 hv2
  rw [if_neg h3] at hv
  by_cases h4 : kind = 4
  ·subst h4
   rw [if_pos rfl] at hv
   cases hv2 : boxOn a b x y wd hg with
   | false =>
    rw [hv2, if_neg (by simp)] at hv
    obtain ⟨rfl, rfl, rfl, rfl, rfl⟩ : 0 = r1 ∧ 0 = r2 ∧ 0 = r3 ∧ [] = r4 ∧ false = r5 := by simpa using hv
    exact step4_no1 a b p A c d x y wd hg A3 c3 pix w hr0_3 hc0_3 hr1_5 hc1_5 hv1 hv2
   | true =>
    by_cases hv3 : (pix.length : Int) = p
    ·cases hv4 : pix.all byteI with
     | false =>
      rw [hv2, hv4, if_neg (by simp)] at hv
      obtain ⟨rfl, rfl, rfl, rfl, rfl⟩ : 0 = r1 ∧ 0 = r2 ∧ 0 = r3 ∧ [] = r4 ∧ false = r5 := by simpa using hv
      subst hv3
      exact step4_no3 a b A c d x y wd hg A3 c3 pix w hr0_3 hc0_3 hr1_5 hc1_5 hv1 hv2 hv4
     | true =>
      rw [hv2, hv4, if_pos ⟨rfl, hv3, rfl⟩] at hv
      have hs := ((validI_iff a b p d).1 hv1).1
      have hbx := (boxOn_iff a b x y wd hg).1 hv2
      subst hv3
      obtain ⟨an, rfl⟩ := Int.eq_ofNat_of_zero_le (show 0 ≤ a by omega)
      obtain ⟨bn, rfl⟩ := Int.eq_ofNat_of_zero_le (show 0 ≤ b by omega)
      obtain ⟨xn, rfl⟩ := Int.eq_ofNat_of_zero_le (show 0 ≤ x by omega)
      obtain ⟨yn, rfl⟩ := Int.eq_ofNat_of_zero_le (show 0 ≤ y by omega)
      obtain ⟨wn, rfl⟩ := Int.eq_ofNat_of_zero_le (show 0 ≤ wd by omega)
      obtain ⟨hn, rfl⟩ := Int.eq_ofNat_of_zero_le (show 0 ≤ hg by omega)
      obtain ⟨rfl, rfl, rfl, rfl, rfl⟩ : (an : Int) = r1 ∧ (bn : Int) = r2 ∧ (pix.length : Int) = r3 ∧ imgD (fillPx an (pix.length : Int) d xn yn wn hn pix) an bn = r4 ∧ true = r5 := by simpa using hv
      exact step4_yes an bn A c d xn yn wn hn A3 c3 pix w hr0_3 hc0_3 hr1_5 hc1_5 hv1 hv2 hv4
    rw [if_neg (fun h => hv3 h.2.1)] at hv
    obtain ⟨rfl, rfl, rfl, rfl, rfl⟩ : 0 = r1 ∧ 0 = r2 ∧ 0 = r3 ∧ [] = r4 ∧ false = r5 := by simpa using hv
    exact step4_no2 a b p A c d x y wd hg A3 c3 pix w hr0_3 hc0_3 hr1_5 hc1_5 hv1 hv2 hv3
  rw [if_neg h4] at hv
  obtain ⟨rfl, rfl, rfl, rfl, rfl⟩ : 0 = r1 ∧ 0 = r2 ∧ 0 = r3 ∧ [] = r4 ∧ false = r5 := by simpa using hv
  exact step5 a b p A c d kind x y wd hg A3 c3 pix w hr0_3 hc0_3 hr1_5 hc1_5 hv1 h0 h1 h2 h3 h4
 rw [if_neg hv1] at h; cases h
end Go.Proofs.Ytgccpcnakkioiaa.Q

namespace Go.Proofs.Ytgccpcnakkioiaa.Q
open Go.RowKit Go.Proofs.YtgccpcnakkioiaaW.PrintWords Go.Proofs.YtgccpcnakkioiaaW.PrintLast Go.Proofs.YtgccpcnakkioiaaW.PrintMore
attribute [local go_sem] max2_int min2_int max_two min_two max_three min_three max_four min_four
set_option linter.unusedVariables false
set_option linter.unusedSimpArgs false
open Go.Proofs.YtgccpcnakkioiaaW.PrintWords.Aside0 (mk)
set_option maxHeartbeats 12000000
set_option maxRecDepth 100000
mutual
def impl_RunSteps.j0 : Nat → List S43 → Bool → Int → Int → Int → List Int → Option (Int × Int × Int × List Int × Int)
 | 0, _, _, _, _, _, _ => none
 | k + 1, x1, x18, xz11, xz12, xz13, xz14 => if x18 = true then (some (0, 0, 0, ([] : List Int), (-1))) else ((impl_copyImage.f xz11 xz12 xz13 xz14).bind fun btz0 => (impl_RunSteps.l0 k x1 x1 (x1.length : Int) 0 btz0.1 btz0.2.1 btz0.2.2.1 btz0.2.2.2))
def impl_RunSteps.l0 : Nat → List S43 → List S43 → Int → Int → Int → Int → Int → List Int → Option (Int × Int × Int × List Int × Int)
 | 0, _, _, _, _, _, _, _, _ => none
 | k + 1, x1, x22, x23, x24, xz7, xz8, xz9, xz10 => if x24 < x23 then (if 0 ≤ x24 then (if x24 < (x22.length : Int) then ((impl_doStep.f xz7 xz8 xz9 xz10 ((rd_T43 x22 x24).f0) ((rd_T43 x22 x24).f1.f0) ((rd_T43 x22 x24).f1.f1) ((rd_T43 x22 x24).f1.f2) ((rd_T43 x22 x24).f1.f3) ((rd_T43 x22 x24).f2)).bind fun btz1 => (if btz1.2.2.2.2 = true then (impl_RunSteps.l0 k x1 x22 x23 (wrap64 (x24 + 1)) btz1.1 btz1.2.1 btz1.2.2.1 btz1.2.2.2.1) else (some (xz7, xz8, xz9, xz10, x24)))) else none) else none) else (some (xz7, xz8, xz9, xz10, (x1.length : Int)))
end
def impl_RunSteps.f (k : Nat) (a0_0 : Int) (a0_1 : Int) (a0_2 : Int) (l0_3 : List Int) (l1 : List S43) : Option (Int × Int × Int × List Int × Int) := (impl_isImage.f a0_0 a0_1 a0_2 l0_3).bind fun tz5 => (if tz5 = true then (impl_RunSteps.j0 k l1 (decide ((l1.length : Int) > 12)) a0_0 a0_1 a0_2 l0_3) else (impl_RunSteps.j0 k l1 true a0_0 a0_1 a0_2 l0_3))
theorem impl_RunSteps.calls (k : Nat) (a0_0 : Int) (a0_1 : Int) (a0_2 : Int) (A0_3 : Option Addr) (c0_3 : Nat) (l0_3 : List Int) (A1 : Option Addr) (c1 : Nat) (l1 : List S43) (r1 : Int) (r2 : Int) (r3 : Int) (r4 : List Int) (r5 : Int) (w : World) (hr0_3 : Kd.C (Kd.int .i64) w A0_3 l0_3.length l0_3) (hc0_3 : l0_3.length ≤ c0_3) (hr1 : Kd.C k43 w A1 l1.length l1) (hc1 : l1.length ≤ c1) (h : impl_RunSteps.f k a0_0 a0_1 a0_2 l0_3 l1 = some (r1, r2, r3, r4, r5)) :
  Calls Try.prog 15 #[.agg #[.int .i64 a0_0, .int .i64 a0_1, .int .i64 a0_2, .slice A0_3 l0_3.length c0_3], .slice A1 l1.length c1] w fun e w' => ∃ v3_ : Value, e = .returned (.tuple #[.agg #[.int .i64 r1, .int .i64 r2, .int .i64 r3, v3_], .int .i64 r5]) ∧ Kd.R (Kd.int .i64) 3 w' w.heap.size (fun _ => True) v3_ r4 ∧ Below w.heap.size w w' := by
 have hu28 := Try.underlying28
 have hu43 := Try.underlying43
 have HR0_3 := mk hr0_3
 have HC0_3 := mk hc0_3
 clear hr0_3 hc0_3
 have HR1 := mk hr1
 have HC1 := mk hc1
 clear hr1 hc1
 have HB := mk (Below.refl w.heap.size w)
 have H : ((impl_isImage.f a0_0 a0_1 a0_2 l0_3).bind fun tz5 => (if tz5 = true then (impl_RunSteps.j0 k l1 (decide ((l1.length : Int) > 12)) a0_0 a0_1 a0_2 l0_3) else (impl_RunSteps.j0 k l1 true a0_0 a0_1 a0_2 l0_3))) = some (r1, r2, r3, r4, r5) := h
 clear h
 have HC3 := mk H
 clear H
 go_enter Try.func15, Try.ntmps15
 go_upto_region 1 with (first | ((with_reducible refine gate_dst (N := 2) rfl ?_); (try (refine gate_guard (by rfl) ?_; dsimp only)); refine box_event (by rfl) (N := 2) (by rfl) (cs := #[.int .i64 a0_0, .int .i64 a0_1, .int .i64 a0_2, .slice A0_3 l0_3.length c0_3]) (t := 28) (by go_simp; done) ?_; intro gbz4 hg w4 hbox hb; replace HB := mk (below_step HB.out hb); have BKz2 := mk (hbox); clear hb hbox hg) | ((with_reducible refine gate_dst (N := 4) rfl ?_); (try (refine gate_guard (by rfl) ?_; dsimp only)); refine box_event (by rfl) (N := 4) (by rfl) (cs := #[.int .i64 0, .int .i64 0, .int .i64 0, .slice none 0 0]) (t := 28) (by go_simp; done) ?_; intro gbz2 hg w5 hbox hb; have BKz0 := mk (hbox); have GEz1 := mk ((by rw [hg]; exact (below_size HB.out) : w.heap.size ≤ gbz2)); replace HB := mk (below_step HB.out hb); have NBz12 := mk ((by rw [hg]; exact Nat.ne_of_lt (blk_lt BKz2.out) : gbz4 ≠ gbz2)); have NBz13 := mk ((by rw [hg]; exact Nat.ne_of_gt (blk_lt BKz2.out) : gbz2 ≠ gbz4)); replace BKz2 := mk (blk_below BKz2.out hb); clear hb hbox hg))
 go_cut [18] (fun v18 wc => ∃ (kq : Nat) (x18_2 : Bool), v18 = .bool x18_2 ∧ Aside0 (impl_RunSteps.j0 kq l1 x18_2 a0_0 a0_1 a0_2 l0_3 = some (r1, r2, r3, r4, r5)) ∧ Aside0 (kq ≤ k) ∧ Aside0 (wc.heap[gbz4]? = some (.cells #[.int .i64 a0_0, .int .i64 a0_1, .int .i64 a0_2, (.slice A0_3 l0_3.length c0_3)] 28 (0, 0))) ∧ Aside0 (wc.heap[gbz2]? = some (.cells #[.int .i64 0, .int .i64 0, .int .i64 0, (.slice none 0 0)] 28 (0, 0))) ∧ Aside0 (Below w.heap.size w wc))
 case first =>
  have H := HC3.out
  clear HC3
  replace H := Option.bind_eq_some_iff.mp H
  obtain ⟨tz5, A60, H⟩ := H
  replace H : (if tz5 = true then (impl_RunSteps.j0 k l1 (decide ((l1.length : Int) > 12)) a0_0 a0_1 a0_2 l0_3) else (impl_RunSteps.j0 k l1 true a0_0 a0_1 a0_2 l0_3)) = some (r1, r2, r3, r4, r5) := H
  have A6 := mk A60
  clear A60
  by_cases c7 : tz5 = true
  ·subst c7
   have H1 : (impl_RunSteps.j0 k l1 (decide ((l1.length : Int) > 12)) a0_0 a0_1 a0_2 l0_3) = some (r1, r2, r3, r4, r5) := by rw [if_pos rfl] at H; exact H
   clear H
   have H := H1
   clear H1
   have H' := mk H
   clear H
   obtain ⟨hcz9_0, hcz9_1, hcz9_2, hcz9_3, -⟩ := c4 BKz2.out
   go_wp2_with (first | ((with_reducible refine gate_callee (f := 43) rfl ?_); refine goesL_ (some 12) rfl rfl Try.func43 (by kernel_rfl) rfl #[.agg #[.int .i64 a0_0, .int .i64 a0_1, .int .i64 a0_2, .slice A0_3 l0_3.length c0_3]] rfl (by (try simp only [List.map_toArray, List.map_cons, List.map_nil]); rfl) ?_; (with_reducible refine (impl_isImage.calls a0_0 a0_1 a0_2 _ _ l0_3 true _ ?side1 ?side2 A6.out).mono ?_); (case side1 => repeat (exact (Kd.C_below HR0_3.out HB.out))); (case side2 => exact HC0_3.out); rintro e w10 ⟨rfl, hb⟩; refine ⟨_, rfl, ?_⟩; replace BKz2 := mk (blk_below BKz2.out hb); replace BKz0 := mk (blk_below BKz0.out hb); replace HB := mk (below_step HB.out hb); (try clear hb)))
   go_meet
   case rel => exact ⟨_, (decide ((l1.length : Int) > 12)), (by rfl), H', ⟨by omega⟩, BKz2, BKz0, HB⟩
  replace c7 := Bool.eq_false_iff.mpr c7
  subst c7
  have H1 : (impl_RunSteps.j0 k l1 true a0_0 a0_1 a0_2 l0_3) = some (r1, r2, r3, r4, r5) := by rw [if_neg (show ¬ (false = true) by decide)] at H; exact H
  clear H
  have H := H1
  clear H1
  have H' := mk H
  clear H
  obtain ⟨hcz12_0, hcz12_1, hcz12_2, hcz12_3, -⟩ := c4 BKz2.out
  go_wp2_with (first | ((with_reducible refine gate_callee (f := 43) rfl ?_); refine goesL_ (some 12) rfl rfl Try.func43 (by kernel_rfl) rfl #[.agg #[.int .i64 a0_0, .int .i64 a0_1, .int .i64 a0_2, .slice A0_3 l0_3.length c0_3]] rfl (by (try simp only [List.map_toArray, List.map_cons, List.map_nil]); rfl) ?_; (with_reducible refine (impl_isImage.calls a0_0 a0_1 a0_2 _ _ l0_3 false _ ?side1 ?side2 A6.out).mono ?_); (case side1 => repeat (exact (Kd.C_below HR0_3.out HB.out))); (case side2 => exact HC0_3.out); rintro e w13 ⟨rfl, hb⟩; refine ⟨_, rfl, ?_⟩; replace BKz2 := mk (blk_below BKz2.out hb); replace BKz0 := mk (blk_below BKz0.out hb); replace HB := mk (below_step HB.out hb); (try clear hb)))
  go_meet
  case rel => exact ⟨_, (true), (by rfl), H', ⟨by omega⟩, BKz2, BKz0, HB⟩
 case rest =>
  clear HC3
  obtain ⟨kq, x18_2, rfl, HA, HJ2, BKz2, BKz0, HB⟩ := hcut
  cases kq with
  | zero => exact absurd HA.out (by simp [impl_RunSteps.j0])
  | succ kj2 =>
   have H := HA.out
   clear HA
   simp only [impl_RunSteps.j0] at H
   by_cases c14 : x18_2 = true
   ·subst c14
    have H1 : (some (0, 0, 0, ([] : List Int), (-1))) = some (r1, r2, r3, r4, r5) := by rw [if_pos rfl] at H; exact H
    clear H
    have H := H1
    clear H1
    simp only [Option.some.injEq, Prod.mk.injEq] at H
    obtain ⟨rfl, rfl, rfl, rfl, rfl⟩ := H
    obtain ⟨hcz16_0, hcz16_1, hcz16_2, hcz16_3, hfz16_0, hfz16_1, hfz16_2, hfz16_3⟩ := c4 BKz0.out
    go_wp2
    refine bodyPost_ret (results_ct rfl _ _ gbz2 28 #[.int .i64 0, .int .i64 0, .int .i64 0, .slice none 0 0] (0, 0) _ rfl (by refine blk_put (cs := #[.int .i64 0, .int .i64 0, .int .i64 0, .slice none 0 0]) ?_ 3 _ rfl; refine blk_put (cs := #[.int .i64 0, .int .i64 0, .int .i64 0, .slice none 0 0]) ?_ 2 _ rfl; refine blk_put (cs := #[.int .i64 0, .int .i64 0, .int .i64 0, .slice none 0 0]) ?_ 1 _ rfl; refine blk_put (cs := #[.int .i64 0, .int .i64 0, .int .i64 0, .slice none 0 0]) ?_ 0 _ rfl; exact BKz0.out) Try.underlying28 rfl (by kernel_rfl)) rfl ?_
    exact ⟨_, by rfl, by exact Kd.R_nil _ _ _ _ _, by repeat (with_reducible first | exact HB.out | refine below_set ?_ GEz1.out)⟩
   replace c14 := Bool.eq_false_iff.mpr c14
   subst c14
   have H1 : ((impl_copyImage.f a0_0 a0_1 a0_2 l0_3).bind fun btz0 => (impl_RunSteps.l0 kj2 l1 l1 (l1.length : Int) 0 btz0.1 btz0.2.1 btz0.2.2.1 btz0.2.2.2)) = some (r1, r2, r3, r4, r5) := by rw [if_neg (show ¬ (false = true) by decide)] at H; exact H
   clear H
   have H := H1
   clear H1
   replace H := Option.bind_eq_some_iff.mp H
   obtain ⟨⟨tz4, tz6, tz7, tz8⟩, A170, H⟩ := H
   replace H : (impl_RunSteps.l0 kj2 l1 l1 (l1.length : Int) 0 tz4 tz6 tz7 tz8) = some (r1, r2, r3, r4, r5) := H
   have A17 := mk A170
   clear A170
   have H' := mk H
   clear H
   obtain ⟨hcz19_0, hcz19_1, hcz19_2, hcz19_3, hfz19_0, hfz19_1, hfz19_2, hfz19_3⟩ := c4 BKz2.out
   go_wp2_with (first | ((with_reducible refine gate_callee (f := 44) rfl ?_); refine goesL_ (some 21) rfl rfl Try.func44 (by kernel_rfl) rfl #[.agg #[.int .i64 a0_0, .int .i64 a0_1, .int .i64 a0_2, .slice A0_3 l0_3.length c0_3]] rfl (by (try simp only [List.map_toArray, List.map_cons, List.map_nil]); rfl) ?_; (with_reducible refine (impl_copyImage.calls a0_0 a0_1 a0_2 _ _ l0_3 tz4 tz6 tz7 tz8 _ ?side1 ?side2 A17.out).mono ?_); (case side1 => repeat (exact (Kd.C_below HR0_3.out HB.out))); (case side2 => exact HC0_3.out); rintro e w20 ⟨vz1, rfl, ho0, hb⟩; refine ⟨_, rfl, ?_⟩; have HOz2 := mk (Kd.R_lower ho0 (below_size HB.out)); replace BKz2 := mk (blk_below BKz2.out hb); replace BKz0 := mk (blk_below BKz0.out hb); replace HB := mk (below_step HB.out hb); (try clear hb); (try clear ho0)) | ((with_reducible refine gate_dst (N := 6) rfl ?_); (try (refine gate_guard (by rfl) ?_; dsimp only)); refine box_event (by rfl) (N := 6) (by rfl) (cs := #[.int .i64 0, .int .i64 0, .int .i64 0, .slice none 0 0]) (t := 28) (by go_simp; done) ?_; intro gbz1 hg w21 hbox hb; replace HOz2 := mk (Kd.R_below HOz2.out hb); have BKz1 := mk (hbox); have GEz3 := mk ((by rw [hg]; exact (below_size HB.out) : w.heap.size ≤ gbz1)); replace HB := mk (below_step HB.out hb); have NBz3 := mk ((by rw [hg]; exact Nat.ne_of_lt (blk_lt BKz2.out) : gbz4 ≠ gbz1)); have NBz10 := mk ((by rw [hg]; exact Nat.ne_of_gt (blk_lt BKz2.out) : gbz1 ≠ gbz4)); replace BKz2 := mk (blk_below BKz2.out hb); have NBz4 := mk ((by rw [hg]; exact Nat.ne_of_lt (blk_lt BKz0.out) : gbz2 ≠ gbz1)); have NBz11 := mk ((by rw [hg]; exact Nat.ne_of_gt (blk_lt BKz0.out) : gbz1 ≠ gbz2)); replace BKz0 := mk (blk_below BKz0.out hb); clear hb hbox hg; obtain ⟨hcz24_0, hcz24_1, hcz24_2, hcz24_3, hfz24_0, hfz24_1, hfz24_2, hfz24_3⟩ := c4 BKz1.out; obtain ⟨Ao25, co25, eo25⟩ := Kd.R_slice HOz2.out; subst eo25))
   go_loopg [24] kj2 (fun kq v24 w' => ∃ (x24_2 : Int) (xz6 : Int) (xz5 : Int) (xz4 : Int) (xz0 : Int) (xz1 : Int) (xz2 : Int) (xz3 : List Int) (u16011003 : Value), v24 = .int .i64 x24_2 ∧ Aside0 (impl_RunSteps.l0 kq l1 l1 (l1.length : Int) x24_2 xz0 xz1 xz2 xz3 = some (r1, r2, r3, r4, r5)) ∧ Aside0 (kq ≤ kj2) ∧ Aside0 (Kd.R (Kd.int .i64) 3 w' w.heap.size (fun _ => True) u16011003 xz3) ∧ Aside0 (w'.heap[gbz4]? = some (.cells #[.int .i64 a0_0, .int .i64 a0_1, .int .i64 a0_2, (.slice A0_3 l0_3.length c0_3)] 28 (0, 0))) ∧ Aside0 (w'.heap[gbz2]? = some (.cells #[.int .i64 xz6, .int .i64 xz5, .int .i64 xz4, (.slice none 0 0)] 28 (0, 0))) ∧ Aside0 (w'.heap[gbz1]? = some (.cells #[.int .i64 xz0, .int .i64 xz1, .int .i64 xz2, u16011003] 28 (0, 0))) ∧ Aside0 (Below w.heap.size w w'))
   case atStart => exact ⟨(0), (0), (0), (0), (tz4), (tz6), (tz7), (tz8), (.slice Ao25 tz8.length co25), (by rfl), H', ⟨Nat.le_refl _⟩, ⟨by exact Kd.R_mono (Kd.R_far (p := ⟨gbz1, 3, none⟩) (Kd.R_far (p := ⟨gbz1, 2, none⟩) (Kd.R_far (p := ⟨gbz1, 1, none⟩) (Kd.R_far (p := ⟨gbz1, 0, none⟩) (Kd.R_types HOz2.out BKz1.out (by decide)) (fun _ hk => hk.2) (.int .i64 tz4)) (fun _ hk => hk.2) (.int .i64 tz6)) (fun _ hk => hk.2) (.int .i64 tz7)) (fun _ hk => hk.2) (.slice Ao25 tz8.length co25)) (fun _ hk => trivial)⟩, ⟨by refine blk_far ?_ NBz3.out _; refine blk_far ?_ NBz3.out _; refine blk_far ?_ NBz3.out _; refine blk_far ?_ NBz3.out _; exact BKz2.out⟩, ⟨by refine blk_far ?_ NBz4.out _; refine blk_far ?_ NBz4.out _; refine blk_far ?_ NBz4.out _; refine blk_far ?_ NBz4.out _; exact BKz0.out⟩, ⟨by refine blk_put (cs := #[.int .i64 tz4, .int .i64 tz6, .int .i64 tz7, .slice none 0 0]) ?_ 3 _ rfl; refine blk_put (cs := #[.int .i64 tz4, .int .i64 tz6, .int .i64 0, .slice none 0 0]) ?_ 2 _ rfl; refine blk_put (cs := #[.int .i64 tz4, .int .i64 0, .int .i64 0, .slice none 0 0]) ?_ 1 _ rfl; refine blk_put (cs := #[.int .i64 0, .int .i64 0, .int .i64 0, .slice none 0 0]) ?_ 0 _ rfl; exact BKz1.out⟩, ⟨by repeat (with_reducible first | exact HB.out | refine below_set ?_ GEz3.out)⟩⟩
   case round =>
    clear H'
    obtain ⟨x24_2, xz6, xz5, xz4, xz0, xz1, xz2, xz3, u16011003, rfl, HA, HK2, HOz0, BKz2, BKz0, BKz1, HB⟩ := hrel
    cases gk with
    | zero => exact absurd HA.out (by simp [impl_RunSteps.l0])
    | succ k2 =>
     have H := HA.out
     clear HA
     simp only [impl_RunSteps.l0] at H
     by_cases c26 : x24_2 < (l1.length : Int)
     ·rw [if_pos c26] at H
      have c26b0 : decide (x24_2 < (l1.length : Int)) = true := decide_eq_true c26
      clear c26
      by_cases c27 : 0 ≤ x24_2
      ·rw [if_pos c27] at H
       have c27b0 : decide (0 ≤ x24_2) = true := decide_eq_true c27
       clear c27
       by_cases c28 : x24_2 < (l1.length : Int)
       ·rw [if_pos c28] at H
        have c28b0 : decide (x24_2 < (l1.length : Int)) = true := decide_eq_true c28
        clear c28
        replace H := Option.bind_eq_some_iff.mp H
        obtain ⟨⟨tz0, tz1, tz2, tz3, tz9⟩, A290, H⟩ := H
        replace H : (if tz9 = true then (impl_RunSteps.l0 k2 l1 l1 (l1.length : Int) (wrap64 (x24_2 + 1)) tz0 tz1 tz2 tz3) else (some (xz0, xz1, xz2, xz3, x24_2))) = some (r1, r2, r3, r4, r5) := H
        have A29 := mk A290
        clear A290
        by_cases c30 : tz9 = true
        ·subst c30
         have H1 : (impl_RunSteps.l0 k2 l1 l1 (l1.length : Int) (wrap64 (x24_2 + 1)) tz0 tz1 tz2 tz3) = some (r1, r2, r3, r4, r5) := by rw [if_pos rfl] at H; exact H
         clear H
         have H := H1
         clear H1
         have H' := mk H
         clear H
         have p16011 : 0 ≤ (x24_2 : Int) := of_decide_eq_true (by (with_reducible assumption))
         have q16011 : x24_2 < (l1.length : Int) := of_decide_eq_true (by (with_reducible assumption))
         obtain ⟨ad16011, Az0, cz0, e16011, hx16011_0, hx16011_1, hx16011_2, hx16011_3, hx16011_4, hx16011_5, hl16011_5, hi16011_5⟩ := at_T43 HR1.out x24_2 p16011 q16011
         cases e16011
         replace hx16011_0 := bc HB.out hx16011_0
         replace hx16011_1 := bc HB.out hx16011_1
         replace hx16011_2 := bc HB.out hx16011_2
         replace hx16011_3 := bc HB.out hx16011_3
         replace hx16011_4 := bc HB.out hx16011_4
         replace hx16011_5 := bc HB.out hx16011_5
         have HR16011_5 := mk hi16011_5
         have HC16011_5 := mk hl16011_5
         clear hi16011_5 hl16011_5
         replace p16011 := eq_true p16011
         replace q16011 := eq_true q16011
         go_wp2_with (first | ((with_reducible refine gate_dst (N := 8) rfl ?_); (try (refine gate_guard (by rfl) ?_; dsimp only)); refine box_event (by rfl) (N := 8) (by rfl) (cs := #[.int .i64 0, .int .i64 0, .int .i64 0, .int .i64 0, .int .i64 0, .slice none 0 0]) (t := 43) (by go_simp; done) ?_; intro gbz0 hg w31 hbox hb; replace HOz0 := mk (Kd.R_below HOz0.out hb); have BKz3 := mk (hbox); have GEz0 := mk ((by rw [hg]; exact (below_size HB.out) : w.heap.size ≤ gbz0)); replace HB := mk (below_step HB.out hb); have NBz1 := mk ((by rw [hg]; exact Nat.ne_of_lt (blk_lt BKz2.out) : gbz4 ≠ gbz0)); replace BKz2 := mk (blk_below BKz2.out hb); have NBz2 := mk ((by rw [hg]; exact Nat.ne_of_lt (blk_lt BKz0.out) : gbz2 ≠ gbz0)); replace BKz0 := mk (blk_below BKz0.out hb); have NBz0 := mk ((by rw [hg]; exact Nat.ne_of_lt (blk_lt BKz1.out) : gbz1 ≠ gbz0)); replace BKz1 := mk (blk_below BKz1.out hb); clear hb hbox hg; have hnc34 := NBz0.out; obtain ⟨hcz35_0, hcz35_1, hcz35_2, hcz35_3, hcz35_4, hcz35_5, hfz35_0, hfz35_1, hfz35_2, hfz35_3, hfz35_4, hfz35_5⟩ := c6 BKz3.out; have hnb36 := NBz10.out; have hnc36 := NBz3.out; have hnb37 := NBz11.out; have hnc37 := NBz4.out; obtain ⟨hcz38_0, hcz38_1, hcz38_2, -⟩ := c4 BKz1.out; have hcz38_3 : w31.cell? ⟨gbz1, 3, none⟩ = some u16011003 := (blk_cell BKz1.out 3).trans rfl; obtain ⟨Ao39, co39, eo39⟩ := Kd.R_slice HOz0.out; subst eo39) | ((with_reducible refine gate_callee (f := 45) rfl ?_); refine goesL_ (some 32) rfl rfl Try.func45 (by kernel_rfl) rfl #[.agg #[.int .i64 xz0, .int .i64 xz1, .int .i64 xz2, .slice Ao39 xz3.length co39], .agg #[.int .i64 ((rd_T43 l1 x24_2).f0), .int .i64 ((rd_T43 l1 x24_2).f1.f0), .int .i64 ((rd_T43 l1 x24_2).f1.f1), .int .i64 ((rd_T43 l1 x24_2).f1.f2), .int .i64 ((rd_T43 l1 x24_2).f1.f3), .slice Az0 ((rd_T43 l1 x24_2).f2).length cz0]] rfl (by (try simp only [List.map_toArray, List.map_cons, List.map_nil]); rfl) ?_; (with_reducible refine (impl_doStep.calls xz0 xz1 xz2 _ _ xz3 ((rd_T43 l1 x24_2).f0) ((rd_T43 l1 x24_2).f1.f0) ((rd_T43 l1 x24_2).f1.f1) ((rd_T43 l1 x24_2).f1.f2) ((rd_T43 l1 x24_2).f1.f3) _ _ ((rd_T43 l1 x24_2).f2) tz0 tz1 tz2 tz3 true _ ?side1 ?side2 ?side3 ?side4 A29.out).mono ?_); (case side1 => refine (Kd.R_reads' (e := 3) (base := w.heap.size) (ok := fun k_ => True) (n := xz3.length) (c := co39) ?_).2.2; exact (by exact (Kd.R_mono (Kd.R_far (p := ⟨gbz0, 5, none⟩) (Kd.R_far (p := ⟨gbz0, 4, none⟩) (Kd.R_far (p := ⟨gbz0, 3, none⟩) (Kd.R_far (p := ⟨gbz0, 2, none⟩) (Kd.R_far (p := ⟨gbz0, 1, none⟩) (Kd.R_far (p := ⟨gbz0, 0, none⟩) (Kd.R_types HOz0.out BKz3.out (by decide)) (fun _ hk => hk.2) (.int .i64 ((rd_T43 l1 x24_2).f0))) (fun _ hk => hk.2) (.int .i64 ((rd_T43 l1 x24_2).f1.f0))) (fun _ hk => hk.2) (.int .i64 ((rd_T43 l1 x24_2).f1.f1))) (fun _ hk => hk.2) (.int .i64 ((rd_T43 l1 x24_2).f1.f2))) (fun _ hk => hk.2) (.int .i64 ((rd_T43 l1 x24_2).f1.f3))) (fun _ hk => hk.2) (.slice Az0 ((rd_T43 l1 x24_2).f2).length cz0)) (fun _ h_ => h_.1)))); (case side2 => exact (Kd.R_reads' HOz0.out).2.1); (case side3 => exact Kd.C_below HR16011_5.out (by repeat (with_reducible first | exact HB.out | refine below_set ?_ GEz0.out))); (case side4 => exact HC16011_5.out); rintro e w40 ⟨vz0, rfl, ho0, hb⟩; refine ⟨_, rfl, ?_⟩; have HOz1 := mk (Kd.R_lower (Kd.R_new' ho0 (Kd.R_lt (by exact (Kd.R_mono (Kd.R_far (p := ⟨gbz0, 5, none⟩) (Kd.R_far (p := ⟨gbz0, 4, none⟩) (Kd.R_far (p := ⟨gbz0, 3, none⟩) (Kd.R_far (p := ⟨gbz0, 2, none⟩) (Kd.R_far (p := ⟨gbz0, 1, none⟩) (Kd.R_far (p := ⟨gbz0, 0, none⟩) (Kd.R_types HOz0.out BKz3.out (by decide)) (fun _ hk => hk.2) (.int .i64 ((rd_T43 l1 x24_2).f0))) (fun _ hk => hk.2) (.int .i64 ((rd_T43 l1 x24_2).f1.f0))) (fun _ hk => hk.2) (.int .i64 ((rd_T43 l1 x24_2).f1.f1))) (fun _ hk => hk.2) (.int .i64 ((rd_T43 l1 x24_2).f1.f2))) (fun _ hk => hk.2) (.int .i64 ((rd_T43 l1 x24_2).f1.f3))) (fun _ hk => hk.2) (.slice Az0 ((rd_T43 l1 x24_2).f2).length cz0)) (fun _ h_ => h_.1))))) (below_size (by repeat (with_reducible first | exact HB.out | refine below_set ?_ GEz0.out)))); replace HOz0 := mk (Kd.R_elder' (by exact (Kd.R_mono (Kd.R_far (p := ⟨gbz0, 5, none⟩) (Kd.R_far (p := ⟨gbz0, 4, none⟩) (Kd.R_far (p := ⟨gbz0, 3, none⟩) (Kd.R_far (p := ⟨gbz0, 2, none⟩) (Kd.R_far (p := ⟨gbz0, 1, none⟩) (Kd.R_far (p := ⟨gbz0, 0, none⟩) (Kd.R_types HOz0.out BKz3.out (by decide)) (fun _ hk => hk.2) (.int .i64 ((rd_T43 l1 x24_2).f0))) (fun _ hk => hk.2) (.int .i64 ((rd_T43 l1 x24_2).f1.f0))) (fun _ hk => hk.2) (.int .i64 ((rd_T43 l1 x24_2).f1.f1))) (fun _ hk => hk.2) (.int .i64 ((rd_T43 l1 x24_2).f1.f2))) (fun _ hk => hk.2) (.int .i64 ((rd_T43 l1 x24_2).f1.f3))) (fun _ hk => hk.2) (.slice Az0 ((rd_T43 l1 x24_2).f2).length cz0)) (fun _ h_ => h_.1))) (Kd.R_base ho0) hb); replace BKz2 := mk (blk_below (g := gbz4) (o := .cells #[.int .i64 a0_0, .int .i64 a0_1, .int .i64 a0_2, .slice A0_3 l0_3.length c0_3] 28 (0, 0)) (by refine blk_far ?_ NBz1.out _; refine blk_far ?_ NBz1.out _; refine blk_far ?_ NBz1.out _; refine blk_far ?_ NBz1.out _; refine blk_far ?_ NBz1.out _; refine blk_far ?_ NBz1.out _; exact BKz2.out) hb); replace BKz0 := mk (blk_below (g := gbz2) (o := .cells #[.int .i64 xz6, .int .i64 xz5, .int .i64 xz4, .slice none 0 0] 28 (0, 0)) (by refine blk_far ?_ NBz2.out _; refine blk_far ?_ NBz2.out _; refine blk_far ?_ NBz2.out _; refine blk_far ?_ NBz2.out _; refine blk_far ?_ NBz2.out _; refine blk_far ?_ NBz2.out _; exact BKz0.out) hb); replace BKz1 := mk (blk_below (g := gbz1) (o := .cells #[.int .i64 xz0, .int .i64 xz1, .int .i64 xz2, .slice Ao39 xz3.length co39] 28 (0, 0)) (by refine blk_far ?_ NBz0.out _; refine blk_far ?_ NBz0.out _; refine blk_far ?_ NBz0.out _; refine blk_far ?_ NBz0.out _; refine blk_far ?_ NBz0.out _; refine blk_far ?_ NBz0.out _; exact BKz1.out) hb); replace BKz3 := mk (blk_below (g := gbz0) (o := .cells #[.int .i64 ((rd_T43 l1 x24_2).f0), .int .i64 ((rd_T43 l1 x24_2).f1.f0), .int .i64 ((rd_T43 l1 x24_2).f1.f1), .int .i64 ((rd_T43 l1 x24_2).f1.f2), .int .i64 ((rd_T43 l1 x24_2).f1.f3), .slice Az0 ((rd_T43 l1 x24_2).f2).length cz0] 43 (0, 0)) (by refine blk_put (cs := #[.int .i64 ((rd_T43 l1 x24_2).f0), .int .i64 ((rd_T43 l1 x24_2).f1.f0), .int .i64 ((rd_T43 l1 x24_2).f1.f1), .int .i64 ((rd_T43 l1 x24_2).f1.f2), .int .i64 ((rd_T43 l1 x24_2).f1.f3), .slice none 0 0]) ?_ 5 _ rfl; refine blk_put (cs := #[.int .i64 ((rd_T43 l1 x24_2).f0), .int .i64 ((rd_T43 l1 x24_2).f1.f0), .int .i64 ((rd_T43 l1 x24_2).f1.f1), .int .i64 ((rd_T43 l1 x24_2).f1.f2), .int .i64 0, .slice none 0 0]) ?_ 4 _ rfl; refine blk_put (cs := #[.int .i64 ((rd_T43 l1 x24_2).f0), .int .i64 ((rd_T43 l1 x24_2).f1.f0), .int .i64 ((rd_T43 l1 x24_2).f1.f1), .int .i64 0, .int .i64 0, .slice none 0 0]) ?_ 3 _ rfl; refine blk_put (cs := #[.int .i64 ((rd_T43 l1 x24_2).f0), .int .i64 ((rd_T43 l1 x24_2).f1.f0), .int .i64 0, .int .i64 0, .int .i64 0, .slice none 0 0]) ?_ 2 _ rfl; refine blk_put (cs := #[.int .i64 ((rd_T43 l1 x24_2).f0), .int .i64 0, .int .i64 0, .int .i64 0, .int .i64 0, .slice none 0 0]) ?_ 1 _ rfl; refine blk_put (cs := #[.int .i64 0, .int .i64 0, .int .i64 0, .int .i64 0, .int .i64 0, .slice none 0 0]) ?_ 0 _ rfl; exact BKz3.out) hb); replace HB := mk (below_step (by repeat (with_reducible first | exact HB.out | refine below_set ?_ GEz0.out)) hb); (try clear hb); (try clear ho0)) | ((with_reducible refine gate_dst (N := 9) rfl ?_); (try (refine gate_guard (by rfl) ?_; dsimp only)); refine box_event (by rfl) (N := 9) (by rfl) (cs := #[.int .i64 0, .int .i64 0, .int .i64 0, .slice none 0 0]) (t := 28) (by go_simp; done) ?_; intro gbz3 hg w41 hbox hb; have n0_ := mk (Kd.R_below HOz0.out hb); have n1_ := mk (Kd.R_below HOz1.out hb); have n2_ := mk (blk_below BKz2.out hb); have n3_ := mk (blk_below BKz0.out hb); have n4_ := mk (blk_below BKz1.out hb); have n6_ := mk (below_step HB.out hb); have n7_ := mk (hbox); have n9_ := mk ((by rw [hg]; exact (below_size HB.out) : w.heap.size ≤ gbz3)); have n10_ := mk ((by rw [hg]; exact Nat.ne_of_lt (blk_lt BKz2.out) : gbz4 ≠ gbz3)); have n12_ := mk ((by rw [hg]; exact Nat.ne_of_lt (blk_lt BKz0.out) : gbz2 ≠ gbz3)); have n14_ := mk ((by rw [hg]; exact Nat.ne_of_lt (blk_lt BKz1.out) : gbz1 ≠ gbz3)); have n16_ := mk ((by rw [hg]; exact Nat.ne_of_lt (blk_lt BKz3.out) : gbz0 ≠ gbz3)); have n17_ := mk ((by rw [hg]; exact Nat.ne_of_gt (blk_lt BKz3.out) : gbz3 ≠ gbz0)); clear HOz0; clear HOz1; clear BKz2; clear BKz0; clear BKz1; clear BKz3; clear HB; have HOz0 := n0_; have HOz1 := n1_; have BKz2 := n2_; have BKz0 := n3_; have BKz1 := n4_; have HB := n6_; have BKz4 := n7_; have GEz2 := n9_; have NBz7 := n10_; have NBz5 := n12_; have NBz6 := n14_; have NBz8 := n16_; have NBz9 := n17_; clear hb hbox hg; have hnc44 := NBz6.out; have hnb45 := NBz9.out; have hnc45 := NBz8.out; obtain ⟨hcz46_0, hcz46_1, hcz46_2, hcz46_3, hfz46_0, hfz46_1, hfz46_2, hfz46_3⟩ := c4 BKz4.out; obtain ⟨Ao47, co47, eo47⟩ := Kd.R_slice HOz1.out; subst eo47; obtain ⟨hcz48_0, hcz48_1, hcz48_2, hcz48_3, hfz48_0, hfz48_1, hfz48_2, hfz48_3⟩ := c4 BKz1.out))
         go_roundg k2
         case measure => have := HJ2.out; have := HK2.out; omega
         case rel => exact ⟨(wrap64 (x24_2 + 1)), (xz6), (xz5), (xz4), (tz0), (tz1), (tz2), (tz3), (.slice Ao47 tz3.length co47), (by rfl), H', ⟨by have := HJ2.out; have := HK2.out; omega⟩, ⟨by exact Kd.R_mono (Kd.R_far (p := ⟨gbz1, 3, none⟩) (Kd.R_far (p := ⟨gbz1, 2, none⟩) (Kd.R_far (p := ⟨gbz1, 1, none⟩) (Kd.R_far (p := ⟨gbz1, 0, none⟩) (Kd.R_far (p := ⟨gbz3, 3, none⟩) (Kd.R_far (p := ⟨gbz3, 2, none⟩) (Kd.R_far (p := ⟨gbz3, 1, none⟩) (Kd.R_far (p := ⟨gbz3, 0, none⟩) (Kd.R_types (Kd.R_types HOz1.out BKz4.out (by decide)) BKz1.out (by decide)) (fun _ hk => hk.1.2) (.int .i64 tz0)) (fun _ hk => hk.1.2) (.int .i64 tz1)) (fun _ hk => hk.1.2) (.int .i64 tz2)) (fun _ hk => hk.1.2) (.slice Ao47 tz3.length co47)) (fun _ hk => hk.2) (.int .i64 tz0)) (fun _ hk => hk.2) (.int .i64 tz1)) (fun _ hk => hk.2) (.int .i64 tz2)) (fun _ hk => hk.2) (.slice Ao47 tz3.length co47)) (fun _ hk => trivial)⟩, ⟨by refine blk_far ?_ NBz3.out _; refine blk_far ?_ NBz3.out _; refine blk_far ?_ NBz3.out _; refine blk_far ?_ NBz3.out _; refine blk_far ?_ NBz7.out _; refine blk_far ?_ NBz7.out _; refine blk_far ?_ NBz7.out _; refine blk_far ?_ NBz7.out _; exact BKz2.out⟩, ⟨by refine blk_far ?_ NBz4.out _; refine blk_far ?_ NBz4.out _; refine blk_far ?_ NBz4.out _; refine blk_far ?_ NBz4.out _; refine blk_far ?_ NBz5.out _; refine blk_far ?_ NBz5.out _; refine blk_far ?_ NBz5.out _; refine blk_far ?_ NBz5.out _; exact BKz0.out⟩, ⟨by refine blk_put (cs := #[.int .i64 tz0, .int .i64 tz1, .int .i64 tz2, .slice Ao39 xz3.length co39]) ?_ 3 _ rfl; refine blk_put (cs := #[.int .i64 tz0, .int .i64 tz1, .int .i64 xz2, .slice Ao39 xz3.length co39]) ?_ 2 _ rfl; refine blk_put (cs := #[.int .i64 tz0, .int .i64 xz1, .int .i64 xz2, .slice Ao39 xz3.length co39]) ?_ 1 _ rfl; refine blk_put (cs := #[.int .i64 xz0, .int .i64 xz1, .int .i64 xz2, .slice Ao39 xz3.length co39]) ?_ 0 _ rfl; refine blk_far ?_ NBz6.out _; refine blk_far ?_ NBz6.out _; refine blk_far ?_ NBz6.out _; refine blk_far ?_ NBz6.out _; exact BKz1.out⟩, ⟨by repeat (with_reducible first | exact HB.out | refine below_set ?_ GEz3.out | refine below_set ?_ GEz2.out)⟩⟩
        replace c30 := Bool.eq_false_iff.mpr c30
        subst c30
        have H1 : (some (xz0, xz1, xz2, xz3, x24_2)) = some (r1, r2, r3, r4, r5) := by rw [if_neg (show ¬ (false = true) by decide)] at H; exact H
        clear H
        have H := H1
        clear H1
        simp only [Option.some.injEq, Prod.mk.injEq] at H
        obtain ⟨rfl, rfl, rfl, rfl, rfl⟩ := H
        have p16011 : 0 ≤ (x24_2 : Int) := of_decide_eq_true (by (with_reducible assumption))
        have q16011 : x24_2 < (l1.length : Int) := of_decide_eq_true (by (with_reducible assumption))
        obtain ⟨ad16011, Az0, cz0, e16011, hx16011_0, hx16011_1, hx16011_2, hx16011_3, hx16011_4, hx16011_5, hl16011_5, hi16011_5⟩ := at_T43 HR1.out x24_2 p16011 q16011
        cases e16011
        replace hx16011_0 := bc HB.out hx16011_0
        replace hx16011_1 := bc HB.out hx16011_1
        replace hx16011_2 := bc HB.out hx16011_2
        replace hx16011_3 := bc HB.out hx16011_3
        replace hx16011_4 := bc HB.out hx16011_4
        replace hx16011_5 := bc HB.out hx16011_5
        have HR16011_5 := mk hi16011_5
        have HC16011_5 := mk hl16011_5
        clear hi16011_5 hl16011_5
        replace p16011 := eq_true p16011
        replace q16011 := eq_true q16011
        go_wp2_with (first | ((with_reducible refine gate_dst (N := 8) rfl ?_); (try (refine gate_guard (by rfl) ?_; dsimp only)); refine box_event (by rfl) (N := 8) (by rfl) (cs := #[.int .i64 0, .int .i64 0, .int .i64 0, .int .i64 0, .int .i64 0, .slice none 0 0]) (t := 43) (by go_simp; done) ?_; intro gbz0 hg w49 hbox hb; replace HOz0 := mk (Kd.R_below HOz0.out hb); have BKz3 := mk (hbox); have GEz0 := mk ((by rw [hg]; exact (below_size HB.out) : w.heap.size ≤ gbz0)); replace HB := mk (below_step HB.out hb); have NBz1 := mk ((by rw [hg]; exact Nat.ne_of_lt (blk_lt BKz2.out) : gbz4 ≠ gbz0)); replace BKz2 := mk (blk_below BKz2.out hb); have NBz2 := mk ((by rw [hg]; exact Nat.ne_of_lt (blk_lt BKz0.out) : gbz2 ≠ gbz0)); replace BKz0 := mk (blk_below BKz0.out hb); have NBz0 := mk ((by rw [hg]; exact Nat.ne_of_lt (blk_lt BKz1.out) : gbz1 ≠ gbz0)); replace BKz1 := mk (blk_below BKz1.out hb); clear hb hbox hg; have hnc52 := NBz0.out; obtain ⟨hcz53_0, hcz53_1, hcz53_2, hcz53_3, hcz53_4, hcz53_5, hfz53_0, hfz53_1, hfz53_2, hfz53_3, hfz53_4, hfz53_5⟩ := c6 BKz3.out; have hnb54 := NBz10.out; have hnc54 := NBz3.out; have hnb55 := NBz11.out; have hnc55 := NBz4.out; obtain ⟨hcz56_0, hcz56_1, hcz56_2, -⟩ := c4 BKz1.out; have hcz56_3 : w49.cell? ⟨gbz1, 3, none⟩ = some u16011003 := (blk_cell BKz1.out 3).trans rfl; obtain ⟨Ao57, co57, eo57⟩ := Kd.R_slice HOz0.out; subst eo57) | ((with_reducible refine gate_callee (f := 45) rfl ?_); refine goesL_ (some 32) rfl rfl Try.func45 (by kernel_rfl) rfl #[.agg #[.int .i64 xz0, .int .i64 xz1, .int .i64 xz2, .slice Ao57 xz3.length co57], .agg #[.int .i64 ((rd_T43 l1 x24_2).f0), .int .i64 ((rd_T43 l1 x24_2).f1.f0), .int .i64 ((rd_T43 l1 x24_2).f1.f1), .int .i64 ((rd_T43 l1 x24_2).f1.f2), .int .i64 ((rd_T43 l1 x24_2).f1.f3), .slice Az0 ((rd_T43 l1 x24_2).f2).length cz0]] rfl (by (try simp only [List.map_toArray, List.map_cons, List.map_nil]); rfl) ?_; (with_reducible refine (impl_doStep.calls xz0 xz1 xz2 _ _ xz3 ((rd_T43 l1 x24_2).f0) ((rd_T43 l1 x24_2).f1.f0) ((rd_T43 l1 x24_2).f1.f1) ((rd_T43 l1 x24_2).f1.f2) ((rd_T43 l1 x24_2).f1.f3) _ _ ((rd_T43 l1 x24_2).f2) tz0 tz1 tz2 tz3 false _ ?side1 ?side2 ?side3 ?side4 A29.out).mono ?_); (case side1 => refine (Kd.R_reads' (e := 3) (base := w.heap.size) (ok := fun k_ => True) (n := xz3.length) (c := co57) ?_).2.2; exact (by exact (Kd.R_mono (Kd.R_far (p := ⟨gbz0, 5, none⟩) (Kd.R_far (p := ⟨gbz0, 4, none⟩) (Kd.R_far (p := ⟨gbz0, 3, none⟩) (Kd.R_far (p := ⟨gbz0, 2, none⟩) (Kd.R_far (p := ⟨gbz0, 1, none⟩) (Kd.R_far (p := ⟨gbz0, 0, none⟩) (Kd.R_types HOz0.out BKz3.out (by decide)) (fun _ hk => hk.2) (.int .i64 ((rd_T43 l1 x24_2).f0))) (fun _ hk => hk.2) (.int .i64 ((rd_T43 l1 x24_2).f1.f0))) (fun _ hk => hk.2) (.int .i64 ((rd_T43 l1 x24_2).f1.f1))) (fun _ hk => hk.2) (.int .i64 ((rd_T43 l1 x24_2).f1.f2))) (fun _ hk => hk.2) (.int .i64 ((rd_T43 l1 x24_2).f1.f3))) (fun _ hk => hk.2) (.slice Az0 ((rd_T43 l1 x24_2).f2).length cz0)) (fun _ h_ => h_.1)))); (case side2 => exact (Kd.R_reads' HOz0.out).2.1); (case side3 => exact Kd.C_below HR16011_5.out (by repeat (with_reducible first | exact HB.out | refine below_set ?_ GEz0.out))); (case side4 => exact HC16011_5.out); rintro e w58 ⟨vz0, rfl, ho0, hb⟩; refine ⟨_, rfl, ?_⟩; have HOz1 := mk (Kd.R_lower (Kd.R_new' ho0 (Kd.R_lt (by exact (Kd.R_mono (Kd.R_far (p := ⟨gbz0, 5, none⟩) (Kd.R_far (p := ⟨gbz0, 4, none⟩) (Kd.R_far (p := ⟨gbz0, 3, none⟩) (Kd.R_far (p := ⟨gbz0, 2, none⟩) (Kd.R_far (p := ⟨gbz0, 1, none⟩) (Kd.R_far (p := ⟨gbz0, 0, none⟩) (Kd.R_types HOz0.out BKz3.out (by decide)) (fun _ hk => hk.2) (.int .i64 ((rd_T43 l1 x24_2).f0))) (fun _ hk => hk.2) (.int .i64 ((rd_T43 l1 x24_2).f1.f0))) (fun _ hk => hk.2) (.int .i64 ((rd_T43 l1 x24_2).f1.f1))) (fun _ hk => hk.2) (.int .i64 ((rd_T43 l1 x24_2).f1.f2))) (fun _ hk => hk.2) (.int .i64 ((rd_T43 l1 x24_2).f1.f3))) (fun _ hk => hk.2) (.slice Az0 ((rd_T43 l1 x24_2).f2).length cz0)) (fun _ h_ => h_.1))))) (below_size (by repeat (with_reducible first | exact HB.out | refine below_set ?_ GEz0.out)))); replace HOz0 := mk (Kd.R_elder' (by exact (Kd.R_mono (Kd.R_far (p := ⟨gbz0, 5, none⟩) (Kd.R_far (p := ⟨gbz0, 4, none⟩) (Kd.R_far (p := ⟨gbz0, 3, none⟩) (Kd.R_far (p := ⟨gbz0, 2, none⟩) (Kd.R_far (p := ⟨gbz0, 1, none⟩) (Kd.R_far (p := ⟨gbz0, 0, none⟩) (Kd.R_types HOz0.out BKz3.out (by decide)) (fun _ hk => hk.2) (.int .i64 ((rd_T43 l1 x24_2).f0))) (fun _ hk => hk.2) (.int .i64 ((rd_T43 l1 x24_2).f1.f0))) (fun _ hk => hk.2) (.int .i64 ((rd_T43 l1 x24_2).f1.f1))) (fun _ hk => hk.2) (.int .i64 ((rd_T43 l1 x24_2).f1.f2))) (fun _ hk => hk.2) (.int .i64 ((rd_T43 l1 x24_2).f1.f3))) (fun _ hk => hk.2) (.slice Az0 ((rd_T43 l1 x24_2).f2).length cz0)) (fun _ h_ => h_.1))) (Kd.R_base ho0) hb); replace BKz2 := mk (blk_below (g := gbz4) (o := .cells #[.int .i64 a0_0, .int .i64 a0_1, .int .i64 a0_2, .slice A0_3 l0_3.length c0_3] 28 (0, 0)) (by refine blk_far ?_ NBz1.out _; refine blk_far ?_ NBz1.out _; refine blk_far ?_ NBz1.out _; refine blk_far ?_ NBz1.out _; refine blk_far ?_ NBz1.out _; refine blk_far ?_ NBz1.out _; exact BKz2.out) hb); replace BKz0 := mk (blk_below (g := gbz2) (o := .cells #[.int .i64 xz6, .int .i64 xz5, .int .i64 xz4, .slice none 0 0] 28 (0, 0)) (by refine blk_far ?_ NBz2.out _; refine blk_far ?_ NBz2.out _; refine blk_far ?_ NBz2.out _; refine blk_far ?_ NBz2.out _; refine blk_far ?_ NBz2.out _; refine blk_far ?_ NBz2.out _; exact BKz0.out) hb); replace BKz1 := mk (blk_below (g := gbz1) (o := .cells #[.int .i64 xz0, .int .i64 xz1, .int .i64 xz2, .slice Ao57 xz3.length co57] 28 (0, 0)) (by refine blk_far ?_ NBz0.out _; refine blk_far ?_ NBz0.out _; refine blk_far ?_ NBz0.out _; refine blk_far ?_ NBz0.out _; refine blk_far ?_ NBz0.out _; refine blk_far ?_ NBz0.out _; exact BKz1.out) hb); replace BKz3 := mk (blk_below (g := gbz0) (o := .cells #[.int .i64 ((rd_T43 l1 x24_2).f0), .int .i64 ((rd_T43 l1 x24_2).f1.f0), .int .i64 ((rd_T43 l1 x24_2).f1.f1), .int .i64 ((rd_T43 l1 x24_2).f1.f2), .int .i64 ((rd_T43 l1 x24_2).f1.f3), .slice Az0 ((rd_T43 l1 x24_2).f2).length cz0] 43 (0, 0)) (by refine blk_put (cs := #[.int .i64 ((rd_T43 l1 x24_2).f0), .int .i64 ((rd_T43 l1 x24_2).f1.f0), .int .i64 ((rd_T43 l1 x24_2).f1.f1), .int .i64 ((rd_T43 l1 x24_2).f1.f2), .int .i64 ((rd_T43 l1 x24_2).f1.f3), .slice none 0 0]) ?_ 5 _ rfl; refine blk_put (cs := #[.int .i64 ((rd_T43 l1 x24_2).f0), .int .i64 ((rd_T43 l1 x24_2).f1.f0), .int .i64 ((rd_T43 l1 x24_2).f1.f1), .int .i64 ((rd_T43 l1 x24_2).f1.f2), .int .i64 0, .slice none 0 0]) ?_ 4 _ rfl; refine blk_put (cs := #[.int .i64 ((rd_T43 l1 x24_2).f0), .int .i64 ((rd_T43 l1 x24_2).f1.f0), .int .i64 ((rd_T43 l1 x24_2).f1.f1), .int .i64 0, .int .i64 0, .slice none 0 0]) ?_ 3 _ rfl; refine blk_put (cs := #[.int .i64 ((rd_T43 l1 x24_2).f0), .int .i64 ((rd_T43 l1 x24_2).f1.f0), .int .i64 0, .int .i64 0, .int .i64 0, .slice none 0 0]) ?_ 2 _ rfl; refine blk_put (cs := #[.int .i64 ((rd_T43 l1 x24_2).f0), .int .i64 0, .int .i64 0, .int .i64 0, .int .i64 0, .slice none 0 0]) ?_ 1 _ rfl; refine blk_put (cs := #[.int .i64 0, .int .i64 0, .int .i64 0, .int .i64 0, .int .i64 0, .slice none 0 0]) ?_ 0 _ rfl; exact BKz3.out) hb); replace HB := mk (below_step (by repeat (with_reducible first | exact HB.out | refine below_set ?_ GEz0.out)) hb); (try clear hb); (try clear ho0)) | ((with_reducible refine gate_dst (N := 9) rfl ?_); (try (refine gate_guard (by rfl) ?_; dsimp only)); refine box_event (by rfl) (N := 9) (by rfl) (cs := #[.int .i64 0, .int .i64 0, .int .i64 0, .slice none 0 0]) (t := 28) (by go_simp; done) ?_; intro gbz3 hg w59 hbox hb; have n0_ := mk (Kd.R_below HOz0.out hb); have n1_ := mk (Kd.R_below HOz1.out hb); have n3_ := mk (blk_below BKz0.out hb); have n4_ := mk (blk_below BKz1.out hb); have n6_ := mk (below_step HB.out hb); have n7_ := mk (hbox); have n9_ := mk ((by rw [hg]; exact (below_size HB.out) : w.heap.size ≤ gbz3)); have n12_ := mk ((by rw [hg]; exact Nat.ne_of_lt (blk_lt BKz0.out) : gbz2 ≠ gbz3)); have n14_ := mk ((by rw [hg]; exact Nat.ne_of_lt (blk_lt BKz1.out) : gbz1 ≠ gbz3)); have n15_ := mk ((by rw [hg]; exact Nat.ne_of_gt (blk_lt BKz1.out) : gbz3 ≠ gbz1)); have n16_ := mk ((by rw [hg]; exact Nat.ne_of_lt (blk_lt BKz3.out) : gbz0 ≠ gbz3)); have n17_ := mk ((by rw [hg]; exact Nat.ne_of_gt (blk_lt BKz3.out) : gbz3 ≠ gbz0)); clear HOz0; clear HOz1; clear BKz2; clear BKz0; clear BKz1; clear BKz3; clear HB; have HOz0 := n0_; have HOz1 := n1_; have BKz0 := n3_; have BKz1 := n4_; have HB := n6_; have BKz4 := n7_; have GEz2 := n9_; have NBz5 := n12_; have NBz6 := n14_; have NBz14 := n15_; have NBz8 := n16_; have NBz9 := n17_; clear hb hbox hg; have hnc61 := NBz5.out; have hnb62 := NBz14.out; have hnc62 := NBz6.out; have hnb63 := NBz9.out; have hnc63 := NBz8.out; obtain ⟨hcz64_0, hcz64_1, hcz64_2, hcz64_3, hfz64_0, hfz64_1, hfz64_2, hfz64_3⟩ := c4 BKz4.out; obtain ⟨Ao65, co65, eo65⟩ := Kd.R_slice HOz1.out; subst eo65; obtain ⟨hcz66_0, hcz66_1, hcz66_2, hcz66_3, -⟩ := c4 BKz1.out; have hnb67 := NBz13.out; have hnc67 := NBz12.out; obtain ⟨hcz68_0, hcz68_1, hcz68_2, hcz68_3, hfz68_0, hfz68_1, hfz68_2, hfz68_3⟩ := c4 BKz0.out))
        refine bodyPost_ret (results_ct rfl _ _ gbz2 28 #[.int .i64 xz0, .int .i64 xz1, .int .i64 xz2, .slice Ao57 xz3.length co57] (0, 0) _ rfl (by refine blk_put (cs := #[.int .i64 xz0, .int .i64 xz1, .int .i64 xz2, .slice none 0 0]) ?_ 3 _ rfl; refine blk_put (cs := #[.int .i64 xz0, .int .i64 xz1, .int .i64 xz4, .slice none 0 0]) ?_ 2 _ rfl; refine blk_put (cs := #[.int .i64 xz0, .int .i64 xz5, .int .i64 xz4, .slice none 0 0]) ?_ 1 _ rfl; refine blk_put (cs := #[.int .i64 xz6, .int .i64 xz5, .int .i64 xz4, .slice none 0 0]) ?_ 0 _ rfl; refine blk_far ?_ NBz5.out _; refine blk_far ?_ NBz5.out _; refine blk_far ?_ NBz5.out _; refine blk_far ?_ NBz5.out _; exact BKz0.out) Try.underlying28 rfl (by kernel_rfl)) rfl ?_
        exact ⟨_, by rfl, by exact Kd.R_mono (Kd.R_far (p := ⟨gbz2, 3, none⟩) (Kd.R_far (p := ⟨gbz2, 2, none⟩) (Kd.R_far (p := ⟨gbz2, 1, none⟩) (Kd.R_far (p := ⟨gbz2, 0, none⟩) (Kd.R_far (p := ⟨gbz3, 3, none⟩) (Kd.R_far (p := ⟨gbz3, 2, none⟩) (Kd.R_far (p := ⟨gbz3, 1, none⟩) (Kd.R_far (p := ⟨gbz3, 0, none⟩) (Kd.R_types (Kd.R_types HOz0.out BKz4.out (by decide)) BKz0.out (by decide)) (fun _ hk => hk.1.2) (.int .i64 tz0)) (fun _ hk => hk.1.2) (.int .i64 tz1)) (fun _ hk => hk.1.2) (.int .i64 tz2)) (fun _ hk => hk.1.2) (.slice Ao65 tz3.length co65)) (fun _ hk => hk.2) (.int .i64 xz0)) (fun _ hk => hk.2) (.int .i64 xz1)) (fun _ hk => hk.2) (.int .i64 xz2)) (fun _ hk => hk.2) (.slice Ao57 xz3.length co57)) (fun _ hk => trivial), by repeat (with_reducible first | exact HB.out | refine below_set ?_ GEz1.out | refine below_set ?_ GEz2.out)⟩
       rw [if_neg c28] at H
       exact absurd H (by simp)
      rw [if_neg c27] at H
      exact absurd H (by simp)
     rw [if_neg c26] at H
     have c26b0 : decide (x24_2 < (l1.length : Int)) = false := decide_eq_false c26
     clear c26
     simp only [Option.some.injEq, Prod.mk.injEq] at H
     obtain ⟨rfl, rfl, rfl, rfl, rfl⟩ := H
     obtain ⟨hcz71_0, hcz71_1, hcz71_2, -⟩ := c4 BKz1.out
     have hcz71_3 : wr.cell? ⟨gbz1, 3, none⟩ = some u16011003 := (blk_cell BKz1.out 3).trans rfl
     obtain ⟨hcz73_0, hcz73_1, hcz73_2, hcz73_3, hfz73_0, hfz73_1, hfz73_2, hfz73_3⟩ := c4 BKz0.out
     obtain ⟨Ao74, co74, eo74⟩ := Kd.R_slice HOz0.out
     subst eo74
     go_wp2
     refine bodyPost_ret (results_ct rfl _ _ gbz2 28 #[.int .i64 xz0, .int .i64 xz1, .int .i64 xz2, .slice Ao74 xz3.length co74] (0, 0) _ rfl (by refine blk_put (cs := #[.int .i64 xz0, .int .i64 xz1, .int .i64 xz2, .slice none 0 0]) ?_ 3 _ rfl; refine blk_put (cs := #[.int .i64 xz0, .int .i64 xz1, .int .i64 xz4, .slice none 0 0]) ?_ 2 _ rfl; refine blk_put (cs := #[.int .i64 xz0, .int .i64 xz5, .int .i64 xz4, .slice none 0 0]) ?_ 1 _ rfl; refine blk_put (cs := #[.int .i64 xz6, .int .i64 xz5, .int .i64 xz4, .slice none 0 0]) ?_ 0 _ rfl; exact BKz0.out) Try.underlying28 rfl (by kernel_rfl)) rfl ?_
     exact ⟨_, by rfl, by exact Kd.R_mono (Kd.R_far (p := ⟨gbz2, 3, none⟩) (Kd.R_far (p := ⟨gbz2, 2, none⟩) (Kd.R_far (p := ⟨gbz2, 1, none⟩) (Kd.R_far (p := ⟨gbz2, 0, none⟩) (Kd.R_types HOz0.out BKz0.out (by decide)) (fun _ hk => hk.2) (.int .i64 xz0)) (fun _ hk => hk.2) (.int .i64 xz1)) (fun _ hk => hk.2) (.int .i64 xz2)) (fun _ hk => hk.2) (.slice Ao74 xz3.length co74)) (fun _ hk => trivial), by repeat (with_reducible first | exact HB.out | refine below_set ?_ GEz1.out)⟩

end Go.Proofs.Ytgccpcnakkioiaa.Q
