/- A part of the proof that the statement FnPatchImageSaid holds, under no condition of its own: Patches carry all changes: the law FnPatchImage over lists of numbers alone. -/
import Derived.Test.YtbgohbinonkhfaaCFnPatchImage3
import Derived.Test.YtbgohbinonkhfaaCFnPatchImage1
import Derived.Test.YtbgohbinonkhfaaCFnPatchImage2
import Derived.OrdersHeld
import Derived.Deep.RegionHeld
import Derived.RegionTactic
import Derived.BigQuiet
import Derived.Deep.QuietTactic
/- impl.partsOf: the connected parts of a region, as runs. -/
namespace Go.Proofs.Ytbgohbinonkhfaa.Q
open Go.RowKit Go.Proofs.YtbgohbinonkhfaaW.PrintWords Go.Proofs.YtbgohbinonkhfaaW.PrintLast Go.Proofs.YtbgohbinonkhfaaW.PrintMore
attribute [local go_sem] max2_int min2_int max_two min_two max_three min_three max_four min_four
set_option linter.unusedVariables false
set_option linter.unusedSimpArgs false
open Go.Proofs.YtbgohbinonkhfaaW.PrintWords.Aside0 (mk)
set_option maxHeartbeats 12000000
set_option maxRecDepth 100000

noncomputable def partsFrom (g : Nat → Bool) : List Nat → (Nat → Bool) → List (List S47)
 | [], _ => []
 | p :: ps, seen => if seen p = true then partsFrom g ps seen else runsL (comp g p) :: partsFrom g ps (gso (fun x y => seen (y * 16 + x) || comp g p (y * 16 + x)) 256)
def pixRun (r : S47) (x : Nat) : List Nat := (List.range' x (r.f2.toNat - x)).map fun x => r.f0.toNat * 16 + x
def pixels (l : List S47) : List Nat := l.flatMap fun r => pixRun r r.f1.toNat
theorem pixels_drop (l : List S47) (k : Nat) (h : k < l.length) : pixels (l.drop k) = pixRun l[k] l[k].f1.toNat ++ pixels (l.drop (k + 1)) := by
 rw [List.drop_eq_getElem_cons h]; rfl
theorem pixRun_in (r : S47) (x : Nat) (h : (x : Int) < r.f2) : pixRun r x = (r.f0.toNat * 16 + x) :: pixRun r (x + 1) := by
 unfold pixRun
 rw [show r.f2.toNat - x = (r.f2.toNat - (x + 1)) + 1 by omega, List.range'_succ, List.map_cons]
theorem pixRun_end (r : S47) (x : Nat) (h : ¬ (x : Int) < r.f2) : pixRun r x = [] := by
 unfold pixRun
 rw [show r.f2.toNat - x = 0 by omega]; rfl
theorem unseen_add (seen c : Nat → Bool) (p : Nat) (hp : p < 256) (h : seen p = false) (hc : c p = true) : unseen (fun q => seen q || c q) + 1 ≤ unseen seen := by
 have h1 := unseen_set seen p hp h
 have h2 : unseen (fun q => seen q || c q) ≤ unseen (fun q => if q = p then true else seen q) := by
  unfold unseen
  refine List.countP_mono_left (fun q _ hq => ?_)
  have hq' : (!(seen q || c q)) = true := hq
  show (!(if q = p then true else seen q)) = true
  by_cases e : q = p
  ·subst e; rw [hc] at hq'; simp at hq'
  rw [if_neg e]
  cases hs : seen q with
  | false => rfl
  | true => rw [hs] at hq'; simp at hq'
 omega

theorem parts1_calls (g e : Nat → Bool) (x y : Nat) (hx : x < 16) (hy : y < 16) (B1 B2 : Nat) (w : World) (h1 : GridAt w B1 g) (h2 : GridAt w B2 e) :
  Calls Try.prog 103 #[.int .i64 (x : Int), .int .i64 (y : Int), .pointer (some ⟨B1, 0, none⟩), .pointer (some ⟨B2, 0, none⟩)] w fun e_ w' => e_ = .returned (.bool (g (y * 16 + x) || e (y * 16 + x))) ∧ Below w.heap.size w w' := by
 have c1 := h1.cell (y * 16 + x) (by omega)
 have c2 := h2.cell (y * 16 + x) (by omega)
 clear h1 h2
 cases hp : g (y * 16 + x) <;> cases hq : e (y * 16 + x) <;> rw [hp] at c1 <;> rw [hq] at c2
 all_goals
  clear hp hq
  go_enter Try.func103, Try.ntmps103
  go_wp2
  go_ret
  exact ⟨rfl, Below.refl _ _⟩
theorem setRow_keepQ {W : World} {k g : Nat} {o : Obj} (h : W.heap[k]? = some o) (cs : Array Value) (hk : k ≠ g) : (W.setRow g cs).heap[k]? = some o := (setRow_other W g k cs hk).trans h

theorem partsOf_calls (A0 : Option Addr) (c0 : Nat) (l0 : List S47) (w : World) (hr0 : Kd.C k47 w A0 l0.length l0) (hok : ∀ r ∈ l0, 0 ≤ r.f0 ∧ r.f0 < 16 ∧ 0 ≤ r.f1 ∧ r.f2 ≤ 16) :
  Calls Try.prog 75 #[.slice A0 l0.length c0] w fun e w' => ∃ v0_ : Value, e = .returned v0_ ∧ Kd.S (Kd.slice 47 k47) 26 w' w.heap.size (fun _ => True) v0_ (partsFrom (gridF l0) (pixels l0) (fun _ => false)) ∧ Below w.heap.size w w' := by
 have hm : l0.length ≤ 9223372036854775807 := hr0.2.1
 have HR := mk hr0
 have HOK := mk hok
 clear hr0 hok
 have z0 := zero66
 have HSZ := mk (fun g g' : Nat → Bool => show (gc g).size = (gc g').size by rw [gc_size, gc_size])
 have HO := mk (fun g : Nat → Bool => gc_one g)
 have HI := mk (fun g : Nat → Bool => show (Try.prog.info? 75).map (·.size) = some (gc g).size by rw [gc_size]; exact info66)
 obtain ⟨gF, hgF⟩ : ∃ gF, gF = gridF l0 := ⟨_, rfl⟩
 have HGC := mk (gridOf_calls A0 c0 l0 w HR.out HOK.out)
 rw [← hgF] at HGC ⊢
 clear hgF
 go_enter Try.func75, Try.ntmps75
 go_wp2_with (first
  | (go_at_call 57; refine HGC.out.mono ?_; rintro e w1 ⟨rfl, hb1⟩; have HB1 := mk hb1; clear hb1; have HN1 : Aside0 ((w1.alloc (.cells (gc fun _ => false) 75)).heap[w1.heap.size]? = some (.cells (gc fun _ => false) 75 (0, 0))) := mk (blk_new _ _); have HN2 : Aside0 ((((w1.alloc (.cells (gc fun _ => false) 75)).setRow w1.heap.size (gc gF)).alloc (.cells (gc fun _ => false) 75)).heap[w1.heap.size + 1]? = some (.cells (gc fun _ => false) 75 (0, 0))) := mk (by have h := blk_new ((w1.alloc (.cells (gc fun _ => false) 75)).setRow w1.heap.size (gc gF)) (.cells (gc fun _ => false) 75); rw [setRow_size] at h; simp only [World.size_alloc] at h; exact h); have HG2 : Aside0 (GridAt ((((w1.alloc (.cells (gc fun _ => false) 75)).setRow w1.heap.size (gc gF)).alloc (.cells (gc fun _ => false) 75)).setRow (w1.heap.size + 1) (gc fun _ => false)) w1.heap.size gF) := mk (setRow_keepQ (blk_alloc (GridAt.setRow (g := fun _ => false) HN1.out gF) (.cells (gc fun _ => false) 75)) _ (by omega)); have HS2 : Aside0 (GridAt ((((w1.alloc (.cells (gc fun _ => false) 75)).setRow w1.heap.size (gc gF)).alloc (.cells (gc fun _ => false) 75)).setRow (w1.heap.size + 1) (gc fun _ => false)) (w1.heap.size + 1) (fun _ => false)) := mk (GridAt.setRow (g := fun _ => false) HN2.out _); have HB2 := mk (below_setRow (below_alloc (below_setRow (below_alloc HB1.out (.cells (gc fun _ => false) 75)) HB1.out.size (gc gF)) (.cells (gc fun _ => false) 75)) (Nat.le_succ_of_le HB1.out.size) (gc fun _ => false)))
  | ((with_reducible refine wpList_store_row rfl 75 (.tmp 3) (.tmp 11) rfl w1.heap.size (gc gF) ?hx ?hy 75 (gc fun _ => false) HN1.out (HI.out _) (HSZ.out _ _) (HO.out _) ?_); (case hx => rfl); (case hy => rfl))
  | ((with_reducible refine wpList_store_row rfl 75 (.tmp 4) (.tmp 12) rfl (w1.heap.size + 1) (gc fun _ => false) ?hx ?hy 75 (gc fun _ => false) HN2.out (HI.out _) (HSZ.out _ _) (HO.out _) ?_); (case hx => rfl); (case hy => rfl)))
 have HBW := mk HB1.out.size
 obtain ⟨B, hB⟩ : ∃ B, B = w1.heap.size := ⟨_, rfl⟩
 go_loopw [5, 16] (fun v5 v16 W => ∃ (k : Nat) (seen : Nat → Bool) (parts : List (List S47)), v16 = .int .i64 k ∧ k ≤ l0.length ∧
  Aside0 (Kd.S (Kd.slice 47 k47) 26 W w.heap.size (fun _ => True) v5 parts ∧ GridAt W w1.heap.size gF ∧ GridAt W (w1.heap.size + 1) seen ∧ Below w.heap.size w W) ∧
  Aside0 (parts ++ partsFrom gF (pixels (l0.drop k)) seen = partsFrom gF (pixels l0) (fun _ => false) ∧ parts.length + unseen seen ≤ 256)) (fun _ v16 _ => l0.length - (intOf v16).toNat)
 case atStart =>
  have h : Kd.S (Kd.slice 47 k47) 26 _ _ _ _ [] := ⟨fun _ => 0, R_empty (Kd.tag (fun _ => 0) (Kd.slice 47 k47)) 26 w.heap.size ((((w1.alloc (.cells (gc fun _ => false) 75)).setRow w1.heap.size (gc gF)).alloc (.cells (gc fun _ => false) 75)).setRow (w1.heap.size + 1) (gc fun _ => false)) HB2.out.size⟩
  simp only [World.size_alloc, setRow_size] at h
  refine ⟨0, (fun _ => false), [], rfl, by omega, ⟨h, HG2.out.alloc _, HS2.out.alloc _, below_alloc HB2.out _⟩, ⟨rfl, ?_⟩⟩
  have h2 : unseen (fun _ => false) = 256 := by simp [unseen]
  rw [h2]; simp
 case round =>
  obtain ⟨k, seen, parts, rfl, hk, HW, HT⟩ := hrel
  clear HN1 HN2 HG2 HS2 HB2
  obtain ⟨wo, rfl⟩ : ∃ wo : World, wo = wr := ⟨_, rfl⟩
  by_cases hlt : k < l0.length
  ·have hdk : decide ((k : Int) < (l0.length : Int)) = true := by simp; omega
   obtain ⟨ad, e, hx0, hx1, hx2⟩ := at_T47 HR.out (k : Int) (by omega) (by omega)
   cases e
   have er : rd_T47 l0 (k : Int) = l0[k] := by simp [rd_T47, hlt]
   have ho := HOK.out l0[k] (List.getElem_mem hlt)
   have HPD := mk (pixels_drop l0 k hlt)
   rw [er, Int.toNat_natCast] at hx0 hx1 hx2
   clear er
   generalize l0[k] = r at *
   obtain ⟨Y, hY⟩ := Int.eq_ofNat_of_zero_le ho.1
   obtain ⟨F, hF⟩ := Int.eq_ofNat_of_zero_le ho.2.2.1
   have ho2 := ho.2.1
   have ho4 := ho.2.2.2
   clear ho
   rw [hY] at hx0 ho2
   rw [hF] at hx1
   replace hx0 := (HW.out.2.2.2.cell (World.block_lt_of_cell? w _ hx0)).trans hx0
   replace hx1 := (HW.out.2.2.2.cell (World.block_lt_of_cell? w _ hx1)).trans hx1
   replace hx2 := (HW.out.2.2.2.cell (World.block_lt_of_cell? w _ hx2)).trans hx2
   have HY := mk hY
   have HF := mk hF
   clear hY hF
   go_wp2
   have hlt2 := HW.out.2.2.1.lt
   have HT1 := mk (show parts ++ partsFrom gF (pixRun r F ++ pixels (l0.drop (k + 1))) seen = partsFrom gF (pixels l0) (fun _ => false) from by have h := HT.out.1; rw [HPD.out, HF.out, Int.toNat_natCast] at h; exact h)
   go_loopw [5, 8] (fun v5 v8 W => ∃ (x : Nat) (seen' : Nat → Bool) (parts' : List (List S47)), v8 = .int .i64 x ∧ F ≤ x ∧ ((x : Int) ≤ r.f2 ∨ x = F) ∧
    Aside0 (Kd.S (Kd.slice 47 k47) 26 W w.heap.size (fun _ => True) v5 parts' ∧ GridAt W w1.heap.size gF ∧ GridAt W (w1.heap.size + 1) seen' ∧ Below w.heap.size w W) ∧
    Aside0 (W.heap[wo.heap.size]? = some (.cells #[.int .i64 (Y : Int), .int .i64 (F : Int), .int .i64 r.f2] 47 (0, 0))) ∧
    Aside0 (parts' ++ partsFrom gF (pixRun r x ++ pixels (l0.drop (k + 1))) seen' = partsFrom gF (pixels l0) (fun _ => false) ∧ parts'.length + unseen seen' ≤ 256)) (fun _ v8 _ => 17 - (intOf v8).toNat + (r.f2 - (intOf v8)).toNat)
   case atStart =>
    exact ⟨F, seen, parts, rfl, Nat.le_refl _, .inr rfl, ⟨Kd.S_alloc HW.out.1 _, HW.out.2.1.alloc _, HW.out.2.2.1.alloc _, below_alloc HW.out.2.2.2 _⟩, ⟨blk_new _ _⟩, ⟨HT1.out, HT.out.2⟩⟩
   case round =>
    obtain ⟨x, seen', parts', rfl, hFx, hx, HV, HK, HU⟩ := hrel
    clear HT1 hx0 hx1 hx2
    obtain ⟨wi, rfl⟩ : ∃ wi : World, wi = wr := ⟨_, rfl⟩
    have hc0 : wi.cell? ⟨wo.heap.size, 0, none⟩ = some (.int .i64 (Y : Int)) := (blk_cell HK.out 0).trans rfl
    have hc2 : wi.cell? ⟨wo.heap.size, 2, none⟩ = some (.int .i64 r.f2) := (blk_cell HK.out 2).trans rfl
    by_cases hxt : (x : Int) < r.f2
    ·have hdx : decide ((x : Int) < r.f2) = true := by simpa using hxt
     have hx16 : x < 16 := by omega
     have hY16 : Y < 16 := by omega
     have hcs := HV.out.2.2.1.cell (Y * 16 + x) (by omega)
     have HPI := mk (pixRun_in r x hxt)
     cases hs : seen' (Y * 16 + x) with
     | true =>
      rw [hs] at hcs
      have HU2 := mk (show parts' ++ partsFrom gF (pixRun r (x + 1) ++ pixels (l0.drop (k + 1))) seen' = partsFrom gF (pixels l0) (fun _ => false) from by
       have h := HU.out.1
       rw [HPI.out, HY.out, Int.toNat_natCast, List.cons_append, partsFrom, if_pos hs] at h
       exact h)
      clear hs
      go_wp2
      go_roundw
      case rel => exact ⟨x + 1, seen', parts', by go_num, by omega, .inl (by omega), HV, HK, ⟨HU2.out, HU.out.2⟩⟩
      case measure => simp [intOf]; omega
     | false =>
      rw [hs] at hcs
      have hg' : wi.heap[w1.heap.size]? = some (.cells (gc gF) 75 (0, 0)) := HV.out.2.1
      have HU2 := mk (show (parts' ++ [runsL (comp gF (Y * 16 + x))]) ++ partsFrom gF (pixRun r (x + 1) ++ pixels (l0.drop (k + 1))) (gso (fun x_ y_ => seen' (y_ * 16 + x_) || comp gF (Y * 16 + x) (y_ * 16 + x_)) 256) = partsFrom gF (pixels l0) (fun _ => false) from by
       have h := HU.out.1
       rw [HPI.out, HY.out, Int.toNat_natCast, List.cons_append, partsFrom, if_neg (by rw [hs]; simp)] at h
       rw [List.append_assoc]
       exact h)
      have HUN := mk (unseen_add seen' (comp gF (Y * 16 + x)) (Y * 16 + x) (by omega) hs ((comp_iff _ _ _).2 .here))
      clear hs
      go_wp2_with (first
       | ((with_reducible refine gate_dst (N := 34) rfl ?_); refine wpList_load_row rfl 75 (.tmp 3) rfl w1.heap.size rfl 75 (gc gF) (0, 0) (.array 16 73) hg' underlying66 rfl (HI.out _) ?_)
       | (go_at_call 70; refine (part_calls gF x Y hx16 hY16 _).mono ?_; rintro e W3 ⟨rfl, hb3⟩; have HB3 := mk hb3; clear hb3; have HN3 : Aside0 ((W3.alloc (.cells (gc fun _ => false) 75)).heap[W3.heap.size]? = some (.cells (gc fun _ => false) 75 (0, 0))) := mk (blk_new _ _); have HP4 : Aside0 (GridAt ((W3.alloc (.cells (gc fun _ => false) 75)).setRow W3.heap.size (gc (comp gF (Y * 16 + x)))) W3.heap.size (comp gF (Y * 16 + x))) := mk (GridAt.setRow (g := fun _ => false) HN3.out _); have HB4 : Aside0 (Below wi.heap.size wi ((W3.alloc (.cells (gc fun _ => false) 75)).setRow W3.heap.size (gc (comp gF (Y * 16 + x))))) := mk (below_setRow (below_alloc HB3.out (.cells (gc fun _ => false) 75)) HB3.out.size _))
       | ((with_reducible refine wpList_store_row rfl 75 (.tmp 9) (.tmp 38) rfl W3.heap.size (gc (comp gF (Y * 16 + x))) ?hx ?hy 75 (gc fun _ => false) HN3.out (HI.out _) (HSZ.out _ _) (HO.out _) ?_); (case hx => rfl); (case hy => rfl))
       | (go_at_call 67; refine (gridBy_calls 103 #[.pointer (some ⟨w1.heap.size + 1, 0, none⟩), .pointer (some ⟨W3.heap.size, 0, none⟩)] (fun x_ y_ => seen' (y_ * 16 + x_) || comp gF (Y * 16 + x) (y_ * 16 + x_)) ((W3.alloc (.cells (gc fun _ => false) 75)).setRow W3.heap.size (gc (comp gF (Y * 16 + x)))) (enters_of Try.func103 (by kernel_rfl) rfl) (fun W a b ha hb hW => parts1_calls seen' (comp gF (Y * 16 + x)) a b ha hb _ _ W (GridAt.below (GridAt.below HV.out.2.2.1 HB4.out) hW) (GridAt.below HP4.out hW))).mono ?_; rintro e W5 ⟨rfl, hb5⟩; have HB5 : Aside0 (Below wi.heap.size wi W5) := mk (below_then HB4.out HB4.out.size hb5); have HS5 : Aside0 (W5.heap[w1.heap.size + 1]? = some (.cells (gc seen') 75 (0, 0))) := mk (GridAt.below HV.out.2.2.1 HB5.out); have HP6 : Aside0 ((W5.setRow (w1.heap.size + 1) (gc (gso (fun x_ y_ => seen' (y_ * 16 + x_) || comp gF (Y * 16 + x) (y_ * 16 + x_)) 256))).heap[W3.heap.size]? = some (.cells (gc (comp gF (Y * 16 + x))) 75 (0, 0))) := mk (setRow_keepQ (GridAt.below HP4.out hb5) _ (by have := HB3.out.size; have := GridAt.lt HV.out.2.2.1; omega)); have HR6 := mk (Kd.S_mono (Kd.S_move (w1 := W5.setRow (w1.heap.size + 1) (gc (gso (fun x_ y_ => seen' (y_ * 16 + x_) || comp gF (Y * 16 + x) (y_ * 16 + x_)) 256))) (Kd.S_types (Kd.S_below HV.out.1 HB5.out) HS5.out (by decide)) (fun k hk => setRow_other _ _ _ _ hk.2)) (fun _ h => h.1)); have HG6 : Aside0 (GridAt (W5.setRow (w1.heap.size + 1) (gc (gso (fun x_ y_ => seen' (y_ * 16 + x_) || comp gF (Y * 16 + x) (y_ * 16 + x_)) 256))) w1.heap.size gF) := mk (setRow_keepQ (GridAt.below HV.out.2.1 HB5.out) _ (by omega)); have HS6 : Aside0 (GridAt (W5.setRow (w1.heap.size + 1) (gc (gso (fun x_ y_ => seen' (y_ * 16 + x_) || comp gF (Y * 16 + x) (y_ * 16 + x_)) 256))) (w1.heap.size + 1) (gso (fun x_ y_ => seen' (y_ * 16 + x_) || comp gF (Y * 16 + x) (y_ * 16 + x_)) 256)) := mk (GridAt.setRow (g := seen') HS5.out _); have HK6 := mk (setRow_keepQ (blk_below HK.out HB5.out) (gc (gso (fun x_ y_ => seen' (y_ * 16 + x_) || comp gF (Y * 16 + x) (y_ * 16 + x_)) 256)) (show wo.heap.size ≠ w1.heap.size + 1 by omega)); have HB6 := mk (below_setRow (below_then HV.out.2.2.2 HV.out.2.2.2.size HB5.out) (show w.heap.size ≤ w1.heap.size + 1 from Nat.le_succ_of_le HBW.out) (gc (gso (fun x_ y_ => seen' (y_ * 16 + x_) || comp gF (Y * 16 + x) (y_ * 16 + x_)) 256))); have HL6 := mk (show wi.heap.size ≤ (W5.setRow (w1.heap.size + 1) (gc (gso (fun x_ y_ => seen' (y_ * 16 + x_) || comp gF (Y * 16 + x) (y_ * 16 + x_)) 256))).heap.size by rw [setRow_size]; exact HB5.out.size); clear hb5)
       | ((with_reducible refine wpList_store_row rfl 75 (.tmp 4) (.tmp 40) rfl (w1.heap.size + 1) (gc (gso (fun x_ y_ => seen' (y_ * 16 + x_) || comp gF (Y * 16 + x) (y_ * 16 + x_)) 256)) ?hx ?hy 75 (gc seen') HS5.out (HI.out _) (HSZ.out _ _) (HO.out _) ?_); (case hx => rfl); (case hy => rfl))
       | ((with_reducible refine gate_dst (N := 42) rfl ?_); refine wpList_load_row rfl 75 (.tmp 9) rfl W3.heap.size rfl 75 (gc (comp gF (Y * 16 + x))) (0, 0) (.array 16 73) HP6.out underlying66 rfl (HI.out _) ?_)
       | (go_at_call 71; refine (runs_calls (comp gF (Y * 16 + x)) (W5.setRow (w1.heap.size + 1) (gc (gso (fun x_ y_ => seen' (y_ * 16 + x_) || comp gF (Y * 16 + x) (y_ * 16 + x_)) 256)))).mono ?_; rintro e W7 ⟨v7, rfl, hr7, hb7⟩; obtain ⟨A7, c7, hv7, _⟩ := Kd.Q_slice (Kd.Q_of_R hr7); subst hv7; have HV7 := mk (Kd.R_lower (Kd.R_mono (Kd.R_bound hr7) (fun k hk => hk.2.1)) HB6.out.size); have HR7 := mk (Kd.S_below (Kd.S_mono (Kd.S_bound HR6.out) (fun k hk => (⟨trivial, Nat.not_le.2 hk.2.2.1⟩ : True ∧ ¬ ((W5.setRow (w1.heap.size + 1) (gc (gso (fun x_ y_ => seen' (y_ * 16 + x_) || comp gF (Y * 16 + x) (y_ * 16 + x_)) 256))).heap.size ≤ k)))) hb7); have HG7 := mk (GridAt.below HG6.out hb7); have HS7 := mk (GridAt.below HS6.out hb7); have HK7 := mk (blk_below HK6.out hb7); have HB7 := mk (below_then HB6.out HB6.out.size hb7); have HQ7 := mk (Kd.S_lt HV.out.1); clear hr7 hb7)
       | ((with_reducible refine gate_builtin (b := .append) (xs := #[.tmp 41, .tmp 44]) rfl ?_); at_builtin; refine Kd.S_append (Kd.slice 47 k47) (w0 := w) w.heap.size rfl (.tmp 41) (.tmp 44) 51 26 (.slice none 0 0) 24 rfl Try.underlying51 info26 rfl (by decide) (by omega) u5 parts' (runsL (comp gF (Y * 16 + x))) [.slice A7 (runsL (comp gF (Y * 16 + x))).length c7] (fun _ => True) (fun k => (W5.setRow (w1.heap.size + 1) (gc (gso (fun x_ y_ => seen' (y_ * 16 + x_) || comp gF (Y * 16 + x) (y_ * 16 + x_)) 256))).heap.size ≤ k) rfl ?aX (Kd.M_row HV7.out) (fun k hk => ⟨trivial, fun e => by have h1 := HQ7.out k e.symm; have h2 := HL6.out; omega⟩) (fun _ _ => trivial) HR7.out HB7.out HB7.out.size ?aL ?_; (case aX => rfl); (case aL => (have hl_ := HU.out.2; omega)); intro v8 W8 ho hb hg hat; have HR8 := mk ho; have HB8 := mk hb; have HG8 : Aside0 (GridAt W8 w1.heap.size gF) := mk (blk_grown HG7.out hg (Kd.S_ne HR7.out HG7.out (by decide))); have HS8 : Aside0 (GridAt W8 (w1.heap.size + 1) (gso (fun x_ y_ => seen' (y_ * 16 + x_) || comp gF (Y * 16 + x) (y_ * 16 + x_)) 256)) := mk (blk_grown HS7.out hg (Kd.S_ne HR7.out HS7.out (by decide))); have HK8 := mk (blk_grown HK7.out hg (Kd.S_ne HR7.out HK7.out (by decide))); clear ho hb hg hat))
      go_roundw
      case rel => exact ⟨x + 1, (gso (fun x_ y_ => seen' (y_ * 16 + x_) || comp gF (Y * 16 + x) (y_ * 16 + x_)) 256), parts' ++ [runsL (comp gF (Y * 16 + x))], by go_num, by omega, .inl (by omega), ⟨HR8.out, HG8.out, HS8.out, HB8.out⟩, HK8, ⟨HU2.out, by
       have h1 := HUN.out
       have h2 := HU.out.2
       have h3 : unseen (gso (fun x_ y_ => seen' (y_ * 16 + x_) || comp gF (Y * 16 + x) (y_ * 16 + x_)) 256) = unseen (fun q => seen' q || (comp gF (Y * 16 + x)) q) := unseen_congr (fun p hp => by unfold gso; rw [decide_eq_true hp, Bool.true_and]; show (seen' (p / 16 * 16 + p % 16) || comp gF (Y * 16 + x) (p / 16 * 16 + p % 16)) = _; rw [show p / 16 * 16 + p % 16 = p by omega])
       rw [h3, List.length_append, List.length_singleton]
       omega⟩⟩
      case measure => simp [intOf]; omega
    have hdx : decide ((x : Int) < r.f2) = false := by simpa using hxt
    have HU2 := mk (show parts' ++ partsFrom gF (pixels (l0.drop (k + 1))) seen' = partsFrom gF (pixels l0) (fun _ => false) from by
     have h := HU.out.1
     rw [pixRun_end r x hxt, List.nil_append] at h
     exact h)
    go_wp2
    go_roundw
    case rel => exact ⟨k + 1, seen', parts', by go_num, by omega, HV, ⟨HU2.out, HU.out.2⟩⟩
    case measure => simp [intOf]; omega
  have hdk : decide ((k : Int) < (l0.length : Int)) = false := by simp; omega
  have hkl : k = l0.length := by omega
  subst hkl
  have HE := mk (show parts = partsFrom gF (pixels l0) (fun _ => false) from by
   have h := HT.out.1
   rw [List.drop_length] at h
   simpa [pixels, partsFrom] using h)
  go_wp2
  go_ret
  exact ⟨_, rfl, by rw [← HE.out]; exact HW.out.1, HW.out.2.2.2⟩
end Go.Proofs.Ytbgohbinonkhfaa.Q

/- impl.BoxRegion: the runs of the grid of a box's pixels. -/
namespace Go.Proofs.Ytbgohbinonkhfaa.Q
open Go.RowKit Go.Proofs.YtbgohbinonkhfaaW.PrintWords Go.Proofs.YtbgohbinonkhfaaW.PrintLast Go.Proofs.YtbgohbinonkhfaaW.PrintMore
attribute [local go_sem] max2_int min2_int max_two min_two max_three min_three max_four min_four
set_option linter.unusedVariables false
set_option linter.unusedSimpArgs false
open Go.Proofs.Ytbgohbinonkhfaa.Pure

def boxOk (b0 b1 b2 b3 : Int) : Bool := decide (0 ≤ b0 ∧ b0 < 16 ∧ 0 ≤ b1 ∧ b1 < 16 ∧ 1 ≤ b2 ∧ b2 ≤ 16 - b0 ∧ 1 ≤ b3 ∧ b3 ≤ 16 - b1)
def inBox (b0 b1 b2 b3 : Int) (x y : Nat) : Bool := decide (b0 ≤ (x : Int)) && decide ((x : Int) < b0 + b2) && decide (b1 ≤ (y : Int)) && decide ((y : Int) < b1 + b3)
theorem has_eq (b0 b1 b2 b3 : Int) (h0 : 0 ≤ b0 ∧ b0 < 16 ∧ 0 ≤ b1 ∧ b1 < 16 ∧ 1 ≤ b2 ∧ b2 ≤ 16 - b0 ∧ 1 ≤ b3 ∧ b3 ≤ 16 - b1) (x y : Nat) : impl_Box_has.f b0 b1 b2 b3 (x : Int) (y : Int) = some (inBox b0 b1 b2 b3 x y) := by
 unfold impl_Box_has.f inBox
 rw [w64 (x := b0 + b2) (by omega) (by omega), w64 (x := b1 + b3) (by omega) (by omega)]
 by_cases c1 : b0 ≤ (x : Int)
 ·rw [if_pos c1]
  by_cases c2 : (x : Int) < b0 + b2
  ·rw [if_pos c2]
   by_cases c3 : b1 ≤ (y : Int)
   ·rw [if_pos c3, decide_eq_true c1, decide_eq_true c2, decide_eq_true c3]; simp
   ·rw [if_neg c3, decide_eq_false c3]; simp
  ·rw [if_neg c2, decide_eq_false c2]; simp
 ·rw [if_neg c1, decide_eq_false c1]; simp
def impl_BoxRegion.f (b0 b1 b2 b3 : Int) : Option (List S47 × Bool) := some (if boxOk b0 b1 b2 b3 = true then (runsL (gso (inBox b0 b1 b2 b3) 256), true) else ([], false))

set_option maxHeartbeats 4000000 in
set_option maxRecDepth 100000 in
theorem boxHas_calls (b0 b1 b2 b3 : Int) (h0 : 0 ≤ b0 ∧ b0 < 16 ∧ 0 ≤ b1 ∧ b1 < 16 ∧ 1 ≤ b2 ∧ b2 ≤ 16 - b0 ∧ 1 ≤ b3 ∧ b3 ≤ 16 - b1) (x y : Nat) (B : Nat) (w : World)
  (hB : w.heap[B]? = some (.cells #[.int .i64 b0, .int .i64 b1, .int .i64 b2, .int .i64 b3] 60 (0, 0))) :
  Calls Try.prog 80 #[.int .i64 (x : Int), .int .i64 (y : Int), .pointer (some ⟨B, 0, none⟩)] w fun e w' => e = .returned (.bool (inBox b0 b1 b2 b3 x y)) ∧ Below w.heap.size w w' := by
 have hu := Try.underlying60
 have HC := Aside0.mk (impl_Box_has.calls b0 b1 b2 b3 (x : Int) (y : Int) _ w (has_eq b0 b1 b2 b3 h0 x y))
 have c0 : w.cell? ⟨B, 0, none⟩ = some (.int .i64 b0) := (blk_cell hB 0).trans rfl
 have c1 : w.cell? ⟨B, 1, none⟩ = some (.int .i64 b1) := (blk_cell hB 1).trans rfl
 have c2 : w.cell? ⟨B, 2, none⟩ = some (.int .i64 b2) := (blk_cell hB 2).trans rfl
 have c3 : w.cell? ⟨B, 3, none⟩ = some (.int .i64 b3) := (blk_cell hB 3).trans rfl
 clear h0
 go_enter Try.func80, Try.ntmps80
 go_wp2_with (first | (go_at_call 81; refine HC.out.mono ?_; rintro e w1 ⟨rfl, hb1⟩; have HB1 := Aside0.mk hb1; clear hb1))
 go_ret
 exact ⟨rfl, HB1.out⟩
set_option maxHeartbeats 4000000 in
set_option maxRecDepth 100000 in
theorem impl_BoxRegion.calls (b0 b1 b2 b3 : Int) (r1 : List S47) (r2 : Bool) (w : World) (h : impl_BoxRegion.f b0 b1 b2 b3 = some (r1, r2)) :
  Calls Try.prog 39 #[.agg #[.int .i64 b0, .int .i64 b1, .int .i64 b2, .int .i64 b3]] w fun e w' => ∃ v0_ : Value, e = .returned (.tuple #[v0_, .bool r2]) ∧ Kd.R k47 47 w' w.heap.size (fun _ => True) v0_ r1 ∧ Below w.heap.size w w' := by
 have h' := Option.some.inj h
 clear h
 have hu := Try.underlying60
 have hB := Aside0.mk (below_alloc (Below.refl w.heap.size w) (.cells #[.int .i64 b0, .int .i64 b1, .int .i64 b2, .int .i64 b3] 60))
 by_cases ho : boxOk b0 b1 b2 b3 = true
 ·rw [if_pos ho] at h'
  obtain ⟨rfl, rfl⟩ := Prod.mk.inj h'
  clear h'
  have h0 : 0 ≤ b0 ∧ b0 < 16 ∧ 0 ≤ b1 ∧ b1 < 16 ∧ 1 ≤ b2 ∧ b2 ≤ 16 - b0 ∧ 1 ≤ b3 ∧ b3 ≤ 16 - b1 := by simpa [boxOk] using ho
  clear ho
  have d1 : decide (b0 < 0) = false := by simp; omega
  have d2 : decide (16 ≤ b0) = false := by simp; omega
  have d3 : decide (b1 < 0) = false := by simp; omega
  have d4 : decide (16 ≤ b1) = false := by simp; omega
  have d5 : decide (b2 < 1) = false := by simp; omega
  have d6 : decide (wrap64 (16 - b0) < b2) = false := by rw [w64 (x := 16 - b0) (by omega) (by omega)]; simp; omega
  have d7 : decide (b3 < 1) = false := by simp; omega
  have d8 : decide (wrap64 (16 - b1) < b3) = false := by rw [w64 (x := 16 - b1) (by omega) (by omega)]; simp; omega
  have hblk := Aside0.mk (blk_new w (.cells #[.int .i64 b0, .int .i64 b1, .int .i64 b2, .int .i64 b3] 60))
  have HG := Aside0.mk (fun W' => gridBy_calls 80 #[.pointer (some ⟨w.heap.size, 0, none⟩)] (inBox b0 b1 b2 b3) W' (enters_of Try.func80 (by kernel_rfl) rfl))
  go_enter Try.func39, Try.ntmps39
  go_wp2_with (first
   | (go_at_call 67; refine (HG.out _ (fun W x y _ _ hW => boxHas_calls b0 b1 b2 b3 h0 x y w.heap.size W (blk_below hblk.out hW))).mono ?_; rintro e w2 ⟨rfl, hb2⟩; have HB2 := Aside0.mk (below_then hB.out hB.out.size hb2); clear hb2)
   | (go_at_call 71; refine (runs_calls _ _).mono ?_; rintro e w3 ⟨v3, rfl, hr3, hb3⟩; have HR3 := Aside0.mk (Kd.R_lower hr3 HB2.out.size); have HB3 := Aside0.mk (below_then HB2.out HB2.out.size hb3); clear hb3 hr3))
  go_ret2
  exact ⟨v3, rfl, HR3.out, HB3.out⟩
 ·rw [if_neg ho] at h'
  obtain ⟨rfl, rfl⟩ := Prod.mk.inj h'
  clear h'
  have h0 : b0 < 0 ∨ (¬ b0 < 0 ∧ 16 ≤ b0) ∨ (0 ≤ b0 ∧ b0 < 16 ∧ b1 < 0) ∨ (0 ≤ b0 ∧ b0 < 16 ∧ ¬ b1 < 0 ∧ 16 ≤ b1) ∨ (0 ≤ b0 ∧ b0 < 16 ∧ 0 ≤ b1 ∧ b1 < 16 ∧ b2 < 1) ∨ (0 ≤ b0 ∧ b0 < 16 ∧ 0 ≤ b1 ∧ b1 < 16 ∧ ¬ b2 < 1 ∧ 16 - b0 < b2) ∨ (0 ≤ b0 ∧ b0 < 16 ∧ 0 ≤ b1 ∧ b1 < 16 ∧ 1 ≤ b2 ∧ b2 ≤ 16 - b0 ∧ b3 < 1) ∨ (0 ≤ b0 ∧ b0 < 16 ∧ 0 ≤ b1 ∧ b1 < 16 ∧ 1 ≤ b2 ∧ b2 ≤ 16 - b0 ∧ ¬ b3 < 1 ∧ 16 - b1 < b3) := by
   have : ¬ (0 ≤ b0 ∧ b0 < 16 ∧ 0 ≤ b1 ∧ b1 < 16 ∧ 1 ≤ b2 ∧ b2 ≤ 16 - b0 ∧ 1 ≤ b3 ∧ b3 ≤ 16 - b1) := by simpa [boxOk] using ho
   omega
  clear ho
  rcases h0 with h0 | h0 | h0 | h0 | h0 | h0 | h0 | h0
  ·have d1 : decide (b0 < 0) = true := by simp; omega
   clear h0
   go_enter Try.func39, Try.ntmps39
   go_wp2
   go_ret2
   exact ⟨_, rfl, Kd.R_nil _ _ _ _ _, hB.out⟩
  ·have d1 : decide (b0 < 0) = false := by simp; omega
   have d2 : decide (16 ≤ b0) = true := by simp; omega
   clear h0
   go_enter Try.func39, Try.ntmps39
   go_wp2
   go_ret2
   exact ⟨_, rfl, Kd.R_nil _ _ _ _ _, hB.out⟩
  ·have d1 : decide (b0 < 0) = false := by simp; omega
   have d2 : decide (16 ≤ b0) = false := by simp; omega
   have d3 : decide (b1 < 0) = true := by simp; omega
   clear h0
   go_enter Try.func39, Try.ntmps39
   go_wp2
   go_ret2
   exact ⟨_, rfl, Kd.R_nil _ _ _ _ _, hB.out⟩
  ·have d1 : decide (b0 < 0) = false := by simp; omega
   have d2 : decide (16 ≤ b0) = false := by simp; omega
   have d3 : decide (b1 < 0) = false := by simp; omega
   have d4 : decide (16 ≤ b1) = true := by simp; omega
   clear h0
   go_enter Try.func39, Try.ntmps39
   go_wp2
   go_ret2
   exact ⟨_, rfl, Kd.R_nil _ _ _ _ _, hB.out⟩
  ·have d1 : decide (b0 < 0) = false := by simp; omega
   have d2 : decide (16 ≤ b0) = false := by simp; omega
   have d3 : decide (b1 < 0) = false := by simp; omega
   have d4 : decide (16 ≤ b1) = false := by simp; omega
   have d5 : decide (b2 < 1) = true := by simp; omega
   clear h0
   go_enter Try.func39, Try.ntmps39
   go_wp2
   go_ret2
   exact ⟨_, rfl, Kd.R_nil _ _ _ _ _, hB.out⟩
  ·have d1 : decide (b0 < 0) = false := by simp; omega
   have d2 : decide (16 ≤ b0) = false := by simp; omega
   have d3 : decide (b1 < 0) = false := by simp; omega
   have d4 : decide (16 ≤ b1) = false := by simp; omega
   have d5 : decide (b2 < 1) = false := by simp; omega
   have d6 : decide (wrap64 (16 - b0) < b2) = true := by rw [w64 (x := 16 - b0) (by omega) (by omega)]; simp; omega
   clear h0
   go_enter Try.func39, Try.ntmps39
   go_wp2
   go_ret2
   exact ⟨_, rfl, Kd.R_nil _ _ _ _ _, hB.out⟩
  ·have d1 : decide (b0 < 0) = false := by simp; omega
   have d2 : decide (16 ≤ b0) = false := by simp; omega
   have d3 : decide (b1 < 0) = false := by simp; omega
   have d4 : decide (16 ≤ b1) = false := by simp; omega
   have d5 : decide (b2 < 1) = false := by simp; omega
   have d6 : decide (wrap64 (16 - b0) < b2) = false := by rw [w64 (x := 16 - b0) (by omega) (by omega)]; simp; omega
   have d7 : decide (b3 < 1) = true := by simp; omega
   clear h0
   go_enter Try.func39, Try.ntmps39
   go_wp2
   go_ret2
   exact ⟨_, rfl, Kd.R_nil _ _ _ _ _, hB.out⟩
  ·have d1 : decide (b0 < 0) = false := by simp; omega
   have d2 : decide (16 ≤ b0) = false := by simp; omega
   have d3 : decide (b1 < 0) = false := by simp; omega
   have d4 : decide (16 ≤ b1) = false := by simp; omega
   have d5 : decide (b2 < 1) = false := by simp; omega
   have d6 : decide (wrap64 (16 - b0) < b2) = false := by rw [w64 (x := 16 - b0) (by omega) (by omega)]; simp; omega
   have d7 : decide (b3 < 1) = false := by simp; omega
   have d8 : decide (wrap64 (16 - b1) < b3) = true := by rw [w64 (x := 16 - b1) (by omega) (by omega)]; simp; omega
   clear h0
   go_enter Try.func39, Try.ntmps39
   go_wp2
   go_ret2
   exact ⟨_, rfl, Kd.R_nil _ _ _ _ _, hB.out⟩

/- Rows of bools that hold a grid: what is made, read and written. -/

theorem tabR_cell {W : World} {base g cap : Nat} {ok : Nat → Prop} {f : Nat → Bool} (h : Kd.bool.R 4 W base ok (.slice (some ⟨g, 0, none⟩) 256 cap) (tab f)) (i : Nat) (hi : i < 256) : W.cell? ⟨g, i, none⟩ = some (.bool (f i)) ∧ W.frozen? ⟨g, i, none⟩ = false := by
  have hl := tab_length f
  have h' : Kd.bool.R 4 W base ok (.slice (some ⟨g, 0, none⟩) (tab f).length cap) (tab f) := by rw [hl]; exact h
  have := Kd.R_cell false h' (i : Int) (by omega) (by omega)
  rw [Int.toNat_natCast, tab_get f i hi] at this
  exact this
theorem tabR_put {W : World} {base g cap : Nat} {ok : Nat → Prop} {f : Nat → Bool} (h : Kd.bool.R 4 W base ok (.slice (some ⟨g, 0, none⟩) 256 cap) (tab f)) (i : Nat) (b : Bool) : Kd.bool.R 4 (W.setCell ⟨g, i, none⟩ (.bool b)) base ok (.slice (some ⟨g, 0, none⟩) 256 cap) (tab fun p => if p = i then b else f p) := by
  have hl := tab_length f
  have h' : Kd.bool.R 4 W base ok (.slice (some ⟨g, 0, none⟩) (tab f).length cap) (tab f) := by rw [hl]; exact h
  have := (Kd.R_put h' (i : Int) b).1
  rw [Int.toNat_natCast, tab_set, hl] at this
  exact this
theorem tab_of (l : List Bool) (h : l.length = 256) : l = tab (fun p => l.getD p false) := by
  refine List.ext_getElem (by rw [tab_length]; exact h) (fun j h1 h2 => ?_)
  simp [tab, List.getD_eq_getElem?_getD, List.getElem?_eq_getElem h1]
theorem tabC_at {W : World} {A : Option Addr} {f : Nat → Bool} (h : Kd.bool.C W A 256 (tab f)) : ∃ ad, A = some ad ∧ ∀ i : Int, 0 ≤ i → i < 256 → W.cell? (ad.add i.toNat) = some (.bool (rdT f i)) := by
  obtain ⟨ad, rfl, _⟩ := Kd.at_bool h 0 (by omega) (by omega)
  refine ⟨ad, rfl, fun i h0 h1 => ?_⟩
  obtain ⟨ad', e, hc⟩ := Kd.at_bool h i h0 (by omega)
  cases e
  exact hc
end Go.Proofs.Ytbgohbinonkhfaa.Q

/- spec.spreadFrom: the pixels that are connected with a pixel, as the reference has them. -/
namespace Go.Proofs.Ytbgohbinonkhfaa.Q
open Go.RowKit Go.Proofs.YtbgohbinonkhfaaW.PrintWords Go.Proofs.YtbgohbinonkhfaaW.PrintLast Go.Proofs.YtbgohbinonkhfaaW.PrintMore
open Go.Proofs.YtbgohbinonkhfaaW.PrintWords.Aside0 (mk)
attribute [local go_sem] max2_int min2_int max_two min_two max_three min_three max_four min_four
set_option linter.unusedVariables false
set_option linter.unusedSimpArgs false
open Go.Proofs.Ytbgohbinonkhfaa.Pure

noncomputable def spec_spreadFrom.f (l0 : List Bool) (a1 : Int) : Option (List Bool) := if l0.length = 256 ∧ 0 ≤ a1 ∧ a1 < 256 then some (tab (comp (fun p => l0.getD p false) a1.toNat)) else none

theorem inRange_eq' (n a b : Int) : spec_inRange.f n a b = some (decide (a ≤ n) && decide (n ≤ b)) := by
 unfold spec_inRange.f
 by_cases c : a ≤ n
 ·rw [if_pos c, decide_eq_true c, Bool.true_and]
 rw [if_neg c, decide_eq_false c, Bool.false_and]
def nbS (x y d : Nat) : Int × Int := match d with
 | 0 => ((x : Int) + 1, (y : Int))
 | 1 => ((x : Int) - 1, (y : Int))
 | 2 => ((x : Int), (y : Int) + 1)
 | _ => ((x : Int), (y : Int) - 1)
def nbListS (x y : Nat) : List (Int × Int) := [nbS x y 0, nbS x y 1, nbS x y 2, nbS x y 3]
theorem nbListS_drop (x y d : Nat) (h : d < 4) : (nbListS x y).drop d = ((nbS x y d).1, (nbS x y d).2) :: (nbListS x y).drop (d + 1) := by
 obtain rfl | rfl | rfl | rfl : d = 0 ∨ d = 1 ∨ d = 2 ∨ d = 3 := by omega
 all_goals rfl
theorem nbS_mem (x y p r : Nat) (hx : x = p % 16) (hy : y = p / 16) (hp : p < 256) (hr : r < 256) (ha : Adj p r) : (((r % 16 : Nat) : Int), ((r / 16 : Nat) : Int)) ∈ nbListS x y := by
 have := adj_nb p r hp hr ha
 unfold nbListS nbS
 simp only [List.mem_cons, Prod.mk.injEq]
 omega
def lenT : Value → Nat
 | .slice _ n _ => n
 | _ => 0
def outT (W : World) (B : Nat) (p : Nat) : Bool := match W.cell? ⟨B, p, none⟩ with
 | some (.bool b) => b
 | _ => false
theorem unseen_outT {W : World} {base B cap : Nat} {ok : Nat → Prop} {o : Nat → Bool} (h : Kd.bool.R 4 W base ok (.slice (some ⟨B, 0, none⟩) 256 cap) (tab o)) : unseen (outT W B) = unseen o := by
 unfold unseen
 refine List.countP_congr (fun p hp => ?_)
 have : outT W B p = o p := by unfold outT; rw [(tabR_cell h p (by simpa using hp)).1]
 rw [this]

set_option maxHeartbeats 12000000 in
set_option maxRecDepth 100000 in
theorem spread_calls (A0 : Option Addr) (c0 : Nat) (g : Nat → Bool) (s : Nat) (hs : s < 256) (w : World) (hr0 : Kd.bool.C w A0 256 (tab g)) (hc0 : 256 ≤ c0) :
  Calls Try.prog 66 #[.slice A0 256 c0, .int .i64 (s : Int)] w fun e w' => ∃ v0_ : Value, e = .returned v0_ ∧ Kd.bool.R 4 w' w.heap.size (fun _ => True) v0_ (tab (comp g s)) ∧ Below w.heap.size w w' := by
 obtain ⟨ad, rfl, HRD⟩ := tabC_at hr0
 have HR := mk hr0
 have HRC := mk (fun (W : World) (hb : Below w.heap.size w W) (i : Int) (h0 : 0 ≤ i) (h1 : i < 256) => show W.cell? (ad.add i.toNat) = some (.bool (rdT g i)) from by
  obtain ⟨ad', e, h⟩ := tabC_at (Kd.C_below HR.out hb)
  cases e
  exact h i h0 h1)
 clear hr0 HRD
 go_enter Try.func66, Try.ntmps66
 go_wp2_with (first | ((with_reducible refine gate_dst (N := 16) rfl ?_); refine Kd.R_make Kd.bool w.heap.size 4 rfl (N := 16) rfl 81 _ _ rfl 256 rfl rfl Try.underlying81 (.bool false) 1 info4 rfl (by decide) (by omega) false (ok := fun _ => True) (okp := fun _ => True) rfl (fun _ hk => hk) trivial (by omega) (by omega) (Below.refl _ _) (Nat.le_refl _) ?_; intro v1 w1 ho1 hb1 hg1 hn1; clear hg1 hn1; rw [show (256 : Int).toNat = 256 from rfl, tab_false] at ho1; obtain ⟨B, cap, hv1, hBb, hBl, _⟩ := Kd.R_form ho1 (by rw [tab_length]; omega); rw [tab_length] at hv1; subst hv1; have HO1 := mk ho1; have HB1 := mk hb1; have HBL := mk hBb; clear ho1 hb1 hBb hBl) | ((with_reducible refine gate_dst (N := 18) rfl ?_); refine Kd.R_lit (Kd.int .i64) w.heap.size 3 ?hg (N := 18) ?hd (xs := [(s : Int)]) (inner := [.int .i64 (s : Int)]) (ok := fun _ => True) (okp := fun _ => True) ?hr ?hp (fun _ hk => hk) trivial HB1.out HB1.out.size (by simp) ?_; (case hd => rfl); (case hg => rfl); (case hr => (go_simp; done)); (case hp => exact Reps.snoc (Reps.none _ _) rfl rfl); intro v2 w2 ho2 hb2 hg2 hn2; have HS2 := mk ho2; have HB2 := mk hb2; have HO2 := mk (Kd.R_grown HO1.out hg2 (fun _ _ => by simp)); have hcs := (tabR_cell HO2.out s hs).1; have hcf := (tabR_cell HO2.out s hs).2; clear ho2 hb2 hg2 hn2))
 obtain ⟨cc, hcc⟩ := Kd.R_typed HO2.out B rfl
 have HS3 := mk (Kd.R_set HS2.out hcc (by decide) s (.bool true))
 have HO3 := mk (tabR_put HO2.out s true)
 have HB3 := mk (below_set (g := B) (j := s) (v := .bool true) HB2.out HBL.out)
 have hinit : (fun p => if p = s then true else false) = fun q => decide (q = s) := by
  funext p
  by_cases e : p = s
  ·rw [if_pos e, decide_eq_true e]
  rw [if_neg e, decide_eq_false e]
 have HM0 := mk (mid_init g s hs)
 rw [← hinit] at HM0
 have HU0 : unseen (fun p => if p = s then true else false) + 1 = 256 := by
  have h := unseen_set (fun _ => false) s hs rfl
  have h2 : unseen (fun _ => false) = 256 := by simp [unseen]
  rw [h2] at h
  exact h
 clear hinit hcc hcs hcf HO2 HS2 HB2 HO1 HB1
 go_loopw [6] (fun v6 W => ∃ (out : Nat → Bool) (st : List Nat) (p0 : Nat), Aside0 (Kd.R (Kd.int .i64) 3 W w.heap.size (fun _ => True) v6 (st.map fun (n : Nat) => (n : Int)) ∧ Kd.bool.R 4 W w.heap.size (fun _ => True) (.slice (some ⟨B, 0, none⟩) 256 cap) (tab out) ∧ Below w.heap.size w W) ∧
  Aside0 (Mid g s out st p0 [] ∧ st.length + unseen out ≤ 256)) (fun v6 W => 2 * unseen (outT W B) + lenT v6)
 case atStart => exact ⟨_, [s], s, ⟨HS3.out, HO3.out, HB3.out⟩, ⟨HM0.out, by simp only [List.length_singleton]; omega⟩⟩
 case round =>
  obtain ⟨out, st, p0, HW, HM⟩ := hrel
  clear HM0 HU0 HS3 HO3 HB3
  obtain ⟨wo, rfl⟩ : ∃ wo : World, wo = wr := ⟨_, rfl⟩
  have HMS := mk (unseen_outT HW.out.2.1)
  by_cases hz : st = []
  ·subst hz
   have hl := Kd.Q_slice (Kd.Q_of_R HW.out.1)
   obtain ⟨A6, c6, h6, _⟩ := hl
   simp only [List.map_nil, List.length_nil] at h6
   subst h6
   have HE := mk (tab_congr (mid_end hs HM.out.1))
   go_wp2
   go_ret
   exact ⟨_, rfl, by rw [← HE.out]; exact HW.out.2.1, HW.out.2.2⟩
  obtain ⟨st', p, rfl⟩ : ∃ st' p, st = st' ++ [p] := ⟨st.dropLast, st.getLast hz, (List.dropLast_concat_getLast hz).symm⟩
  clear hz
  obtain ⟨g6, c6, h6, hgb, hgl, _⟩ := Kd.R_form HW.out.1 (by simp)
  obtain ⟨m, hm⟩ : ∃ m, m = st'.length := ⟨_, rfl⟩
  have hlen : ((st' ++ [p]).map fun (n : Nat) => (n : Int)).length = m + 1 := by simp [hm]
  rw [hlen] at h6
  subst h6
  have hR6 := HW.out.1
  have hR6' : Kd.R (Kd.int .i64) 3 wo w.heap.size (fun _ => True) (.slice (some ⟨g6, 0, none⟩) ((st' ++ [p]).map fun (n : Nat) => (n : Int)).length c6) ((st' ++ [p]).map fun (n : Nat) => (n : Int)) := by rw [hlen]; exact hR6
  have hcell := (Kd.R_cell (0 : Int) hR6' (m : Int) (by omega) (by rw [hlen]; omega)).1
  have hrd : rdOf (0 : Int) ((st' ++ [p]).map fun (n : Nat) => (n : Int)) (m : Int) = (p : Int) := by
   unfold rdOf
   rw [Int.toNat_natCast, List.getD_eq_getElem?_getD, hm]
   simp
  rw [hrd, Int.toNat_natCast] at hcell
  have hcell' : wo.cell? ⟨g6, m, none⟩ = some (.int .i64 (p : Int)) := hcell
  have HT6 := mk (show Kd.R (Kd.int .i64) 3 wo w.heap.size (fun _ => True) (.slice (some ⟨g6, 0, none⟩) m c6) (st'.map fun (n : Nat) => (n : Int)) from by
   have h := Kd.R_take (m := m) hR6' (by rw [hlen]; omega)
   rw [List.map_append, List.take_left' (by simp [hm])] at h
   exact h)
  have hp256 : p < 256 := (HM.out.1.todo_ok p (by simp)).1
  have hmc : m + 1 ≤ c6 := (Kd.R_reads' hR6).2.1
  have hm256 : m < 256 := by have h := HM.out.2; rw [List.length_append, List.length_singleton, ← hm] at h; omega
  have HML := mk hm
  clear hcell hrd hR6 hR6' hlen hm
  have hmp : decide ((0 : Int) < ((m + 1 : Nat) : Int)) = true := by simp
  obtain ⟨i0, hi0, _, hsz0, _⟩ := info_parts info3
  have HCUT := mk (cut_to (P := Try.prog) 22 3 .i64 Try.underlying22 hi0 (some ⟨g6, 0, none⟩) (m + 1) c6 (m : Int) (by omega) (by omega) hmc)
  clear hi0 hsz0
  obtain ⟨x0, hx0⟩ : ∃ x0 : Nat, x0 = p % 16 := ⟨_, rfl⟩
  obtain ⟨y0, hy0⟩ : ∃ y0 : Nat, y0 = p / 16 := ⟨_, rfl⟩
  have hx16 : x0 < 16 := by omega
  have hy16 : y0 < 16 := by omega
  have HX0 := mk (show (p : Int) % 16 = (x0 : Int) by omega)
  have HY0 := mk (show (p : Int) / 16 = (y0 : Int) by omega)
  have HPX := mk hx0
  have HPY := mk hy0
  clear hx0 hy0
  go_wp2_with (first
   | ((with_reducible refine gate_dst (N := 35) rfl ?_); refine Kd.event_run (v := .slice (some ⟨g6, 0, none⟩) m c6) (w1 := wo) rfl ?hr ?_; (case hr => (have hc_ := HCUT.out wo; rw [Int.toNat_natCast] at hc_; simp [execOp, Act.eval, Instr.sliceAt, Result.andThen, hc_]))))
  rw [HX0.out, HY0.out]
  have HM1 := mk (show Mid g s out st' p (nbListS x0 y0) from
   mid_pop HM.out.1 (p := p) (by simp) (fun q hq => by rcases List.mem_append.1 hq with h | h; exact .inr h; exact .inl (List.mem_singleton.1 h)) (fun q hq => List.mem_append_left _ hq) (fun r hr ha => nbS_mem x0 y0 p r HPX.out HPY.out hp256 hr ha))
  have HL1 := mk (show st'.length + unseen out ≤ 256 ∧ 2 * unseen out + st'.length < 2 * unseen out + (m + 1) from by
   have h := HM.out.2
   have h2 := HML.out
   rw [List.length_append, List.length_singleton] at h
   omega)
  obtain ⟨U, hU⟩ : ∃ U, U = 2 * unseen out + (m + 1) := ⟨_, rfl⟩
  rw [← hU] at HL1
  have HUE := mk hU
  clear hU hcell' hmp HCUT
  go_loopw [6, 11] (fun v6 v11 W => ∃ (out' : Nat → Bool) (st2 : List Nat) (d : Nat), v11 = .int .i64 d ∧ d ≤ 4 ∧ Aside0 (Kd.R (Kd.int .i64) 3 W w.heap.size (fun _ => True) v6 (st2.map fun (n : Nat) => (n : Int)) ∧ Kd.bool.R 4 W w.heap.size (fun _ => True) (.slice (some ⟨B, 0, none⟩) 256 cap) (tab out') ∧ Below w.heap.size w W) ∧
   Aside0 (Mid g s out' st2 p ((nbListS x0 y0).drop d) ∧ st2.length + unseen out' ≤ 256 ∧ 2 * unseen out' + st2.length < U)) (fun _ v11 _ => 4 - (intOf v11).toNat)
  case atStart => exact ⟨out, st', 0, rfl, by omega, ⟨HT6.out, HW.out.2.1, HW.out.2.2⟩, ⟨HM1.out, HL1.out.1, HL1.out.2⟩⟩
  case round =>
   obtain ⟨out', st2, d, rfl, hd, HV, HT⟩ := hrel
   obtain ⟨wi, rfl⟩ : ∃ wi : World, wi = wr := ⟨_, rfl⟩
   by_cases h4 : d < 4
   ·have hdd : decide ((d : Int) < 4) = true := by simp; omega
    have HDR := mk (nbListS_drop x0 y0 d h4)
    obtain rfl | rfl | rfl | rfl : d = 0 ∨ d = 1 ∨ d = 2 ∨ d = 3 := by omega
    all_goals clear h4 hd
    ·have HM2 := mk (show Mid g s out' st2 p ((((x0 : Int) + 1), (y0 : Int)) :: (nbListS x0 y0).drop (0 + 1)) from by have h := HT.out.1; rw [HDR.out] at h; exact h)
     cases hb : (decide (0 ≤ ((x0 : Int) + 1)) && decide (((x0 : Int) + 1) ≤ 15)) with
     | false =>
      have HI1 := mk (fun W => spec_inRange.calls (((x0 : Int) + 1)) 0 15 _ W (inRange_eq' _ _ _))
      rw [hb] at HI1
      have HSK := mk (mid_skip HM2.out (.inl (hasP_no g (((x0 : Int) + 1)) (y0 : Int) (by simp at hb; omega))))
      clear hb
      go_wp2_with (first
       | (go_at_call 62; (with_reducible refine (HI1.out _).mono ?_); rintro e W1 ⟨rfl, hd1⟩; have HD1 := mk hd1.below; clear hd1))
      go_roundw
      case rel => exact ⟨out', st2, 0 + 1, by go_num, by omega, ⟨(Kd.R_below (Kd.R_alloc (Kd.R_alloc HV.out.1 _) _) HD1.out), (Kd.R_below (Kd.R_alloc (Kd.R_alloc HV.out.2.1 _) _) HD1.out), (below_then (below_alloc (below_alloc HV.out.2.2 _) _) (below_alloc (below_alloc HV.out.2.2 _) _).size HD1.out)⟩, ⟨HSK.out, HT.out.2.1, HT.out.2.2⟩⟩
      case measure => simp [intOf]
     | true =>
      have HI1 := mk (fun W => spec_inRange.calls (((x0 : Int) + 1)) 0 15 _ W (inRange_eq' _ _ _))
      rw [hb] at HI1
      cases hb2 : (decide (0 ≤ (y0 : Int)) && decide ((y0 : Int) ≤ 15)) with
      | false =>
       exfalso
       simp at hb2
       omega
      | true =>
       have HI2 := mk (fun W => spec_inRange.calls (y0 : Int) 0 15 _ W (inRange_eq' _ _ _))
       rw [hb2] at HI2
       have hbc : 0 ≤ ((x0 : Int) + 1) ∧ ((x0 : Int) + 1) < 16 ∧ 0 ≤ (y0 : Int) ∧ (y0 : Int) < 16 := by simp at hb hb2; omega
       have HQ := mk (show (y0 : Int).toNat * 16 + (((x0 : Int) + 1)).toNat = (y0 * 16 + (x0 + 1)) by omega)
       have hq256 : (y0 * 16 + (x0 + 1)) < 256 := by omega
       have HBO := mk hbc
       clear hb hb2 hbc
       cases hg : g (y0 * 16 + (x0 + 1)) with
       | false =>
        have HSK := mk (mid_skip HM2.out (.inl (by rw [Bool.eq_false_iff]; intro h; have := ((hasP_iff g _ _).1 h).2.2.2.2; rw [HQ.out, hg] at this; cases this)))
        go_wp2_with (first | (go_at_call 62; (with_reducible refine (HI1.out _).mono ?_); rintro e W1 ⟨rfl, hd1⟩; have HD1 := mk hd1.below; clear hd1) | (go_at_call 62; (with_reducible refine (HI2.out _).mono ?_); rintro e W2 ⟨rfl, hd2⟩; have HD2 := mk hd2.below; clear hd2; have hcg := HRC.out W2 (below_then (below_then (below_alloc (below_alloc HV.out.2.2 _) _) (below_alloc (below_alloc HV.out.2.2 _) _).size HD1.out) (below_then (below_alloc (below_alloc HV.out.2.2 _) _) (below_alloc (below_alloc HV.out.2.2 _) _).size HD1.out).size HD2.out) ((((y0 * 16 + (x0 + 1)) : Nat) : Int)) (by omega) (by omega); rw [Int.toNat_natCast, rdT_nat g _ hq256, hg] at hcg))
        go_roundw
        case rel => exact ⟨out', st2, 0 + 1, by go_num, by omega, ⟨(Kd.R_below (Kd.R_below (Kd.R_alloc (Kd.R_alloc HV.out.1 _) _) HD1.out) HD2.out), (Kd.R_below (Kd.R_below (Kd.R_alloc (Kd.R_alloc HV.out.2.1 _) _) HD1.out) HD2.out), (below_then (below_then (below_alloc (below_alloc HV.out.2.2 _) _) (below_alloc (below_alloc HV.out.2.2 _) _).size HD1.out) (below_then (below_alloc (below_alloc HV.out.2.2 _) _) (below_alloc (below_alloc HV.out.2.2 _) _).size HD1.out).size HD2.out)⟩, ⟨HSK.out, HT.out.2.1, HT.out.2.2⟩⟩
        case measure => simp [intOf]
       | true =>
        cases ho : out' (y0 * 16 + (x0 + 1)) with
        | true =>
         have HSK := mk (mid_skip HM2.out (.inr (by rw [HQ.out]; exact ho)))
         go_wp2_with (first | (go_at_call 62; (with_reducible refine (HI1.out _).mono ?_); rintro e W1 ⟨rfl, hd1⟩; have HD1 := mk hd1.below; clear hd1) | (go_at_call 62; (with_reducible refine (HI2.out _).mono ?_); rintro e W2 ⟨rfl, hd2⟩; have HD2 := mk hd2.below; clear hd2; have hcg := HRC.out W2 (below_then (below_then (below_alloc (below_alloc HV.out.2.2 _) _) (below_alloc (below_alloc HV.out.2.2 _) _).size HD1.out) (below_then (below_alloc (below_alloc HV.out.2.2 _) _) (below_alloc (below_alloc HV.out.2.2 _) _).size HD1.out).size HD2.out) ((((y0 * 16 + (x0 + 1)) : Nat) : Int)) (by omega) (by omega); rw [Int.toNat_natCast, rdT_nat g _ hq256, hg] at hcg; have hco := (tabR_cell (Kd.R_below (Kd.R_below (Kd.R_alloc (Kd.R_alloc HV.out.2.1 _) _) HD1.out) HD2.out) (y0 * 16 + (x0 + 1)) hq256).1; rw [ho] at hco))
         go_roundw
         case rel => exact ⟨out', st2, 0 + 1, by go_num, by omega, ⟨(Kd.R_below (Kd.R_below (Kd.R_alloc (Kd.R_alloc HV.out.1 _) _) HD1.out) HD2.out), (Kd.R_below (Kd.R_below (Kd.R_alloc (Kd.R_alloc HV.out.2.1 _) _) HD1.out) HD2.out), (below_then (below_then (below_alloc (below_alloc HV.out.2.2 _) _) (below_alloc (below_alloc HV.out.2.2 _) _).size HD1.out) (below_then (below_alloc (below_alloc HV.out.2.2 _) _) (below_alloc (below_alloc HV.out.2.2 _) _).size HD1.out).size HD2.out)⟩, ⟨HSK.out, HT.out.2.1, HT.out.2.2⟩⟩
         case measure => simp [intOf]
        | false =>
         have HPU := mk (mid_push (todo' := st2 ++ [(y0 * 16 + (x0 + 1))]) HM2.out ((hasP_iff g _ _).2 ⟨HBO.out.1, HBO.out.2.1, HBO.out.2.2.1, HBO.out.2.2.2, by rw [HQ.out]; exact hg⟩) (nb_adj p hp256 _ _ HBO.out.1 HBO.out.2.1 HBO.out.2.2.1 HBO.out.2.2.2 (by have h1 := HPX.out; have h2 := HPY.out; omega)) (fun q hq => by rw [HQ.out]; rcases List.mem_append.1 hq with h | h; exact .inr h; exact .inl (List.mem_singleton.1 h)) (fun q hq => List.mem_append_left _ hq) (by rw [HQ.out]; simp))
         rw [HQ.out] at HPU
         have HUN := mk (unseen_set out' (y0 * 16 + (x0 + 1)) hq256 ho)
         have HXI := mk (show ((y0 : Int) * 16 + ((x0 : Int) + 1)) = (((y0 * 16 + (x0 + 1)) : Nat) : Int) by omega)
         go_wp2_with (first | (go_at_call 62; (with_reducible refine (HI1.out _).mono ?_); rintro e W1 ⟨rfl, hd1⟩; have HD1 := mk hd1.below; clear hd1) | (go_at_call 62; (with_reducible refine (HI2.out _).mono ?_); rintro e W2 ⟨rfl, hd2⟩; have HD2 := mk hd2.below; clear hd2; have hcg := HRC.out W2 (below_then (below_then (below_alloc (below_alloc HV.out.2.2 _) _) (below_alloc (below_alloc HV.out.2.2 _) _).size HD1.out) (below_then (below_alloc (below_alloc HV.out.2.2 _) _) (below_alloc (below_alloc HV.out.2.2 _) _).size HD1.out).size HD2.out) ((((y0 * 16 + (x0 + 1)) : Nat) : Int)) (by omega) (by omega); rw [Int.toNat_natCast, rdT_nat g _ hq256, hg] at hcg; have hco := (tabR_cell (Kd.R_below (Kd.R_below (Kd.R_alloc (Kd.R_alloc HV.out.2.1 _) _) HD1.out) HD2.out) (y0 * 16 + (x0 + 1)) hq256).1; rw [ho] at hco; have hcf := (tabR_cell (Kd.R_below (Kd.R_below (Kd.R_alloc (Kd.R_alloc HV.out.2.1 _) _) HD1.out) HD2.out) (y0 * 16 + (x0 + 1)) hq256).2; obtain ⟨cc2, hcc2⟩ := Kd.R_typed (Kd.R_below (Kd.R_below (Kd.R_alloc (Kd.R_alloc HV.out.2.1 _) _) HD1.out) HD2.out) B rfl; have HS3 := mk (Kd.R_set (Kd.R_below (Kd.R_below (Kd.R_alloc (Kd.R_alloc HV.out.1 _) _) HD1.out) HD2.out) hcc2 (by decide) (y0 * 16 + (x0 + 1)) (.bool true)); have HO3 := mk (tabR_put (Kd.R_below (Kd.R_below (Kd.R_alloc (Kd.R_alloc HV.out.2.1 _) _) HD1.out) HD2.out) (y0 * 16 + (x0 + 1)) true); have HB3 := mk (below_set (g := B) (j := (y0 * 16 + (x0 + 1))) (v := .bool true) (below_then (below_then (below_alloc (below_alloc HV.out.2.2 _) _) (below_alloc (below_alloc HV.out.2.2 _) _).size HD1.out) (below_then (below_alloc (below_alloc HV.out.2.2 _) _) (below_alloc (below_alloc HV.out.2.2 _) _).size HD1.out).size HD2.out) HBL.out); clear hcc2) | ((with_reducible refine gate_builtin (b := .append) (xs := #[.tmp 96, .tmp 102]) rfl ?_); at_builtin; refine Kd.R_append (Kd.int .i64) (w0 := w) w.heap.size rfl (.tmp 96) (.tmp 102) 22 3 (.int .i64 0) 8 rfl Try.underlying22 info3 rfl (by decide) (by omega) u6 (st2.map fun (n : Nat) => (n : Int)) ((y0 : Int) * 16 + ((x0 : Int) + 1)) [.int .i64 ((y0 : Int) * 16 + ((x0 : Int) + 1))] (fun _ => True) (fun _ => False) rfl ?aX ?aP (fun _ hk => hk.elim) (fun _ _ => trivial) HS3.out HB3.out HB3.out.size ?aL ?_; (case aX => (go_simp; done)); (case aP => rfl); (case aL => (have hl_ := HT.out.2.1; rw [List.length_map]; omega)); intro v7 W7 ho7 hb7 hg7 hat7; have HS7 := mk ho7; have HB7 := mk hb7; have HO7 := mk (Kd.R_over HO3.out HS3.out (by decide) hg7); clear ho7 hb7 hg7 hat7))
         go_roundw
         case rel =>
          refine ⟨fun p => if p = (y0 * 16 + (x0 + 1)) then true else out' p, st2 ++ [(y0 * 16 + (x0 + 1))], 0 + 1, by go_num, by omega, ⟨by have h := HS7.out; rw [HXI.out] at h; rw [List.map_append]; exact h, HO7.out, HB7.out⟩, ⟨HPU.out, ?_, ?_⟩⟩
          ·have h1 := HUN.out
           have h2 := HT.out.2.1
           rw [List.length_append, List.length_singleton]
           omega
          have h1 := HUN.out
          have h2 := HT.out.2.2
          rw [List.length_append, List.length_singleton]
          omega
         case measure => simp [intOf]
    ·have HM2 := mk (show Mid g s out' st2 p ((((x0 : Int) - 1), (y0 : Int)) :: (nbListS x0 y0).drop (1 + 1)) from by have h := HT.out.1; rw [HDR.out] at h; exact h)
     cases hb : (decide (0 ≤ ((x0 : Int) + -1)) && decide (((x0 : Int) + -1) ≤ 15)) with
     | false =>
      have HI1 := mk (fun W => spec_inRange.calls (((x0 : Int) + -1)) 0 15 _ W (inRange_eq' _ _ _))
      rw [hb] at HI1
      have HSK := mk (mid_skip HM2.out (.inl (hasP_no g (((x0 : Int) - 1)) (y0 : Int) (by simp at hb; omega))))
      clear hb
      go_wp2_with (first
       | (go_at_call 62; (with_reducible refine (HI1.out _).mono ?_); rintro e W1 ⟨rfl, hd1⟩; have HD1 := mk hd1.below; clear hd1))
      go_roundw
      case rel => exact ⟨out', st2, 1 + 1, by go_num, by omega, ⟨(Kd.R_below (Kd.R_alloc (Kd.R_alloc HV.out.1 _) _) HD1.out), (Kd.R_below (Kd.R_alloc (Kd.R_alloc HV.out.2.1 _) _) HD1.out), (below_then (below_alloc (below_alloc HV.out.2.2 _) _) (below_alloc (below_alloc HV.out.2.2 _) _).size HD1.out)⟩, ⟨HSK.out, HT.out.2.1, HT.out.2.2⟩⟩
      case measure => simp [intOf]
     | true =>
      have HI1 := mk (fun W => spec_inRange.calls (((x0 : Int) + -1)) 0 15 _ W (inRange_eq' _ _ _))
      rw [hb] at HI1
      cases hb2 : (decide (0 ≤ (y0 : Int)) && decide ((y0 : Int) ≤ 15)) with
      | false =>
       exfalso
       simp at hb2
       omega
      | true =>
       have HI2 := mk (fun W => spec_inRange.calls (y0 : Int) 0 15 _ W (inRange_eq' _ _ _))
       rw [hb2] at HI2
       have hbc : 0 ≤ ((x0 : Int) - 1) ∧ ((x0 : Int) - 1) < 16 ∧ 0 ≤ (y0 : Int) ∧ (y0 : Int) < 16 := by simp at hb hb2; omega
       have HQ := mk (show (y0 : Int).toNat * 16 + (((x0 : Int) - 1)).toNat = ((y0 : Int) * 16 + ((x0 : Int) + -1)).toNat by omega)
       have hq256 : ((y0 : Int) * 16 + ((x0 : Int) + -1)).toNat < 256 := by omega
       have HBO := mk hbc
       clear hb hb2
       have hx1 : 1 ≤ x0 := by omega
       clear hbc
       cases hg : g ((y0 : Int) * 16 + ((x0 : Int) + -1)).toNat with
       | false =>
        have HSK := mk (mid_skip HM2.out (.inl (by rw [Bool.eq_false_iff]; intro h; have := ((hasP_iff g _ _).1 h).2.2.2.2; rw [HQ.out, hg] at this; cases this)))
        go_wp2_with (first | (go_at_call 62; (with_reducible refine (HI1.out _).mono ?_); rintro e W1 ⟨rfl, hd1⟩; have HD1 := mk hd1.below; clear hd1) | (go_at_call 62; (with_reducible refine (HI2.out _).mono ?_); rintro e W2 ⟨rfl, hd2⟩; have HD2 := mk hd2.below; clear hd2; have hcg := HRC.out W2 (below_then (below_then (below_alloc (below_alloc HV.out.2.2 _) _) (below_alloc (below_alloc HV.out.2.2 _) _).size HD1.out) (below_then (below_alloc (below_alloc HV.out.2.2 _) _) (below_alloc (below_alloc HV.out.2.2 _) _).size HD1.out).size HD2.out) (((((y0 : Int) * 16 + ((x0 : Int) + -1)).toNat : Nat) : Int)) (by omega) (by omega); rw [Int.toNat_natCast, rdT_nat g _ hq256, hg] at hcg))
        go_roundw
        case rel => exact ⟨out', st2, 1 + 1, by go_num, by omega, ⟨(Kd.R_below (Kd.R_below (Kd.R_alloc (Kd.R_alloc HV.out.1 _) _) HD1.out) HD2.out), (Kd.R_below (Kd.R_below (Kd.R_alloc (Kd.R_alloc HV.out.2.1 _) _) HD1.out) HD2.out), (below_then (below_then (below_alloc (below_alloc HV.out.2.2 _) _) (below_alloc (below_alloc HV.out.2.2 _) _).size HD1.out) (below_then (below_alloc (below_alloc HV.out.2.2 _) _) (below_alloc (below_alloc HV.out.2.2 _) _).size HD1.out).size HD2.out)⟩, ⟨HSK.out, HT.out.2.1, HT.out.2.2⟩⟩
        case measure => simp [intOf]
       | true =>
        cases ho : out' ((y0 : Int) * 16 + ((x0 : Int) + -1)).toNat with
        | true =>
         have HSK := mk (mid_skip HM2.out (.inr (by rw [HQ.out]; exact ho)))
         go_wp2_with (first | (go_at_call 62; (with_reducible refine (HI1.out _).mono ?_); rintro e W1 ⟨rfl, hd1⟩; have HD1 := mk hd1.below; clear hd1) | (go_at_call 62; (with_reducible refine (HI2.out _).mono ?_); rintro e W2 ⟨rfl, hd2⟩; have HD2 := mk hd2.below; clear hd2; have hcg := HRC.out W2 (below_then (below_then (below_alloc (below_alloc HV.out.2.2 _) _) (below_alloc (below_alloc HV.out.2.2 _) _).size HD1.out) (below_then (below_alloc (below_alloc HV.out.2.2 _) _) (below_alloc (below_alloc HV.out.2.2 _) _).size HD1.out).size HD2.out) (((((y0 : Int) * 16 + ((x0 : Int) + -1)).toNat : Nat) : Int)) (by omega) (by omega); rw [Int.toNat_natCast, rdT_nat g _ hq256, hg] at hcg; have hco := (tabR_cell (Kd.R_below (Kd.R_below (Kd.R_alloc (Kd.R_alloc HV.out.2.1 _) _) HD1.out) HD2.out) ((y0 : Int) * 16 + ((x0 : Int) + -1)).toNat hq256).1; rw [ho] at hco))
         go_roundw
         case rel => exact ⟨out', st2, 1 + 1, by go_num, by omega, ⟨(Kd.R_below (Kd.R_below (Kd.R_alloc (Kd.R_alloc HV.out.1 _) _) HD1.out) HD2.out), (Kd.R_below (Kd.R_below (Kd.R_alloc (Kd.R_alloc HV.out.2.1 _) _) HD1.out) HD2.out), (below_then (below_then (below_alloc (below_alloc HV.out.2.2 _) _) (below_alloc (below_alloc HV.out.2.2 _) _).size HD1.out) (below_then (below_alloc (below_alloc HV.out.2.2 _) _) (below_alloc (below_alloc HV.out.2.2 _) _).size HD1.out).size HD2.out)⟩, ⟨HSK.out, HT.out.2.1, HT.out.2.2⟩⟩
         case measure => simp [intOf]
        | false =>
         have HPU := mk (mid_push (todo' := st2 ++ [((y0 : Int) * 16 + ((x0 : Int) + -1)).toNat]) HM2.out ((hasP_iff g _ _).2 ⟨HBO.out.1, HBO.out.2.1, HBO.out.2.2.1, HBO.out.2.2.2, by rw [HQ.out]; exact hg⟩) (nb_adj p hp256 _ _ HBO.out.1 HBO.out.2.1 HBO.out.2.2.1 HBO.out.2.2.2 (by have h1 := HPX.out; have h2 := HPY.out; omega)) (fun q hq => by rw [HQ.out]; rcases List.mem_append.1 hq with h | h; exact .inr h; exact .inl (List.mem_singleton.1 h)) (fun q hq => List.mem_append_left _ hq) (by rw [HQ.out]; simp))
         rw [HQ.out] at HPU
         have HUN := mk (unseen_set out' ((y0 : Int) * 16 + ((x0 : Int) + -1)).toNat hq256 ho)
         have HXI := mk (show ((y0 : Int) * 16 + ((x0 : Int) + -1)) = ((((y0 : Int) * 16 + ((x0 : Int) + -1)).toNat : Nat) : Int) by omega)
         go_wp2_with (first | (go_at_call 62; (with_reducible refine (HI1.out _).mono ?_); rintro e W1 ⟨rfl, hd1⟩; have HD1 := mk hd1.below; clear hd1) | (go_at_call 62; (with_reducible refine (HI2.out _).mono ?_); rintro e W2 ⟨rfl, hd2⟩; have HD2 := mk hd2.below; clear hd2; have hcg := HRC.out W2 (below_then (below_then (below_alloc (below_alloc HV.out.2.2 _) _) (below_alloc (below_alloc HV.out.2.2 _) _).size HD1.out) (below_then (below_alloc (below_alloc HV.out.2.2 _) _) (below_alloc (below_alloc HV.out.2.2 _) _).size HD1.out).size HD2.out) (((((y0 : Int) * 16 + ((x0 : Int) + -1)).toNat : Nat) : Int)) (by omega) (by omega); rw [Int.toNat_natCast, rdT_nat g _ hq256, hg] at hcg; have hco := (tabR_cell (Kd.R_below (Kd.R_below (Kd.R_alloc (Kd.R_alloc HV.out.2.1 _) _) HD1.out) HD2.out) ((y0 : Int) * 16 + ((x0 : Int) + -1)).toNat hq256).1; rw [ho] at hco; have hcf := (tabR_cell (Kd.R_below (Kd.R_below (Kd.R_alloc (Kd.R_alloc HV.out.2.1 _) _) HD1.out) HD2.out) ((y0 : Int) * 16 + ((x0 : Int) + -1)).toNat hq256).2; obtain ⟨cc2, hcc2⟩ := Kd.R_typed (Kd.R_below (Kd.R_below (Kd.R_alloc (Kd.R_alloc HV.out.2.1 _) _) HD1.out) HD2.out) B rfl; have HS3 := mk (Kd.R_set (Kd.R_below (Kd.R_below (Kd.R_alloc (Kd.R_alloc HV.out.1 _) _) HD1.out) HD2.out) hcc2 (by decide) ((y0 : Int) * 16 + ((x0 : Int) + -1)).toNat (.bool true)); have HO3 := mk (tabR_put (Kd.R_below (Kd.R_below (Kd.R_alloc (Kd.R_alloc HV.out.2.1 _) _) HD1.out) HD2.out) ((y0 : Int) * 16 + ((x0 : Int) + -1)).toNat true); have HB3 := mk (below_set (g := B) (j := ((y0 : Int) * 16 + ((x0 : Int) + -1)).toNat) (v := .bool true) (below_then (below_then (below_alloc (below_alloc HV.out.2.2 _) _) (below_alloc (below_alloc HV.out.2.2 _) _).size HD1.out) (below_then (below_alloc (below_alloc HV.out.2.2 _) _) (below_alloc (below_alloc HV.out.2.2 _) _).size HD1.out).size HD2.out) HBL.out); clear hcc2) | ((with_reducible refine gate_builtin (b := .append) (xs := #[.tmp 96, .tmp 102]) rfl ?_); at_builtin; refine Kd.R_append (Kd.int .i64) (w0 := w) w.heap.size rfl (.tmp 96) (.tmp 102) 22 3 (.int .i64 0) 8 rfl Try.underlying22 info3 rfl (by decide) (by omega) u6 (st2.map fun (n : Nat) => (n : Int)) ((y0 : Int) * 16 + ((x0 : Int) + -1)) [.int .i64 ((y0 : Int) * 16 + ((x0 : Int) + -1))] (fun _ => True) (fun _ => False) rfl ?aX ?aP (fun _ hk => hk.elim) (fun _ _ => trivial) HS3.out HB3.out HB3.out.size ?aL ?_; (case aX => (go_simp; done)); (case aP => rfl); (case aL => (have hl_ := HT.out.2.1; rw [List.length_map]; omega)); intro v7 W7 ho7 hb7 hg7 hat7; have HS7 := mk ho7; have HB7 := mk hb7; have HO7 := mk (Kd.R_over HO3.out HS3.out (by decide) hg7); clear ho7 hb7 hg7 hat7))
         go_roundw
         case rel =>
          refine ⟨fun p => if p = ((y0 : Int) * 16 + ((x0 : Int) + -1)).toNat then true else out' p, st2 ++ [((y0 : Int) * 16 + ((x0 : Int) + -1)).toNat], 1 + 1, by go_num, by omega, ⟨by have h := HS7.out; rw [HXI.out] at h; rw [List.map_append]; exact h, HO7.out, HB7.out⟩, ⟨HPU.out, ?_, ?_⟩⟩
          ·have h1 := HUN.out
           have h2 := HT.out.2.1
           rw [List.length_append, List.length_singleton]
           omega
          have h1 := HUN.out
          have h2 := HT.out.2.2
          rw [List.length_append, List.length_singleton]
          omega
         case measure => simp [intOf]
    ·have HM2 := mk (show Mid g s out' st2 p (((x0 : Int), ((y0 : Int) + 1)) :: (nbListS x0 y0).drop (2 + 1)) from by have h := HT.out.1; rw [HDR.out] at h; exact h)
     cases hb : (decide (0 ≤ (x0 : Int)) && decide ((x0 : Int) ≤ 15)) with
     | false =>
      exfalso
      simp at hb
      omega
     | true =>
      have HI1 := mk (fun W => spec_inRange.calls (x0 : Int) 0 15 _ W (inRange_eq' _ _ _))
      rw [hb] at HI1
      cases hb2 : (decide (0 ≤ ((y0 : Int) + 1)) && decide (((y0 : Int) + 1) ≤ 15)) with
      | false =>
       have HI2 := mk (fun W => spec_inRange.calls (((y0 : Int) + 1)) 0 15 _ W (inRange_eq' _ _ _))
       rw [hb2] at HI2
       have HSK := mk (mid_skip HM2.out (.inl (hasP_no g (x0 : Int) (((y0 : Int) + 1)) (by simp at hb2; omega))))
       clear hb hb2
       go_wp2_with (first | (go_at_call 62; (with_reducible refine (HI1.out _).mono ?_); rintro e W1 ⟨rfl, hd1⟩; have HD1 := mk hd1.below; clear hd1) | (go_at_call 62; (with_reducible refine (HI2.out _).mono ?_); rintro e W2 ⟨rfl, hd2⟩; have HD2 := mk hd2.below; clear hd2))
       go_roundw
       case rel => exact ⟨out', st2, 2 + 1, by go_num, by omega, ⟨(Kd.R_below (Kd.R_below (Kd.R_alloc (Kd.R_alloc HV.out.1 _) _) HD1.out) HD2.out), (Kd.R_below (Kd.R_below (Kd.R_alloc (Kd.R_alloc HV.out.2.1 _) _) HD1.out) HD2.out), (below_then (below_then (below_alloc (below_alloc HV.out.2.2 _) _) (below_alloc (below_alloc HV.out.2.2 _) _).size HD1.out) (below_then (below_alloc (below_alloc HV.out.2.2 _) _) (below_alloc (below_alloc HV.out.2.2 _) _).size HD1.out).size HD2.out)⟩, ⟨HSK.out, HT.out.2.1, HT.out.2.2⟩⟩
       case measure => simp [intOf]
      | true =>
       have HI2 := mk (fun W => spec_inRange.calls (((y0 : Int) + 1)) 0 15 _ W (inRange_eq' _ _ _))
       rw [hb2] at HI2
       have hbc : 0 ≤ (x0 : Int) ∧ (x0 : Int) < 16 ∧ 0 ≤ ((y0 : Int) + 1) ∧ ((y0 : Int) + 1) < 16 := by simp at hb hb2; omega
       have HQ := mk (show (((y0 : Int) + 1)).toNat * 16 + (x0 : Int).toNat = ((y0 + 1) * 16 + x0) by omega)
       have hq256 : ((y0 + 1) * 16 + x0) < 256 := by omega
       have HBO := mk hbc
       clear hb hb2 hbc
       cases hg : g ((y0 + 1) * 16 + x0) with
       | false =>
        have HSK := mk (mid_skip HM2.out (.inl (by rw [Bool.eq_false_iff]; intro h; have := ((hasP_iff g _ _).1 h).2.2.2.2; rw [HQ.out, hg] at this; cases this)))
        go_wp2_with (first | (go_at_call 62; (with_reducible refine (HI1.out _).mono ?_); rintro e W1 ⟨rfl, hd1⟩; have HD1 := mk hd1.below; clear hd1) | (go_at_call 62; (with_reducible refine (HI2.out _).mono ?_); rintro e W2 ⟨rfl, hd2⟩; have HD2 := mk hd2.below; clear hd2; have hcg := HRC.out W2 (below_then (below_then (below_alloc (below_alloc HV.out.2.2 _) _) (below_alloc (below_alloc HV.out.2.2 _) _).size HD1.out) (below_then (below_alloc (below_alloc HV.out.2.2 _) _) (below_alloc (below_alloc HV.out.2.2 _) _).size HD1.out).size HD2.out) (((((y0 + 1) * 16 + x0) : Nat) : Int)) (by omega) (by omega); rw [Int.toNat_natCast, rdT_nat g _ hq256, hg] at hcg))
        go_roundw
        case rel => exact ⟨out', st2, 2 + 1, by go_num, by omega, ⟨(Kd.R_below (Kd.R_below (Kd.R_alloc (Kd.R_alloc HV.out.1 _) _) HD1.out) HD2.out), (Kd.R_below (Kd.R_below (Kd.R_alloc (Kd.R_alloc HV.out.2.1 _) _) HD1.out) HD2.out), (below_then (below_then (below_alloc (below_alloc HV.out.2.2 _) _) (below_alloc (below_alloc HV.out.2.2 _) _).size HD1.out) (below_then (below_alloc (below_alloc HV.out.2.2 _) _) (below_alloc (below_alloc HV.out.2.2 _) _).size HD1.out).size HD2.out)⟩, ⟨HSK.out, HT.out.2.1, HT.out.2.2⟩⟩
        case measure => simp [intOf]
       | true =>
        cases ho : out' ((y0 + 1) * 16 + x0) with
        | true =>
         have HSK := mk (mid_skip HM2.out (.inr (by rw [HQ.out]; exact ho)))
         go_wp2_with (first | (go_at_call 62; (with_reducible refine (HI1.out _).mono ?_); rintro e W1 ⟨rfl, hd1⟩; have HD1 := mk hd1.below; clear hd1) | (go_at_call 62; (with_reducible refine (HI2.out _).mono ?_); rintro e W2 ⟨rfl, hd2⟩; have HD2 := mk hd2.below; clear hd2; have hcg := HRC.out W2 (below_then (below_then (below_alloc (below_alloc HV.out.2.2 _) _) (below_alloc (below_alloc HV.out.2.2 _) _).size HD1.out) (below_then (below_alloc (below_alloc HV.out.2.2 _) _) (below_alloc (below_alloc HV.out.2.2 _) _).size HD1.out).size HD2.out) (((((y0 + 1) * 16 + x0) : Nat) : Int)) (by omega) (by omega); rw [Int.toNat_natCast, rdT_nat g _ hq256, hg] at hcg; have hco := (tabR_cell (Kd.R_below (Kd.R_below (Kd.R_alloc (Kd.R_alloc HV.out.2.1 _) _) HD1.out) HD2.out) ((y0 + 1) * 16 + x0) hq256).1; rw [ho] at hco))
         go_roundw
         case rel => exact ⟨out', st2, 2 + 1, by go_num, by omega, ⟨(Kd.R_below (Kd.R_below (Kd.R_alloc (Kd.R_alloc HV.out.1 _) _) HD1.out) HD2.out), (Kd.R_below (Kd.R_below (Kd.R_alloc (Kd.R_alloc HV.out.2.1 _) _) HD1.out) HD2.out), (below_then (below_then (below_alloc (below_alloc HV.out.2.2 _) _) (below_alloc (below_alloc HV.out.2.2 _) _).size HD1.out) (below_then (below_alloc (below_alloc HV.out.2.2 _) _) (below_alloc (below_alloc HV.out.2.2 _) _).size HD1.out).size HD2.out)⟩, ⟨HSK.out, HT.out.2.1, HT.out.2.2⟩⟩
         case measure => simp [intOf]
        | false =>
         have HPU := mk (mid_push (todo' := st2 ++ [((y0 + 1) * 16 + x0)]) HM2.out ((hasP_iff g _ _).2 ⟨HBO.out.1, HBO.out.2.1, HBO.out.2.2.1, HBO.out.2.2.2, by rw [HQ.out]; exact hg⟩) (nb_adj p hp256 _ _ HBO.out.1 HBO.out.2.1 HBO.out.2.2.1 HBO.out.2.2.2 (by have h1 := HPX.out; have h2 := HPY.out; omega)) (fun q hq => by rw [HQ.out]; rcases List.mem_append.1 hq with h | h; exact .inr h; exact .inl (List.mem_singleton.1 h)) (fun q hq => List.mem_append_left _ hq) (by rw [HQ.out]; simp))
         rw [HQ.out] at HPU
         have HUN := mk (unseen_set out' ((y0 + 1) * 16 + x0) hq256 ho)
         have HXI := mk (show (((y0 : Int) + 1) * 16 + (x0 : Int)) = ((((y0 + 1) * 16 + x0) : Nat) : Int) by omega)
         go_wp2_with (first | (go_at_call 62; (with_reducible refine (HI1.out _).mono ?_); rintro e W1 ⟨rfl, hd1⟩; have HD1 := mk hd1.below; clear hd1) | (go_at_call 62; (with_reducible refine (HI2.out _).mono ?_); rintro e W2 ⟨rfl, hd2⟩; have HD2 := mk hd2.below; clear hd2; have hcg := HRC.out W2 (below_then (below_then (below_alloc (below_alloc HV.out.2.2 _) _) (below_alloc (below_alloc HV.out.2.2 _) _).size HD1.out) (below_then (below_alloc (below_alloc HV.out.2.2 _) _) (below_alloc (below_alloc HV.out.2.2 _) _).size HD1.out).size HD2.out) (((((y0 + 1) * 16 + x0) : Nat) : Int)) (by omega) (by omega); rw [Int.toNat_natCast, rdT_nat g _ hq256, hg] at hcg; have hco := (tabR_cell (Kd.R_below (Kd.R_below (Kd.R_alloc (Kd.R_alloc HV.out.2.1 _) _) HD1.out) HD2.out) ((y0 + 1) * 16 + x0) hq256).1; rw [ho] at hco; have hcf := (tabR_cell (Kd.R_below (Kd.R_below (Kd.R_alloc (Kd.R_alloc HV.out.2.1 _) _) HD1.out) HD2.out) ((y0 + 1) * 16 + x0) hq256).2; obtain ⟨cc2, hcc2⟩ := Kd.R_typed (Kd.R_below (Kd.R_below (Kd.R_alloc (Kd.R_alloc HV.out.2.1 _) _) HD1.out) HD2.out) B rfl; have HS3 := mk (Kd.R_set (Kd.R_below (Kd.R_below (Kd.R_alloc (Kd.R_alloc HV.out.1 _) _) HD1.out) HD2.out) hcc2 (by decide) ((y0 + 1) * 16 + x0) (.bool true)); have HO3 := mk (tabR_put (Kd.R_below (Kd.R_below (Kd.R_alloc (Kd.R_alloc HV.out.2.1 _) _) HD1.out) HD2.out) ((y0 + 1) * 16 + x0) true); have HB3 := mk (below_set (g := B) (j := ((y0 + 1) * 16 + x0)) (v := .bool true) (below_then (below_then (below_alloc (below_alloc HV.out.2.2 _) _) (below_alloc (below_alloc HV.out.2.2 _) _).size HD1.out) (below_then (below_alloc (below_alloc HV.out.2.2 _) _) (below_alloc (below_alloc HV.out.2.2 _) _).size HD1.out).size HD2.out) HBL.out); clear hcc2) | ((with_reducible refine gate_builtin (b := .append) (xs := #[.tmp 96, .tmp 102]) rfl ?_); at_builtin; refine Kd.R_append (Kd.int .i64) (w0 := w) w.heap.size rfl (.tmp 96) (.tmp 102) 22 3 (.int .i64 0) 8 rfl Try.underlying22 info3 rfl (by decide) (by omega) u6 (st2.map fun (n : Nat) => (n : Int)) (((y0 : Int) + 1) * 16 + (x0 : Int)) [.int .i64 (((y0 : Int) + 1) * 16 + (x0 : Int))] (fun _ => True) (fun _ => False) rfl ?aX ?aP (fun _ hk => hk.elim) (fun _ _ => trivial) HS3.out HB3.out HB3.out.size ?aL ?_; (case aX => (go_simp; done)); (case aP => rfl); (case aL => (have hl_ := HT.out.2.1; rw [List.length_map]; omega)); intro v7 W7 ho7 hb7 hg7 hat7; have HS7 := mk ho7; have HB7 := mk hb7; have HO7 := mk (Kd.R_over HO3.out HS3.out (by decide) hg7); clear ho7 hb7 hg7 hat7))
         go_roundw
         case rel =>
          refine ⟨fun p => if p = ((y0 + 1) * 16 + x0) then true else out' p, st2 ++ [((y0 + 1) * 16 + x0)], 2 + 1, by go_num, by omega, ⟨by have h := HS7.out; rw [HXI.out] at h; rw [List.map_append]; exact h, HO7.out, HB7.out⟩, ⟨HPU.out, ?_, ?_⟩⟩
          ·have h1 := HUN.out
           have h2 := HT.out.2.1
           rw [List.length_append, List.length_singleton]
           omega
          have h1 := HUN.out
          have h2 := HT.out.2.2
          rw [List.length_append, List.length_singleton]
          omega
         case measure => simp [intOf]
    have HM2 := mk (show Mid g s out' st2 p (((x0 : Int), ((y0 : Int) - 1)) :: (nbListS x0 y0).drop (3 + 1)) from by have h := HT.out.1; rw [HDR.out] at h; exact h)
    cases hb : (decide (0 ≤ (x0 : Int)) && decide ((x0 : Int) ≤ 15)) with
    | false =>
     exfalso
     simp at hb
     omega
    | true =>
     have HI1 := mk (fun W => spec_inRange.calls (x0 : Int) 0 15 _ W (inRange_eq' _ _ _))
     rw [hb] at HI1
     cases hb2 : (decide (0 ≤ ((y0 : Int) + -1)) && decide (((y0 : Int) + -1) ≤ 15)) with
     | false =>
      have HI2 := mk (fun W => spec_inRange.calls (((y0 : Int) + -1)) 0 15 _ W (inRange_eq' _ _ _))
      rw [hb2] at HI2
      have HSK := mk (mid_skip HM2.out (.inl (hasP_no g (x0 : Int) (((y0 : Int) - 1)) (by simp at hb2; omega))))
      clear hb hb2
      go_wp2_with (first | (go_at_call 62; (with_reducible refine (HI1.out _).mono ?_); rintro e W1 ⟨rfl, hd1⟩; have HD1 := mk hd1.below; clear hd1) | (go_at_call 62; (with_reducible refine (HI2.out _).mono ?_); rintro e W2 ⟨rfl, hd2⟩; have HD2 := mk hd2.below; clear hd2))
      go_roundw
      case rel => exact ⟨out', st2, 3 + 1, by go_num, by omega, ⟨(Kd.R_below (Kd.R_below (Kd.R_alloc (Kd.R_alloc HV.out.1 _) _) HD1.out) HD2.out), (Kd.R_below (Kd.R_below (Kd.R_alloc (Kd.R_alloc HV.out.2.1 _) _) HD1.out) HD2.out), (below_then (below_then (below_alloc (below_alloc HV.out.2.2 _) _) (below_alloc (below_alloc HV.out.2.2 _) _).size HD1.out) (below_then (below_alloc (below_alloc HV.out.2.2 _) _) (below_alloc (below_alloc HV.out.2.2 _) _).size HD1.out).size HD2.out)⟩, ⟨HSK.out, HT.out.2.1, HT.out.2.2⟩⟩
      case measure => simp [intOf]
     | true =>
      have HI2 := mk (fun W => spec_inRange.calls (((y0 : Int) + -1)) 0 15 _ W (inRange_eq' _ _ _))
      rw [hb2] at HI2
      have hbc : 0 ≤ (x0 : Int) ∧ (x0 : Int) < 16 ∧ 0 ≤ ((y0 : Int) - 1) ∧ ((y0 : Int) - 1) < 16 := by simp at hb hb2; omega
      have HQ := mk (show (((y0 : Int) - 1)).toNat * 16 + (x0 : Int).toNat = (((y0 : Int) + -1) * 16 + (x0 : Int)).toNat by omega)
      have hq256 : (((y0 : Int) + -1) * 16 + (x0 : Int)).toNat < 256 := by omega
      have HBO := mk hbc
      clear hb hb2
      have hy1 : 1 ≤ y0 := by omega
      clear hbc
      cases hg : g (((y0 : Int) + -1) * 16 + (x0 : Int)).toNat with
      | false =>
       have HSK := mk (mid_skip HM2.out (.inl (by rw [Bool.eq_false_iff]; intro h; have := ((hasP_iff g _ _).1 h).2.2.2.2; rw [HQ.out, hg] at this; cases this)))
       go_wp2_with (first | (go_at_call 62; (with_reducible refine (HI1.out _).mono ?_); rintro e W1 ⟨rfl, hd1⟩; have HD1 := mk hd1.below; clear hd1) | (go_at_call 62; (with_reducible refine (HI2.out _).mono ?_); rintro e W2 ⟨rfl, hd2⟩; have HD2 := mk hd2.below; clear hd2; have hcg := HRC.out W2 (below_then (below_then (below_alloc (below_alloc HV.out.2.2 _) _) (below_alloc (below_alloc HV.out.2.2 _) _).size HD1.out) (below_then (below_alloc (below_alloc HV.out.2.2 _) _) (below_alloc (below_alloc HV.out.2.2 _) _).size HD1.out).size HD2.out) ((((((y0 : Int) + -1) * 16 + (x0 : Int)).toNat : Nat) : Int)) (by omega) (by omega); rw [Int.toNat_natCast, rdT_nat g _ hq256, hg] at hcg))
       go_roundw
       case rel => exact ⟨out', st2, 3 + 1, by go_num, by omega, ⟨(Kd.R_below (Kd.R_below (Kd.R_alloc (Kd.R_alloc HV.out.1 _) _) HD1.out) HD2.out), (Kd.R_below (Kd.R_below (Kd.R_alloc (Kd.R_alloc HV.out.2.1 _) _) HD1.out) HD2.out), (below_then (below_then (below_alloc (below_alloc HV.out.2.2 _) _) (below_alloc (below_alloc HV.out.2.2 _) _).size HD1.out) (below_then (below_alloc (below_alloc HV.out.2.2 _) _) (below_alloc (below_alloc HV.out.2.2 _) _).size HD1.out).size HD2.out)⟩, ⟨HSK.out, HT.out.2.1, HT.out.2.2⟩⟩
       case measure => simp [intOf]
      | true =>
       cases ho : out' (((y0 : Int) + -1) * 16 + (x0 : Int)).toNat with
       | true =>
        have HSK := mk (mid_skip HM2.out (.inr (by rw [HQ.out]; exact ho)))
        go_wp2_with (first | (go_at_call 62; (with_reducible refine (HI1.out _).mono ?_); rintro e W1 ⟨rfl, hd1⟩; have HD1 := mk hd1.below; clear hd1) | (go_at_call 62; (with_reducible refine (HI2.out _).mono ?_); rintro e W2 ⟨rfl, hd2⟩; have HD2 := mk hd2.below; clear hd2; have hcg := HRC.out W2 (below_then (below_then (below_alloc (below_alloc HV.out.2.2 _) _) (below_alloc (below_alloc HV.out.2.2 _) _).size HD1.out) (below_then (below_alloc (below_alloc HV.out.2.2 _) _) (below_alloc (below_alloc HV.out.2.2 _) _).size HD1.out).size HD2.out) ((((((y0 : Int) + -1) * 16 + (x0 : Int)).toNat : Nat) : Int)) (by omega) (by omega); rw [Int.toNat_natCast, rdT_nat g _ hq256, hg] at hcg; have hco := (tabR_cell (Kd.R_below (Kd.R_below (Kd.R_alloc (Kd.R_alloc HV.out.2.1 _) _) HD1.out) HD2.out) (((y0 : Int) + -1) * 16 + (x0 : Int)).toNat hq256).1; rw [ho] at hco))
        go_roundw
        case rel => exact ⟨out', st2, 3 + 1, by go_num, by omega, ⟨(Kd.R_below (Kd.R_below (Kd.R_alloc (Kd.R_alloc HV.out.1 _) _) HD1.out) HD2.out), (Kd.R_below (Kd.R_below (Kd.R_alloc (Kd.R_alloc HV.out.2.1 _) _) HD1.out) HD2.out), (below_then (below_then (below_alloc (below_alloc HV.out.2.2 _) _) (below_alloc (below_alloc HV.out.2.2 _) _).size HD1.out) (below_then (below_alloc (below_alloc HV.out.2.2 _) _) (below_alloc (below_alloc HV.out.2.2 _) _).size HD1.out).size HD2.out)⟩, ⟨HSK.out, HT.out.2.1, HT.out.2.2⟩⟩
        case measure => simp [intOf]
       | false =>
        have HPU := mk (mid_push (todo' := st2 ++ [(((y0 : Int) + -1) * 16 + (x0 : Int)).toNat]) HM2.out ((hasP_iff g _ _).2 ⟨HBO.out.1, HBO.out.2.1, HBO.out.2.2.1, HBO.out.2.2.2, by rw [HQ.out]; exact hg⟩) (nb_adj p hp256 _ _ HBO.out.1 HBO.out.2.1 HBO.out.2.2.1 HBO.out.2.2.2 (by have h1 := HPX.out; have h2 := HPY.out; omega)) (fun q hq => by rw [HQ.out]; rcases List.mem_append.1 hq with h | h; exact .inr h; exact .inl (List.mem_singleton.1 h)) (fun q hq => List.mem_append_left _ hq) (by rw [HQ.out]; simp))
        rw [HQ.out] at HPU
        have HUN := mk (unseen_set out' (((y0 : Int) + -1) * 16 + (x0 : Int)).toNat hq256 ho)
        have HXI := mk (show (((y0 : Int) + -1) * 16 + (x0 : Int)) = (((((y0 : Int) + -1) * 16 + (x0 : Int)).toNat : Nat) : Int) by omega)
        go_wp2_with (first | (go_at_call 62; (with_reducible refine (HI1.out _).mono ?_); rintro e W1 ⟨rfl, hd1⟩; have HD1 := mk hd1.below; clear hd1) | (go_at_call 62; (with_reducible refine (HI2.out _).mono ?_); rintro e W2 ⟨rfl, hd2⟩; have HD2 := mk hd2.below; clear hd2; have hcg := HRC.out W2 (below_then (below_then (below_alloc (below_alloc HV.out.2.2 _) _) (below_alloc (below_alloc HV.out.2.2 _) _).size HD1.out) (below_then (below_alloc (below_alloc HV.out.2.2 _) _) (below_alloc (below_alloc HV.out.2.2 _) _).size HD1.out).size HD2.out) ((((((y0 : Int) + -1) * 16 + (x0 : Int)).toNat : Nat) : Int)) (by omega) (by omega); rw [Int.toNat_natCast, rdT_nat g _ hq256, hg] at hcg; have hco := (tabR_cell (Kd.R_below (Kd.R_below (Kd.R_alloc (Kd.R_alloc HV.out.2.1 _) _) HD1.out) HD2.out) (((y0 : Int) + -1) * 16 + (x0 : Int)).toNat hq256).1; rw [ho] at hco; have hcf := (tabR_cell (Kd.R_below (Kd.R_below (Kd.R_alloc (Kd.R_alloc HV.out.2.1 _) _) HD1.out) HD2.out) (((y0 : Int) + -1) * 16 + (x0 : Int)).toNat hq256).2; obtain ⟨cc2, hcc2⟩ := Kd.R_typed (Kd.R_below (Kd.R_below (Kd.R_alloc (Kd.R_alloc HV.out.2.1 _) _) HD1.out) HD2.out) B rfl; have HS3 := mk (Kd.R_set (Kd.R_below (Kd.R_below (Kd.R_alloc (Kd.R_alloc HV.out.1 _) _) HD1.out) HD2.out) hcc2 (by decide) (((y0 : Int) + -1) * 16 + (x0 : Int)).toNat (.bool true)); have HO3 := mk (tabR_put (Kd.R_below (Kd.R_below (Kd.R_alloc (Kd.R_alloc HV.out.2.1 _) _) HD1.out) HD2.out) (((y0 : Int) + -1) * 16 + (x0 : Int)).toNat true); have HB3 := mk (below_set (g := B) (j := (((y0 : Int) + -1) * 16 + (x0 : Int)).toNat) (v := .bool true) (below_then (below_then (below_alloc (below_alloc HV.out.2.2 _) _) (below_alloc (below_alloc HV.out.2.2 _) _).size HD1.out) (below_then (below_alloc (below_alloc HV.out.2.2 _) _) (below_alloc (below_alloc HV.out.2.2 _) _).size HD1.out).size HD2.out) HBL.out); clear hcc2) | ((with_reducible refine gate_builtin (b := .append) (xs := #[.tmp 96, .tmp 102]) rfl ?_); at_builtin; refine Kd.R_append (Kd.int .i64) (w0 := w) w.heap.size rfl (.tmp 96) (.tmp 102) 22 3 (.int .i64 0) 8 rfl Try.underlying22 info3 rfl (by decide) (by omega) u6 (st2.map fun (n : Nat) => (n : Int)) (((y0 : Int) + -1) * 16 + (x0 : Int)) [.int .i64 (((y0 : Int) + -1) * 16 + (x0 : Int))] (fun _ => True) (fun _ => False) rfl ?aX ?aP (fun _ hk => hk.elim) (fun _ _ => trivial) HS3.out HB3.out HB3.out.size ?aL ?_; (case aX => (go_simp; done)); (case aP => rfl); (case aL => (have hl_ := HT.out.2.1; rw [List.length_map]; omega)); intro v7 W7 ho7 hb7 hg7 hat7; have HS7 := mk ho7; have HB7 := mk hb7; have HO7 := mk (Kd.R_over HO3.out HS3.out (by decide) hg7); clear ho7 hb7 hg7 hat7))
        go_roundw
        case rel =>
         refine ⟨fun p => if p = (((y0 : Int) + -1) * 16 + (x0 : Int)).toNat then true else out' p, st2 ++ [(((y0 : Int) + -1) * 16 + (x0 : Int)).toNat], 3 + 1, by go_num, by omega, ⟨by have h := HS7.out; rw [HXI.out] at h; rw [List.map_append]; exact h, HO7.out, HB7.out⟩, ⟨HPU.out, ?_, ?_⟩⟩
         ·have h1 := HUN.out
          have h2 := HT.out.2.1
          rw [List.length_append, List.length_singleton]
          omega
         have h1 := HUN.out
         have h2 := HT.out.2.2
         rw [List.length_append, List.length_singleton]
         omega
        case measure => simp [intOf]
   have hd4 : d = 4 := by omega
   subst hd4
   go_wp2
   go_roundw
   case rel => exact ⟨out', st2, p, HV, ⟨HT.out.1, HT.out.2.1⟩⟩
   case measure =>
    obtain ⟨A2, c2, e2, _⟩ := Kd.Q_slice (Kd.Q_of_R HV.out.1)
    have h1 := unseen_outT HV.out.2.1
    have h2 := HMS.out
    have h3 := HT.out.2.2
    have h5 := HUE.out
    subst e2
    show 2 * unseen (outT wi B) + (st2.map fun (n : Nat) => (n : Int)).length < 2 * unseen (outT wo B) + (m + 1)
    rw [h1, h2, List.length_map]
    omega
theorem spec_spreadFrom.calls (A0 : Option Addr) (c0 : Nat) (l0 : List Bool) (a1 : Int) (r : List Bool) (w : World) (hr0 : Kd.bool.C w A0 l0.length l0) (hc0 : l0.length ≤ c0) (h : spec_spreadFrom.f l0 a1 = some r) :
  Calls Try.prog 66 #[.slice A0 l0.length c0, .int .i64 a1] w fun e w' => ∃ v0_ : Value, e = .returned v0_ ∧ Kd.bool.R 4 w' w.heap.size (fun _ => True) v0_ r ∧ Below w.heap.size w w' := by
 unfold spec_spreadFrom.f at h
 by_cases hl : l0.length = 256 ∧ 0 ≤ a1 ∧ a1 < 256
 ·rw [if_pos hl] at h
  obtain rfl := Option.some.inj h
  obtain ⟨hl, h0, h1⟩ := hl
  obtain ⟨s, rfl⟩ := Int.eq_ofNat_of_zero_le h0
  rw [hl] at hr0 hc0 ⊢
  rw [tab_of l0 hl] at hr0
  exact spread_calls A0 c0 _ s (by omega) w hr0 hc0
 rw [if_neg hl] at h; cases h
end Go.Proofs.Ytbgohbinonkhfaa.Q

namespace Go.Proofs.Ytbgohbinonkhfaa.Q
open Go.RowKit Go.Proofs.YtbgohbinonkhfaaW.PrintWords Go.Proofs.YtbgohbinonkhfaaW.PrintLast Go.Proofs.YtbgohbinonkhfaaW.PrintMore
attribute [local go_sem] max2_int min2_int max_two min_two max_three min_three max_four min_four
set_option linter.unusedVariables false
set_option linter.unusedSimpArgs false
open Go.Proofs.YtbgohbinonkhfaaW.PrintWords.Aside0 (mk)
set_option maxHeartbeats 12000000
set_option maxRecDepth 100000
mutual
noncomputable def spec_parts.l0 : Nat → List (List S47) → List Bool → Int → Option ((List (List S47)))
 | 0, _, _, _ => none
 | k + 1, x3, x4, x5 => if x5 < (x4.length : Int) then (if 0 ≤ x5 then (if rdOf false x4 x5 = true then ((spec_spreadFrom.f x4 x5).bind fun tz0 => ((spec_runsOf.f k tz0).bind fun tz1 => (if x3.length < 5864062014805 then (spec_parts.l1 k (x3 ++ [tz1]) x4 x5 tz0 0) else none))) else (spec_parts.l0 k x3 x4 (wrap64 (x5 + 1)))) else none) else (some x3)
noncomputable def spec_parts.l1 : Nat → List (List S47) → List Bool → Int → List Bool → Int → Option ((List (List S47)))
 | 0, _, _, _, _, _ => none
 | k + 1, x3, x4, x5, x6, x7 => if x7 < (x4.length : Int) then (if 0 ≤ x7 then (if rdOf false x4 x7 = true then (if x7 < (x6.length : Int) then (spec_parts.l1 k x3 (x4.set (x7 : Int).toNat (!(rdOf false x6 x7))) x5 x6 (wrap64 (x7 + 1))) else none) else (spec_parts.l1 k x3 (x4.set (x7 : Int).toNat false) x5 x6 (wrap64 (x7 + 1)))) else none) else (spec_parts.l0 k x3 x4 (wrap64 (x5 + 1)))
end
noncomputable def spec_parts.f (k : Nat) (l0 : List S47) : Option ((List (List S47))) := (spec_gridOf.f k l0).bind fun tz2 => (spec_parts.l0 k (([] : List (List S47))) tz2 0)
theorem spec_parts.calls (k : Nat) (A0 : Option Addr) (c0 : Nat) (l0 : List S47) (r : List (List S47)) (w : World) (hr0 : Kd.C k47 w A0 l0.length l0) (hc0 : l0.length ≤ c0) (h : spec_parts.f k l0 = some r) :
  Calls Try.prog 76 #[.slice A0 l0.length c0] w fun e w' => ∃ v0_ : Value, e = .returned v0_ ∧ Kd.S (Kd.slice 47 k47) 26 w' w.heap.size (fun _ => True) v0_ r ∧ Below w.heap.size w w' := by
 have HR0 := mk hr0
 have HC0 := mk hc0
 clear hr0 hc0
 have HB := mk (Below.refl w.heap.size w)
 have H : ((spec_gridOf.f k l0).bind fun tz2 => (spec_parts.l0 k (([] : List (List S47))) tz2 0)) = some r := h
 clear h
 obtain ⟨yz1, hyz0⟩ : ∃ y_ : List (List S47), y_ = (([] : List (List S47))) := ⟨_, rfl⟩
 replace H : ((spec_gridOf.f k l0).bind fun tz2 => (spec_parts.l0 k yz1 tz2 0)) = some r := by (rw [hyz0]; with_reducible exact H)
 have Nyz0 := mk hyz0
 clear hyz0
 replace H := Option.bind_eq_some_iff.mp H
 obtain ⟨tz2, A20, H⟩ := H
 replace H : (spec_parts.l0 k yz1 tz2 0) = some r := H
 have A2 := mk A20
 clear A20
 have H' := mk H
 clear H
 go_enter Try.func76, Try.ntmps76
 go_wp2_with (first | ((with_reducible refine gate_dst (N := 8) rfl ?_); refine Kd.S_lit (Kd.slice 47 k47) _ 26 ?hg (N := 8) ?hd (xs := ([] : List (List S47))) (inner := []) (ok := fun _ => True) (okp := fun _ => True) ?hr ?hp (fun _ hk => hk) trivial (Below.refl _ _) (Nat.le_refl _) (by simp) ?_; (case hd => rfl); (case hg => rfl); (case hr => (go_simp; done)); (case hp => exact (Reps.none _ _)); intro vz2 w3 ho4 hb hg_ hnew_; clear hg_ hnew_; (rw [← Nyz0.out] at ho4); have HOz2 := mk (Kd.S_lower ho4 (below_size HB.out)); replace HB := mk (below_step HB.out hb); clear hb ho4) | ((with_reducible refine gate_callee (f := 104) rfl ?_); refine goesL_ (some 10) rfl rfl Try.func104 (by kernel_rfl) rfl #[.slice A0 l0.length c0] rfl (by (try simp only [bitvec_to_nat]); rfl) ?_; (with_reducible refine (spec_gridOf.calls k _ _ l0 tz2 _ ?side1 ?side2 A2.out).mono ?_); (case side1 => repeat (exact (Kd.C_below HR0.out HB.out))); (case side2 => exact HC0.out); rintro e w5 ⟨vz0, rfl, ho0, hb⟩; refine ⟨_, rfl, ?_⟩; replace HOz2 := mk (Kd.S_below HOz2.out hb); have HOz3 := mk (Kd.R_lower ho0 (below_size HB.out)); replace HB := mk (below_step HB.out hb); (try clear hb); (try clear ho0)))
 go_loopg [3, 5] k (fun kq v3 v5 w' => ∃ (x3_1 : List (List S47)) (x4_1 : List Bool) (x5_1 : Int), v5 = .int .i64 x5_1 ∧ Aside0 (spec_parts.l0 kq x3_1 x4_1 x5_1 = some r) ∧ Aside0 (kq ≤ k) ∧ Aside0 (Kd.S (Kd.slice 47 k47) 26 w' w.heap.size (fun _ => True) v3 x3_1) ∧ Aside0 (Kd.R Kd.bool 4 w' w.heap.size (fun _ => True) vz0 x4_1) ∧ Aside0 (Below w.heap.size w w'))
 case atStart => exact ⟨(yz1), (tz2), (0), (by rfl), H', ⟨Nat.le_refl _⟩, HOz2, HOz3, HB⟩
 case round =>
  clear H'
  obtain ⟨x3_1, x4_1, x5_1, rfl, HA, HK1, HO_3, HO_4, HB⟩ := hrel
  cases gk with
  | zero => exact absurd HA.out (by simp [spec_parts.l0])
  | succ k1 =>
   have H := HA.out
   clear HA
   simp only [spec_parts.l0] at H
   by_cases c6 : x5_1 < (x4_1.length : Int)
   ·rw [if_pos c6] at H
    have c6b0 : decide (x5_1 < (x4_1.length : Int)) = true := decide_eq_true c6
    clear c6
    by_cases c7 : 0 ≤ x5_1
    ·rw [if_pos c7] at H
     have c7b0 : decide (0 ≤ x5_1) = true := decide_eq_true c7
     clear c7
     obtain ⟨bq8, hbq8⟩ : ∃ b_ : Bool, b_ = (rdOf false x4_1 x5_1) := ⟨_, rfl⟩
     replace H : (if bq8 = true then ((spec_spreadFrom.f x4_1 x5_1).bind fun tz0 => ((spec_runsOf.f k1 tz0).bind fun tz1 => (if x3_1.length < 5864062014805 then (spec_parts.l1 k1 (x3_1 ++ [tz1]) x4_1 x5_1 tz0 0) else none))) else (spec_parts.l0 k1 x3_1 x4_1 (wrap64 (x5_1 + 1)))) = some r := by rw [← hbq8] at H; exact H
     have Nbq8 := mk hbq8
     clear hbq8
     by_cases c9 : bq8 = true
     ·subst c9
      have H1 : ((spec_spreadFrom.f x4_1 x5_1).bind fun tz0 => ((spec_runsOf.f k1 tz0).bind fun tz1 => (if x3_1.length < 5864062014805 then (spec_parts.l1 k1 (x3_1 ++ [tz1]) x4_1 x5_1 tz0 0) else none))) = some r := by rw [if_pos rfl] at H; exact H
      clear H
      have H := H1
      clear H1
      replace H := Option.bind_eq_some_iff.mp H
      obtain ⟨tz0, A100, H⟩ := H
      replace H : ((spec_runsOf.f k1 tz0).bind fun tz1 => (if x3_1.length < 5864062014805 then (spec_parts.l1 k1 (x3_1 ++ [tz1]) x4_1 x5_1 tz0 0) else none)) = some r := H
      have A10 := mk A100
      clear A100
      replace H := Option.bind_eq_some_iff.mp H
      obtain ⟨tz1, A110, H⟩ := H
      replace H : (if x3_1.length < 5864062014805 then (spec_parts.l1 k1 (x3_1 ++ [tz1]) x4_1 x5_1 tz0 0) else none) = some r := H
      have A11 := mk A110
      clear A110
      by_cases c12 : x3_1.length < 5864062014805
      ·rw [if_pos c12] at H
       have LMc12 := mk c12
       clear c12
       obtain ⟨yz0, hyz1⟩ : ∃ y_ : List (List S47), y_ = (x3_1 ++ [tz1]) := ⟨_, rfl⟩
       replace H : (spec_parts.l1 k1 yz0 x4_1 x5_1 tz0 0) = some r := by (rw [hyz1]; with_reducible exact H)
       have Nyz1 := mk hyz1
       clear hyz1
       have H' := mk H
       clear H
       obtain ⟨Ao13, co13, eo13⟩ := Kd.R_slice HO_4.out
       subst eo13
       have p77007 : 0 ≤ (x5_1 : Int) := of_decide_eq_true (by (with_reducible assumption))
       have q77007 : x5_1 < (x4_1.length : Int) := of_decide_eq_true (by (with_reducible assumption))
       obtain ⟨ad77007, e77007, hx77007_0⟩ := Kd.at_bool (Kd.R_reads' HO_4.out).2.2 x5_1 p77007 q77007
       (try rw [← Nbq8.out] at hx77007_0)
       cases e77007
       obtain ⟨gz_77007, cz_, ez_, _, _, _⟩ := Kd.R_form HO_4.out (by omega)
       (cases ez_)
       rw [add_at, Nat.zero_add] at hx77007_0
       replace p77007 := eq_true p77007
       replace q77007 := eq_true q77007
       go_wp2_with (first | ((with_reducible refine gate_callee (f := 66) rfl ?_); refine goesL_ (some 23) rfl rfl Try.func66 (by kernel_rfl) rfl #[.slice (some ⟨gz_77007, 0, none⟩) x4_1.length co13, .int .i64 x5_1] rfl (by (try simp only [bitvec_to_nat]); rfl) ?_; (with_reducible refine (spec_spreadFrom.calls _ _ x4_1 x5_1 tz0 _ ?side1 ?side2 A10.out).mono ?_); (case side1 => repeat (exact (Kd.R_reads' HO_4.out).2.2)); (case side2 => exact (Kd.R_reads' HO_4.out).2.1); rintro e w14 ⟨vz3, rfl, ho0, hb⟩; refine ⟨_, rfl, ?_⟩; replace HO_3 := mk (Kd.S_below HO_3.out hb); have HOz0 := mk (Kd.R_lower (Kd.R_new' ho0 (Kd.R_lt HO_4.out)) (below_size HB.out)); replace HO_4 := mk (Kd.R_elder' HO_4.out (Kd.R_base ho0) hb); replace HB := mk (below_step HB.out hb); (try clear hb); (try clear ho0); obtain ⟨Ao15, co15, eo15⟩ := Kd.R_slice HOz0.out; subst eo15) | ((with_reducible refine gate_callee (f := 65) rfl ?_); refine goesL_ (some 26) rfl rfl Try.func65 (by kernel_rfl) rfl #[.slice Ao15 tz0.length co15] rfl (by (try simp only [bitvec_to_nat]); rfl) ?_; (with_reducible refine (spec_runsOf.calls k1 _ _ tz0 tz1 _ ?side1 ?side2 A11.out).mono ?_); (case side1 => repeat (exact (Kd.R_reads' HOz0.out).2.2)); (case side2 => exact (Kd.R_reads' HOz0.out).2.1); rintro e w16 ⟨vz4, rfl, ho0, hb⟩; refine ⟨_, rfl, ?_⟩; replace HO_3 := mk (Kd.S_elder' HO_3.out (Kd.R_base ho0) hb); replace HO_4 := mk (Kd.R_below HO_4.out hb); replace HOz0 := mk (Kd.R_below HOz0.out hb); have HOz1 := mk (Kd.R_lower ho0 (below_size HB.out)); replace HB := mk (below_step HB.out hb); (try clear hb); (try clear ho0); obtain ⟨Ao18, co18, eo18⟩ := Kd.R_slice HOz1.out; subst eo18) | ((with_reducible refine gate_builtin (b := .append) (xs := #[.tmp 24, .tmp 27]) rfl ?_); at_builtin; refine Kd.S_append (Kd.slice 47 k47) (w0 := w) w.heap.size rfl (.tmp 24) (.tmp 27) 51 26 (.slice none 0 0) 24 rfl Try.underlying51 info26 rfl (by decide) (by omega) u3 x3_1 tz1 [.slice Ao18 tz1.length co18] (fun _ => True) (fun k_ => some k_ = (.slice Ao18 tz1.length co18 : Value).ownBlock) rfl rfl ?aP (fun k_ hk_ => ((Kd.R_mono (ok' := fun k_ => (fun _ => True) k_ ∧ some k_ ≠ (u3 : Value).ownBlock) (Kd.R_apart' HOz1.out (Kd.S_typed HO_3.out) (by decide)) (fun k_ hk => ⟨trivial, hk.2⟩))).1 k_ hk_.symm) ?aF ?aO ?aB ?aS ?aL ?_; (case aP => exact Kd.M_row (Kd.R_mono (Kd.R_tight rfl (Kd.R_mono (ok' := fun k_ => (fun _ => True) k_ ∧ some k_ ≠ (u3 : Value).ownBlock) (Kd.R_apart' HOz1.out (Kd.S_typed HO_3.out) (by decide)) (fun k_ hk => ⟨trivial, hk.2⟩))) (fun _ h_ => h_))); (case aB => exact HB.out); (case aF => exact (fun _ _ => trivial)); (case aO => exact (by exact Kd.S_mono HO_3.out (fun k_ hk => ⟨trivial, fun e_ => hk.2 e_⟩))); (case aS => exact (below_size HB.out)); (case aL => have := LMc12.out; omega); intro vz1 w17 ho hb hg hat; rw [← Nyz1.out] at ho; have n0_ := mk (Kd.R_over' HO_4.out (Kd.S_typed HO_3.out) (by decide) hg); have n1_ := mk (Kd.R_over' HOz0.out (Kd.S_typed HO_3.out) (by decide) hg); have n2_ := mk (hb); have n3_ := mk (ho); clear HO_4; clear HOz0; clear HB; clear HO_3; clear HOz1; have HO_4 := n0_; have HOz0 := n1_; have HB := n2_; have HOz4 := n3_; clear ho hb hg hat))
       go_loopg [7] k1 (fun kq v7 w' => ∃ (x4_2 : List Bool) (x7_2 : Int), v7 = .int .i64 x7_2 ∧ Aside0 (spec_parts.l1 kq yz0 x4_2 x5_1 tz0 x7_2 = some r) ∧ Aside0 (kq ≤ k1) ∧ Aside0 (Kd.S (Kd.slice 47 k47) 26 w' w.heap.size (fun _ => True) vz1 yz0) ∧ Aside0 (Kd.R Kd.bool 4 w' w.heap.size (fun k_ => some k_ ≠ ((.slice Ao15 tz0.length co15) : Value).ownBlock) (.slice (some ⟨gz_77007, 0, none⟩) x4_1.length co13) x4_2) ∧ Aside0 (Kd.R Kd.bool 4 w' w.heap.size (fun k_ => some k_ ≠ ((.slice (some ⟨gz_77007, 0, none⟩) x4_1.length co13) : Value).ownBlock) (.slice Ao15 tz0.length co15) tz0) ∧ Aside0 (Below w.heap.size w w'))
       case atStart => exact ⟨(x4_1), (0), (by rfl), H', ⟨Nat.le_refl _⟩, HOz4, ⟨by exact Kd.R_mono HO_4.out (fun _ hk => hk.2)⟩, ⟨by exact Kd.R_mono HOz0.out (fun _ hk => hk.2)⟩, HB⟩
       case round =>
        clear H'
        obtain ⟨x4_2, x7_2, rfl, HA, HK2, HO_3, HO_4, HO_6, HB⟩ := hrel
        have hl4_2 := (Kd.R_reads' HO_4.out).1
        rw [hl4_2] at HO_4
        (try simp only [hl4_2])
        (try simp only [hl4_2] at HO_6)
        cases gk with
        | zero => exact absurd HA.out (by simp [spec_parts.l1])
        | succ k2 =>
         have H := HA.out
         clear HA
         simp only [spec_parts.l1] at H
         by_cases c19 : x7_2 < (x4_2.length : Int)
         ·rw [if_pos c19] at H
          have c19b0 : decide (x7_2 < (x4_2.length : Int)) = true := decide_eq_true c19
          clear c19
          by_cases c20 : 0 ≤ x7_2
          ·rw [if_pos c20] at H
           have c20b0 : decide (0 ≤ x7_2) = true := decide_eq_true c20
           clear c20
           obtain ⟨bq21, hbq21⟩ : ∃ b_ : Bool, b_ = (rdOf false x4_2 x7_2) := ⟨_, rfl⟩
           replace H : (if bq21 = true then (if x7_2 < (tz0.length : Int) then (spec_parts.l1 k2 yz0 (x4_2.set (x7_2 : Int).toNat (!(rdOf false tz0 x7_2))) x5_1 tz0 (wrap64 (x7_2 + 1))) else none) else (spec_parts.l1 k2 yz0 (x4_2.set (x7_2 : Int).toNat false) x5_1 tz0 (wrap64 (x7_2 + 1)))) = some r := by rw [← hbq21] at H; exact H
           have Nbq21 := mk hbq21
           clear hbq21
           by_cases c22 : bq21 = true
           ·subst c22
            have H1 : (if x7_2 < (tz0.length : Int) then (spec_parts.l1 k2 yz0 (x4_2.set (x7_2 : Int).toNat (!(rdOf false tz0 x7_2))) x5_1 tz0 (wrap64 (x7_2 + 1))) else none) = some r := by rw [if_pos rfl] at H; exact H
            clear H
            have H := H1
            clear H1
            by_cases c23 : x7_2 < (tz0.length : Int)
            ·rw [if_pos c23] at H
             have c23b0 : decide (x7_2 < (tz0.length : Int)) = true := decide_eq_true c23
             clear c23
             obtain ⟨yz2, hyz2⟩ : ∃ y_ : List Bool, y_ = (x4_2.set (x7_2 : Int).toNat (!(rdOf false tz0 x7_2))) := ⟨_, rfl⟩
             replace H : (spec_parts.l1 k2 yz0 yz2 x5_1 tz0 (wrap64 (x7_2 + 1))) = some r := by (rw [hyz2]; with_reducible exact H)
             have Nyz2 := mk hyz2
             clear hyz2
             have H' := mk H
             clear H
             have p77017 : 0 ≤ (x7_2 : Int) := of_decide_eq_true (by (with_reducible assumption))
             have q77017 : x7_2 < (x4_2.length : Int) := of_decide_eq_true (by (with_reducible assumption))
             obtain ⟨ad77017, e77017, hx77017_0⟩ := Kd.at_bool (Kd.R_reads' HO_4.out).2.2 x7_2 p77017 q77017
             (try rw [← Nbq21.out] at hx77017_0)
             obtain rfl := Option.some.inj e77017
             replace p77017 := eq_true p77017
             replace q77017 := eq_true q77017
             have p77018 : 0 ≤ (x7_2 : Int) := of_decide_eq_true (by (with_reducible assumption))
             have q77018 : x7_2 < (tz0.length : Int) := of_decide_eq_true (by (with_reducible assumption))
             obtain ⟨ad77018, e77018, hx77018_0⟩ := Kd.at_bool (Kd.R_reads' HO_6.out).2.2 x7_2 p77018 q77018
             cases e77018
             replace p77018 := eq_true p77018
             replace q77018 := eq_true q77018
             have p24 : 0 ≤ (x7_2 : Int) := of_decide_eq_true (by (with_reducible assumption))
             have q24 : (x7_2 : Int) < ((x4_2.length : Int) : Int) := of_decide_eq_true (by (with_reducible assumption))
             obtain ⟨go24, co24, eo24, gb24, gl24, cl24, HG24⟩ := Kd.R_form HO_4.out (by omega)
             (cases eo24)
             have GB24 := mk gb24
             clear gb24 gl24 HG24
             (skip)
             (simp only [add_plain] at hx77017_0)
             obtain ⟨hx24_0, hf24_0⟩ := Kd.R_celln false HO_4.out (x7_2 : Int) p24 q24
             replace p24 := eq_true p24
             replace q24 := eq_true q24
             have HP25 := Kd.R_putg HO_4.out (x7_2 : Int) (!(rdOf false tz0 x7_2))
             go_wp2_with (first | ((with_reducible refine gate_store (t := 4) (p := 48) rfl ?_); refine store_event (t := 4) (p := 48) (v := ?vo_w26) (w1 := (wr.setCell ⟨gz_77007, (x7_2 : Int).toNat, none⟩ (.bool (!(rdOf false tz0 x7_2))))) ?hg ?ho ?hn ?hr ?_; (case ho => rfl); (case hg => rfl); (case hn => rfl); (case hr => (go_simp; done)); intro w26 hw; have hg : wr.grownBy w26 (some gz_77007) := (by rw [hw]; exact HP25.2); have hp_ : Kd.R Kd.bool 4 w26 w.heap.size (fun k_ => some k_ ≠ (.slice (some ad77018) tz0.length co15 : Value).ownBlock) (.slice (some ⟨gz_77007, 0, none⟩) x4_2.length co13) yz2 := (by rw [hw, Nyz2.out]; exact HP25.1); clear HP25; replace HO_3 := mk (Kd.S_over' (v := (.slice (some ⟨gz_77007, 0, none⟩) x4_2.length co13)) HO_3.out (Kd.R_typed HO_4.out) (by decide) hg); replace HO_4 := mk (hp_); replace HO_6 := mk (Kd.R_after (v := (.slice (some ⟨gz_77007, 0, none⟩) x4_2.length co13)) (v1 := (.slice (some ⟨gz_77007, 0, none⟩) x4_2.length co13)) (ok := (fun _ => True)) (by exact Kd.R_mono HO_6.out (fun _ hk => ⟨trivial, hk⟩)) hg (.inl rfl)); replace HB := mk ((by rw [hw]; exact below_set HB.out GB24.out : Below w.heap.size w w26)); clear hg hw hp_))
             (try simp only [← hl4_2])
             go_roundg k2
             case measure => have := HK1.out; have := HK2.out; omega
             case rel => exact ⟨(yz2), (wrap64 (x7_2 + 1)), (by rfl), H', ⟨by have := HK1.out; have := HK2.out; omega⟩, HO_3, ⟨by (try simp only [hl4_2]); exact HO_4.out⟩, ⟨by (try simp only [hl4_2]); exact Kd.R_mono HO_6.out (fun _ hk => hk.2)⟩, HB⟩
            rw [if_neg c23] at H
            exact absurd H (by simp)
           replace c22 := Bool.eq_false_iff.mpr c22
           subst c22
           have H1 : (spec_parts.l1 k2 yz0 (x4_2.set (x7_2 : Int).toNat false) x5_1 tz0 (wrap64 (x7_2 + 1))) = some r := by rw [if_neg (show ¬ (false = true) by decide)] at H; exact H
           clear H
           have H := H1
           clear H1
           obtain ⟨yz3, hyz3⟩ : ∃ y_ : List Bool, y_ = (x4_2.set (x7_2 : Int).toNat false) := ⟨_, rfl⟩
           replace H : (spec_parts.l1 k2 yz0 yz3 x5_1 tz0 (wrap64 (x7_2 + 1))) = some r := by (rw [hyz3]; with_reducible exact H)
           have Nyz3 := mk hyz3
           clear hyz3
           have H' := mk H
           clear H
           have p77017 : 0 ≤ (x7_2 : Int) := of_decide_eq_true (by (with_reducible assumption))
           have q77017 : x7_2 < (x4_2.length : Int) := of_decide_eq_true (by (with_reducible assumption))
           obtain ⟨ad77017, e77017, hx77017_0⟩ := Kd.at_bool (Kd.R_reads' HO_4.out).2.2 x7_2 p77017 q77017
           (try rw [← Nbq21.out] at hx77017_0)
           obtain rfl := Option.some.inj e77017
           replace p77017 := eq_true p77017
           replace q77017 := eq_true q77017
           have p27 : 0 ≤ (x7_2 : Int) := of_decide_eq_true (by (with_reducible assumption))
           have q27 : (x7_2 : Int) < ((x4_2.length : Int) : Int) := of_decide_eq_true (by (with_reducible assumption))
           obtain ⟨go27, co27, eo27, gb27, gl27, cl27, HG27⟩ := Kd.R_form HO_4.out (by omega)
           (cases eo27)
           have GB27 := mk gb27
           clear gb27 gl27 HG27
           (simp only [add_plain] at hx77017_0)
           obtain ⟨hx27_0, hf27_0⟩ := Kd.R_celln false HO_4.out (x7_2 : Int) p27 q27
           replace p27 := eq_true p27
           replace q27 := eq_true q27
           have HP28 := Kd.R_putg HO_4.out (x7_2 : Int) false
           go_wp2_with (first | ((with_reducible refine gate_store (t := 4) (p := 48) rfl ?_); refine store_event (t := 4) (p := 48) (v := ?vo_w29) (w1 := (wr.setCell ⟨gz_77007, (x7_2 : Int).toNat, none⟩ (.bool false))) ?hg ?ho ?hn ?hr ?_; (case ho => rfl); (case hg => rfl); (case hn => rfl); (case hr => (go_simp; done)); intro w29 hw; have hg : wr.grownBy w29 (some gz_77007) := (by rw [hw]; exact HP28.2); have hp_ : Kd.R Kd.bool 4 w29 w.heap.size (fun k_ => some k_ ≠ (.slice Ao15 tz0.length co15 : Value).ownBlock) (.slice (some ⟨gz_77007, 0, none⟩) x4_2.length co13) yz3 := (by rw [hw, Nyz3.out]; exact HP28.1); clear HP28; replace HO_3 := mk (Kd.S_over' (v := (.slice (some ⟨gz_77007, 0, none⟩) x4_2.length co13)) HO_3.out (Kd.R_typed HO_4.out) (by decide) hg); replace HO_4 := mk (hp_); replace HO_6 := mk (Kd.R_after (v := (.slice (some ⟨gz_77007, 0, none⟩) x4_2.length co13)) (v1 := (.slice (some ⟨gz_77007, 0, none⟩) x4_2.length co13)) (ok := (fun _ => True)) (by exact Kd.R_mono HO_6.out (fun _ hk => ⟨trivial, hk⟩)) hg (.inl rfl)); replace HB := mk ((by rw [hw]; exact below_set HB.out GB27.out : Below w.heap.size w w29)); clear hg hw hp_))
           (try simp only [← hl4_2])
           go_roundg k2
           case measure => have := HK1.out; have := HK2.out; omega
           case rel => exact ⟨(yz3), (wrap64 (x7_2 + 1)), (by rfl), H', ⟨by have := HK1.out; have := HK2.out; omega⟩, HO_3, ⟨by (try simp only [hl4_2]); exact HO_4.out⟩, ⟨by (try simp only [hl4_2]); exact Kd.R_mono HO_6.out (fun _ hk => hk.2)⟩, HB⟩
          rw [if_neg c20] at H
          exact absurd H (by simp)
         rw [if_neg c19] at H
         have c19b0 : decide (x7_2 < (x4_2.length : Int)) = false := decide_eq_false c19
         clear c19
         have H' := mk H
         clear H
         go_wp2
         (try simp only [← hl4_2])
         go_roundg k2
         case measure => have := HK1.out; have := HK2.out; omega
         case rel => exact ⟨(yz0), (x4_2), (wrap64 (x5_1 + 1)), (by rfl), H', ⟨by have := HK1.out; have := HK2.out; omega⟩, HO_3, ⟨by (try simp only [hl4_2]); exact Kd.R_mono HO_4.out (fun _ hk => trivial)⟩, HB⟩
      rw [if_neg c12] at H
      exact absurd H (by simp)
     replace c9 := Bool.eq_false_iff.mpr c9
     subst c9
     have H1 : (spec_parts.l0 k1 x3_1 x4_1 (wrap64 (x5_1 + 1))) = some r := by rw [if_neg (show ¬ (false = true) by decide)] at H; exact H
     clear H
     have H := H1
     clear H1
     have H' := mk H
     clear H
     obtain ⟨Ao30, co30, eo30⟩ := Kd.R_slice HO_4.out
     subst eo30
     have p77007 : 0 ≤ (x5_1 : Int) := of_decide_eq_true (by (with_reducible assumption))
     have q77007 : x5_1 < (x4_1.length : Int) := of_decide_eq_true (by (with_reducible assumption))
     obtain ⟨ad77007, e77007, hx77007_0⟩ := Kd.at_bool (Kd.R_reads' HO_4.out).2.2 x5_1 p77007 q77007
     (try rw [← Nbq8.out] at hx77007_0)
     cases e77007
     obtain ⟨gz_77007, cz_, ez_, _, _, _⟩ := Kd.R_form HO_4.out (by omega)
     (cases ez_)
     rw [add_at, Nat.zero_add] at hx77007_0
     replace p77007 := eq_true p77007
     replace q77007 := eq_true q77007
     go_wp2
     go_roundg k1
     case measure => have := HK1.out; omega
     case rel => exact ⟨(x3_1), (x4_1), (wrap64 (x5_1 + 1)), (by rfl), H', ⟨by have := HK1.out; omega⟩, HO_3, HO_4, HB⟩
    rw [if_neg c7] at H
    exact absurd H (by simp)
   rw [if_neg c6] at H
   have c6b0 : decide (x5_1 < (x4_1.length : Int)) = false := decide_eq_false c6
   clear c6
   obtain rfl := Option.some.inj H
   obtain ⟨Ao31, co31, eo31⟩ := Kd.R_slice HO_4.out
   subst eo31
   go_wp2
   go_ret
   exact ⟨_, by rfl, by exact HO_3.out, by exact HB.out⟩


noncomputable def spec_ChangedBoxes.l0 : Nat → List S60 → List (List S47) → Int → Option ((List S60))
 | 0, _, _, _ => none
 | k + 1, x5, x6, x7 => if x7 < (x6.length : Int) then (if 0 ≤ x7 then ((spec_boundsOf.f k (rd_L13 x6 x7)).bind fun btz0 => (if x5.length < 4398046511104 then (spec_ChangedBoxes.l0 k (x5 ++ [(⟨btz0.1, btz0.2.1, btz0.2.2.1, btz0.2.2.2⟩ : S60)]) x6 (wrap64 (x7 + 1))) else none)) else none) else (some x5)
noncomputable def spec_ChangedBoxes.f (k : Nat) (a0_0 : Int) (a0_1 : Int) (a0_2 : Int) (l0_3 : List Int) (a1_0 : Int) (a1_1 : Int) (a1_2 : Int) (l1_3 : List Int) : Option ((List S60)) := (spec_sameShape.f k a0_0 a0_1 a0_2 l0_3 a1_0 a1_1 a1_2 l1_3).bind fun tz2 => (if tz2 = true then ((spec_changed.f k a0_0 a0_1 a0_2 l0_3 a1_0 a1_1 a1_2 l1_3).bind fun tz1 => ((spec_parts.f k tz1).bind fun tz0 => (spec_ChangedBoxes.l0 k (([] : List S60)) tz0 0))) else (some ([] : List S60)))
theorem spec_ChangedBoxes.calls (k : Nat) (a0_0 : Int) (a0_1 : Int) (a0_2 : Int) (A0_3 : Option Addr) (c0_3 : Nat) (l0_3 : List Int) (a1_0 : Int) (a1_1 : Int) (a1_2 : Int) (A1_3 : Option Addr) (c1_3 : Nat) (l1_3 : List Int) (r : List S60) (w : World) (hr0_3 : Kd.C (Kd.int .i64) w A0_3 l0_3.length l0_3) (hc0_3 : l0_3.length ≤ c0_3) (hr1_3 : Kd.C (Kd.int .i64) w A1_3 l1_3.length l1_3) (hc1_3 : l1_3.length ≤ c1_3) (h : spec_ChangedBoxes.f k a0_0 a0_1 a0_2 l0_3 a1_0 a1_1 a1_2 l1_3 = some r) :
  Calls Try.prog 32 #[.agg #[.int .i64 a0_0, .int .i64 a0_1, .int .i64 a0_2, .slice A0_3 l0_3.length c0_3], .agg #[.int .i64 a1_0, .int .i64 a1_1, .int .i64 a1_2, .slice A1_3 l1_3.length c1_3]] w fun e w' => ∃ v0_ : Value, e = .returned v0_ ∧ Kd.R k60 60 w' w.heap.size (fun _ => True) v0_ r ∧ Below w.heap.size w w' := by
 have HR0_3 := mk hr0_3
 have HC0_3 := mk hc0_3
 clear hr0_3 hc0_3
 have HR1_3 := mk hr1_3
 have HC1_3 := mk hc1_3
 clear hr1_3 hc1_3
 have HB := mk (Below.refl w.heap.size w)
 have H : ((spec_sameShape.f k a0_0 a0_1 a0_2 l0_3 a1_0 a1_1 a1_2 l1_3).bind fun tz2 => (if tz2 = true then ((spec_changed.f k a0_0 a0_1 a0_2 l0_3 a1_0 a1_1 a1_2 l1_3).bind fun tz1 => ((spec_parts.f k tz1).bind fun tz0 => (spec_ChangedBoxes.l0 k (([] : List S60)) tz0 0))) else (some ([] : List S60)))) = some r := h
 clear h
 obtain ⟨yz0, hyz0⟩ : ∃ y_ : List (S60), y_ = (([] : List S60)) := ⟨_, rfl⟩
 replace H : ((spec_sameShape.f k a0_0 a0_1 a0_2 l0_3 a1_0 a1_1 a1_2 l1_3).bind fun tz2 => (if tz2 = true then ((spec_changed.f k a0_0 a0_1 a0_2 l0_3 a1_0 a1_1 a1_2 l1_3).bind fun tz1 => ((spec_parts.f k tz1).bind fun tz0 => (spec_ChangedBoxes.l0 k yz0 tz0 0))) else (some ([] : List S60)))) = some r := by (rw [hyz0]; with_reducible exact H)
 have Nyz0 := mk hyz0
 clear hyz0
 replace H := Option.bind_eq_some_iff.mp H
 obtain ⟨tz2, A30, H⟩ := H
 replace H : (if tz2 = true then ((spec_changed.f k a0_0 a0_1 a0_2 l0_3 a1_0 a1_1 a1_2 l1_3).bind fun tz1 => ((spec_parts.f k tz1).bind fun tz0 => (spec_ChangedBoxes.l0 k yz0 tz0 0))) else (some ([] : List S60))) = some r := H
 have A3 := mk A30
 clear A30
 by_cases c4 : tz2 = true
 ·subst c4
  have H1 : ((spec_changed.f k a0_0 a0_1 a0_2 l0_3 a1_0 a1_1 a1_2 l1_3).bind fun tz1 => ((spec_parts.f k tz1).bind fun tz0 => (spec_ChangedBoxes.l0 k yz0 tz0 0))) = some r := by rw [if_pos rfl] at H; exact H
  clear H
  have H := H1
  clear H1
  replace H := Option.bind_eq_some_iff.mp H
  obtain ⟨tz1, A50, H⟩ := H
  replace H : ((spec_parts.f k tz1).bind fun tz0 => (spec_ChangedBoxes.l0 k yz0 tz0 0)) = some r := H
  have A5 := mk A50
  clear A50
  replace H := Option.bind_eq_some_iff.mp H
  obtain ⟨tz0, A60, H⟩ := H
  replace H : (spec_ChangedBoxes.l0 k yz0 tz0 0) = some r := H
  have A6 := mk A60
  clear A60
  have H' := mk H
  clear H
  go_enter Try.func32, Try.ntmps32
  go_wp2_with (first | ((with_reducible refine gate_dst (N := 2) rfl ?_); refine box_event (by rfl) (N := 2) (by rfl) (cs := #[.int .i64 a0_0, .int .i64 a0_1, .int .i64 a0_2, .slice A0_3 l0_3.length c0_3]) (t := 28) (by go_simp; done) ?_; intro gbz0 hg w7 hbox hb; replace HB := mk (below_step HB.out hb); have BKz0 := mk (hbox); clear hb hbox hg) | ((with_reducible refine gate_dst (N := 3) rfl ?_); refine box_event (by rfl) (N := 3) (by rfl) (cs := #[.int .i64 a1_0, .int .i64 a1_1, .int .i64 a1_2, .slice A1_3 l1_3.length c1_3]) (t := 28) (by go_simp; done) ?_; intro gbz1 hg w8 hbox hb; replace BKz0 := mk (blk_below BKz0.out hb); replace HB := mk (below_step HB.out hb); have BKz1 := mk (hbox); clear hb hbox hg) | ((with_reducible refine gate_dst (N := 8) rfl ?_); refine Kd.R_lit k60 _ 60 ?hg (N := 8) ?hd (xs := ([] : List S60)) (inner := []) (ok := fun _ => True) (okp := fun _ => True) ?hr ?hp (fun _ hk => hk) trivial (Below.refl _ _) (Nat.le_refl _) (by simp) ?_; (case hd => rfl); (case hg => rfl); (case hr => (go_simp; done)); (case hp => exact (Reps.none _ _)); intro vz0 w9 ho10 hb hg_ hnew_; clear hg_ hnew_; (rw [← Nyz0.out] at ho10); have HOz0 := mk (Kd.R_lower ho10 (below_size HB.out)); replace BKz0 := mk (blk_below BKz0.out hb); replace BKz1 := mk (blk_below BKz1.out hb); replace HB := mk (below_step HB.out hb); clear hb ho10; obtain ⟨hcz12_0, hcz12_1, hcz12_2, hcz12_3, hfz12_0, hfz12_1, hfz12_2, hfz12_3⟩ := c4 BKz0.out; obtain ⟨hcz13_0, hcz13_1, hcz13_2, hcz13_3, hfz13_0, hfz13_1, hfz13_2, -⟩ := c4 BKz1.out; have hfz13_3 := blk_frozen BKz1.out 3) | ((with_reducible refine gate_callee (f := 45) rfl ?_); refine goesL_ (some 11) rfl rfl Try.func45 (by kernel_rfl) rfl #[.agg #[.int .i64 a0_0, .int .i64 a0_1, .int .i64 a0_2, .slice A0_3 l0_3.length c0_3], .agg #[.int .i64 a1_0, .int .i64 a1_1, .int .i64 a1_2, .slice A1_3 l1_3.length c1_3]] rfl (by (try simp only [bitvec_to_nat]); rfl) ?_; (with_reducible refine (spec_sameShape.calls k a0_0 a0_1 a0_2 _ _ l0_3 a1_0 a1_1 a1_2 _ _ l1_3 true _ ?side1 ?side2 ?side3 ?side4 A3.out).mono ?_); (case side1 => repeat (exact (Kd.C_below HR0_3.out HB.out))); (case side2 => exact HC0_3.out); (case side3 => repeat (exact (Kd.C_below HR1_3.out HB.out))); (case side4 => exact HC1_3.out); rintro e w14 ⟨rfl, hb⟩; refine ⟨_, rfl, ?_⟩; replace HOz0 := mk (Kd.R_below HOz0.out hb); replace BKz0 := mk (blk_below BKz0.out hb); replace BKz1 := mk (blk_below BKz1.out hb); replace HB := mk (below_step HB.out hb); (try clear hb); obtain ⟨hcz15_0, hcz15_1, hcz15_2, hcz15_3, hfz15_0, hfz15_1, hfz15_2, hfz15_3⟩ := c4 BKz0.out; obtain ⟨hcz16_0, hcz16_1, hcz16_2, hcz16_3, hfz16_0, hfz16_1, hfz16_2, -⟩ := c4 BKz1.out; have hfz16_3 := blk_frozen BKz1.out 3) | ((with_reducible refine gate_callee (f := 46) rfl ?_); refine goesL_ (some 15) rfl rfl Try.func46 (by kernel_rfl) rfl #[.agg #[.int .i64 a0_0, .int .i64 a0_1, .int .i64 a0_2, .slice A0_3 l0_3.length c0_3], .agg #[.int .i64 a1_0, .int .i64 a1_1, .int .i64 a1_2, .slice A1_3 l1_3.length c1_3]] rfl (by (try simp only [bitvec_to_nat]); rfl) ?_; (with_reducible refine (spec_changed.calls k a0_0 a0_1 a0_2 _ _ l0_3 a1_0 a1_1 a1_2 _ _ l1_3 tz1 _ ?side1 ?side2 ?side3 ?side4 A5.out).mono ?_); (case side1 => repeat (exact (Kd.C_below HR0_3.out HB.out))); (case side2 => exact HC0_3.out); (case side3 => repeat (exact (Kd.C_below HR1_3.out HB.out))); (case side4 => exact HC1_3.out); rintro e w17 ⟨vz2, rfl, ho0, hb⟩; refine ⟨_, rfl, ?_⟩; replace HOz0 := mk (Kd.R_below HOz0.out hb); have HOz1 := mk (Kd.R_lower ho0 (below_size HB.out)); replace BKz0 := mk (blk_below BKz0.out hb); replace BKz1 := mk (blk_below BKz1.out hb); replace HB := mk (below_step HB.out hb); (try clear hb); (try clear ho0); obtain ⟨Ao18, co18, eo18⟩ := Kd.R_slice HOz1.out; subst eo18) | ((with_reducible refine gate_callee (f := 76) rfl ?_); refine goesL_ (some 16) rfl rfl Try.func76 (by kernel_rfl) rfl #[.slice Ao18 tz1.length co18] rfl (by (try simp only [bitvec_to_nat]); rfl) ?_; (with_reducible refine (spec_parts.calls k _ _ tz1 tz0 _ ?side1 ?side2 A6.out).mono ?_); (case side1 => repeat (exact (Kd.R_reads' HOz1.out).2.2)); (case side2 => exact (Kd.R_reads' HOz1.out).2.1); rintro e w19 ⟨vz1, rfl, ho0, hb⟩; refine ⟨_, rfl, ?_⟩; have n0_ := mk (Kd.R_below HOz0.out hb); have n2_ := mk (Kd.S_lower (Kd.S_new' ho0 (Kd.R_lt HOz1.out)) (below_size HB.out)); have n3_ := mk (blk_below BKz0.out hb); have n4_ := mk (blk_below BKz1.out hb); have n5_ := mk (below_step HB.out hb); clear HOz0; clear HOz1; clear BKz0; clear BKz1; clear HB; have HOz0 := n0_; have HOz2 := n2_; have BKz0 := n3_; have BKz1 := n4_; have HB := n5_; (try clear hb); (try clear ho0)))
  go_loopg [5, 7] k (fun kq v5 v7 w' => ∃ (x5_1 : List S60) (x7_1 : Int), v7 = .int .i64 x7_1 ∧ Aside0 (spec_ChangedBoxes.l0 kq x5_1 tz0 x7_1 = some r) ∧ Aside0 (kq ≤ k) ∧ Aside0 (Kd.R k60 60 w' w.heap.size (fun _ => True) v5 x5_1) ∧ Aside0 (Kd.S (Kd.slice 47 k47) 26 w' w.heap.size (fun _ => True) vz1 tz0) ∧ Aside0 (w'.heap[gbz0]? = some (.cells #[.int .i64 a0_0, .int .i64 a0_1, .int .i64 a0_2, (.slice A0_3 l0_3.length c0_3)] 28 (0, 0))) ∧ Aside0 (w'.heap[gbz1]? = some (.cells #[.int .i64 a1_0, .int .i64 a1_1, .int .i64 a1_2, (.slice A1_3 l1_3.length c1_3)] 28 (0, 0))) ∧ Aside0 (Below w.heap.size w w'))
  case atStart => exact ⟨(yz0), (0), (by rfl), H', ⟨Nat.le_refl _⟩, HOz0, ⟨by exact Kd.S_mono HOz2.out (fun _ hk => trivial)⟩, BKz0, BKz1, HB⟩
  case round =>
   clear H'
   obtain ⟨x5_1, x7_1, rfl, HA, HK1, HO_5, HO_6, BKz0, BKz1, HB⟩ := hrel
   cases gk with
   | zero => exact absurd HA.out (by simp [spec_ChangedBoxes.l0])
   | succ k1 =>
    have H := HA.out
    clear HA
    simp only [spec_ChangedBoxes.l0] at H
    by_cases c20 : x7_1 < (tz0.length : Int)
    ·rw [if_pos c20] at H
     have c20b0 : decide (x7_1 < (tz0.length : Int)) = true := decide_eq_true c20
     clear c20
     by_cases c21 : 0 ≤ x7_1
     ·rw [if_pos c21] at H
      have c21b0 : decide (0 ≤ x7_1) = true := decide_eq_true c21
      clear c21
      replace H := Option.bind_eq_some_iff.mp H
      obtain ⟨⟨tz3, tz4, tz5, tz6⟩, A220, H⟩ := H
      replace H : (if x5_1.length < 4398046511104 then (spec_ChangedBoxes.l0 k1 (x5_1 ++ [(⟨tz3, tz4, tz5, tz6⟩ : S60)]) tz0 (wrap64 (x7_1 + 1))) else none) = some r := H
      have A22 := mk A220
      clear A220
      by_cases c23 : x5_1.length < 4398046511104
      ·rw [if_pos c23] at H
       have LMc23 := mk c23
       clear c23
       obtain ⟨yz1, hyz1⟩ : ∃ y_ : List (S60), y_ = (x5_1 ++ [(⟨tz3, tz4, tz5, tz6⟩ : S60)]) := ⟨_, rfl⟩
       replace H : (spec_ChangedBoxes.l0 k1 yz1 tz0 (wrap64 (x7_1 + 1))) = some r := by (rw [hyz1]; with_reducible exact H)
       have Nyz1 := mk hyz1
       clear hyz1
       have H' := mk H
       clear H
       obtain ⟨Ao24, co24, eo24⟩ := Kd.S_slice HO_6.out
       subst eo24
       have p33013 : 0 ≤ (x7_1 : Int) := of_decide_eq_true (by (with_reducible assumption))
       have q33013 : x7_1 < (tz0.length : Int) := of_decide_eq_true (by (with_reducible assumption))
       obtain ⟨ad33013, Az0, cz0, e33013, hx33013_0, hl33013_0, hi33013_0⟩ := at_L13 (Kd.S_reads' HO_6.out).2.2 x7_1 p33013 q33013
       cases e33013
       obtain ⟨ce33013, hce33013, hMe33013, hcc33013⟩ := Kd.S_get HO_6.out [] x7_1 p33013 q33013
       obtain ⟨ve33013_0, rfl, ge33013_0⟩ := hMe33013
       have hv33013_0 := hcc33013 0 _ rfl
       rw [Nat.add_zero, show (Kd.slice 47 k47).sz = 1 from rfl, Nat.mul_one] at hv33013_0
       replace hv33013_0 := Option.some.inj (hv33013_0.symm.trans hx33013_0)
       rw [hv33013_0] at ge33013_0
       have HL33013_0 := mk (show Kd.R k47 47 _ _ _ _ (rd_L13 tz0 x7_1) from ge33013_0)
       clear hv33013_0 ge33013_0 hcc33013 hce33013
       have HR33013_0 := mk hi33013_0
       have HC33013_0 := mk hl33013_0
       clear hi33013_0 hl33013_0
       replace p33013 := eq_true p33013
       replace q33013 := eq_true q33013
       go_wp2_with (first | ((with_reducible refine gate_callee (f := 77) rfl ?_); refine goesL_ (some 28) rfl rfl Try.func77 (by kernel_rfl) rfl #[.slice Az0 (rd_L13 tz0 x7_1).length cz0] rfl (by (try simp only [bitvec_to_nat]); rfl) ?_; (with_reducible refine (spec_boundsOf.calls k1 _ _ (rd_L13 tz0 x7_1) tz3 tz4 tz5 tz6 _ ?side1 ?side2 A22.out).mono ?_); (case side1 => repeat (exact HR33013_0.out)); (case side2 => exact HC33013_0.out); rintro e w25 ⟨rfl, hb⟩; refine ⟨_, rfl, ?_⟩; have n0_ := mk (Kd.R_below HO_5.out hb); have n1_ := mk (Kd.S_below HO_6.out hb); have n2_ := mk (Kd.R_below HL33013_0.out hb); have n3_ := mk (blk_below BKz0.out hb); have n4_ := mk (blk_below BKz1.out hb); have n6_ := mk (below_step HB.out hb); clear HO_5; clear HO_6; clear HL33013_0; clear BKz0; clear BKz1; clear HR33013_0; clear HB; have HO_5 := n0_; have HO_6 := n1_; have HL33013_0 := n2_; have BKz0 := n3_; have BKz1 := n4_; have HB := n6_; (try clear hb)) | ((with_reducible refine gate_builtin (b := .append) (xs := #[.tmp 23, .tmp 29]) rfl ?_); at_builtin; refine Kd.R_append k60 (w0 := w) w.heap.size rfl (.tmp 23) (.tmp 29) 53 60 (.agg #[(.int .i64 0), (.int .i64 0), (.int .i64 0), (.int .i64 0)]) 32 rfl Try.underlying53 info60 rfl (by decide) (by omega) u5 x5_1 (⟨tz3, tz4, tz5, tz6⟩ : S60) [.int .i64 tz3, .int .i64 tz4, .int .i64 tz5, .int .i64 tz6] (fun _ => True) (fun _ => False) rfl rfl ?aP (fun _ hk => hk.elim) ?aF ?aO ?aB ?aS ?aL ?_; (case aP => exact k60_mkM _ _ _ (⟨tz3, tz4, tz5, tz6⟩ : S60)); (case aB => exact HB.out); (case aF => exact (fun _ _ => trivial)); (case aO => exact HO_5.out); (case aS => exact (below_size HB.out)); (case aL => have := LMc23.out; omega); intro vz3 w26 ho hb hg hat; rw [← Nyz1.out] at ho; have n0_ := mk (Kd.S_over' HO_6.out (Kd.R_typed HO_5.out) (by decide) hg); have n1_ := mk (blk_grown (g := gbz0) (o := .cells #[.int .i64 a0_0, .int .i64 a0_1, .int .i64 a0_2, .slice A0_3 l0_3.length c0_3] 28 (0, 0)) BKz0.out hg (Kd.R_ne HO_5.out BKz0.out (by decide))); have n2_ := mk (blk_grown (g := gbz1) (o := .cells #[.int .i64 a1_0, .int .i64 a1_1, .int .i64 a1_2, .slice A1_3 l1_3.length c1_3] 28 (0, 0)) BKz1.out hg (Kd.R_ne HO_5.out BKz1.out (by decide))); have n4_ := mk (hb); have n5_ := mk (ho); clear HO_6; clear BKz0; clear BKz1; clear HL33013_0; clear HB; clear HO_5; have HO_6 := n0_; have BKz0 := n1_; have BKz1 := n2_; have HB := n4_; have HOz3 := n5_; clear ho hb hg hat))
       go_roundg k1
       case measure => have := HK1.out; omega
       case rel => exact ⟨(yz1), (wrap64 (x7_1 + 1)), (by rfl), H', ⟨by have := HK1.out; omega⟩, HOz3, HO_6, BKz0, BKz1, HB⟩
      rw [if_neg c23] at H
      exact absurd H (by simp)
     rw [if_neg c21] at H
     exact absurd H (by simp)
    rw [if_neg c20] at H
    have c20b0 : decide (x7_1 < (tz0.length : Int)) = false := decide_eq_false c20
    clear c20
    obtain rfl := Option.some.inj H
    obtain ⟨Ao27, co27, eo27⟩ := Kd.S_slice HO_6.out
    subst eo27
    go_wp2
    go_ret
    exact ⟨_, by rfl, by exact HO_5.out, by exact HB.out⟩
 replace c4 := Bool.eq_false_iff.mpr c4
 subst c4
 have H1 : (some ([] : List S60)) = some r := by rw [if_neg (show ¬ (false = true) by decide)] at H; exact H
 clear H
 have H := H1
 clear H1
 obtain rfl := Option.some.inj H
 go_enter Try.func32, Try.ntmps32
 go_wp2_with (first | ((with_reducible refine gate_dst (N := 2) rfl ?_); refine box_event (by rfl) (N := 2) (by rfl) (cs := #[.int .i64 a0_0, .int .i64 a0_1, .int .i64 a0_2, .slice A0_3 l0_3.length c0_3]) (t := 28) (by go_simp; done) ?_; intro gbz0 hg w28 hbox hb; replace HB := mk (below_step HB.out hb); have BKz0 := mk (hbox); clear hb hbox hg) | ((with_reducible refine gate_dst (N := 3) rfl ?_); refine box_event (by rfl) (N := 3) (by rfl) (cs := #[.int .i64 a1_0, .int .i64 a1_1, .int .i64 a1_2, .slice A1_3 l1_3.length c1_3]) (t := 28) (by go_simp; done) ?_; intro gbz1 hg w29 hbox hb; replace BKz0 := mk (blk_below BKz0.out hb); replace HB := mk (below_step HB.out hb); have BKz1 := mk (hbox); clear hb hbox hg) | ((with_reducible refine gate_dst (N := 8) rfl ?_); refine Kd.R_lit k60 _ 60 ?hg (N := 8) ?hd (xs := ([] : List S60)) (inner := []) (ok := fun _ => True) (okp := fun _ => True) ?hr ?hp (fun _ hk => hk) trivial (Below.refl _ _) (Nat.le_refl _) (by simp) ?_; (case hd => rfl); (case hg => rfl); (case hr => (go_simp; done)); (case hp => exact (Reps.none _ _)); intro vz0 w30 ho31 hb hg_ hnew_; clear hg_ hnew_; (rw [← Nyz0.out] at ho31); have HOz0 := mk (Kd.R_lower ho31 (below_size HB.out)); replace BKz0 := mk (blk_below BKz0.out hb); replace BKz1 := mk (blk_below BKz1.out hb); replace HB := mk (below_step HB.out hb); clear hb ho31; obtain ⟨hcz33_0, hcz33_1, hcz33_2, hcz33_3, -⟩ := c4 BKz0.out; obtain ⟨hcz34_0, hcz34_1, hcz34_2, -⟩ := c4 BKz1.out; have hcz34_3 : w30.cell? ⟨gbz1, 3, none⟩ = some (.slice A1_3 l1_3.length c1_3) := (blk_cell BKz1.out 3).trans rfl) | ((with_reducible refine gate_callee (f := 45) rfl ?_); refine goesL_ (some 11) rfl rfl Try.func45 (by kernel_rfl) rfl #[.agg #[.int .i64 a0_0, .int .i64 a0_1, .int .i64 a0_2, .slice A0_3 l0_3.length c0_3], .agg #[.int .i64 a1_0, .int .i64 a1_1, .int .i64 a1_2, .slice A1_3 l1_3.length c1_3]] rfl (by (try simp only [bitvec_to_nat]); rfl) ?_; (with_reducible refine (spec_sameShape.calls k a0_0 a0_1 a0_2 _ _ l0_3 a1_0 a1_1 a1_2 _ _ l1_3 false _ ?side1 ?side2 ?side3 ?side4 A3.out).mono ?_); (case side1 => repeat (exact (Kd.C_below HR0_3.out HB.out))); (case side2 => exact HC0_3.out); (case side3 => repeat (exact (Kd.C_below HR1_3.out HB.out))); (case side4 => exact HC1_3.out); rintro e w35 ⟨rfl, hb⟩; refine ⟨_, rfl, ?_⟩; have n3_ := mk (below_step HB.out hb); clear HOz0; clear BKz0; clear BKz1; clear HB; have HB := n3_; (try clear hb)))
 go_ret
 exact ⟨_, by rfl, by exact Kd.R_nil _ _ _ _ _, by exact HB.out⟩


noncomputable def spec_DrawPatchImage.f (k : Nat) (l0 : List Int) : Option (Int × Int × Int × List Int × Int × Int × Int × List Int × (List S60)) := (spec_newReader.f l0).bind fun btz3 => ((spec_twoImages.f k btz3.1 btz3.2).bind fun btz0 => ((spec_ChangedBoxes.f k btz0.1 btz0.2.1 btz0.2.2.1 btz0.2.2.2.1 btz0.2.2.2.2.1 btz0.2.2.2.2.2.1 btz0.2.2.2.2.2.2.1 btz0.2.2.2.2.2.2.2.1).bind fun tz9 => ((spec_reader_pick.f k btz3.1 btz0.2.2.2.2.2.2.2.2 4).bind fun btz2 => (if btz2.1 = 0 then ((spec_anyBox.f k btz3.1 btz2.2).bind fun btz1 => (if tz9.length < 4398046511104 then (some (btz0.1, btz0.2.1, btz0.2.2.1, btz0.2.2.2.1, btz0.2.2.2.2.1, btz0.2.2.2.2.2.1, btz0.2.2.2.2.2.2.1, btz0.2.2.2.2.2.2.2.1, (tz9 ++ [(⟨btz1.1, btz1.2.1, btz1.2.2.1, btz1.2.2.2.1⟩ : S60)]))) else none)) else (some (btz0.1, btz0.2.1, btz0.2.2.1, btz0.2.2.2.1, btz0.2.2.2.2.1, btz0.2.2.2.2.2.1, btz0.2.2.2.2.2.2.1, btz0.2.2.2.2.2.2.2.1, tz9))))))
theorem spec_DrawPatchImage.calls (k : Nat) (A0 : Option Addr) (c0 : Nat) (l0 : List Int) (r1 : Int) (r2 : Int) (r3 : Int) (r4 : List Int) (r5 : Int) (r6 : Int) (r7 : Int) (r8 : List Int) (r9 : List S60) (w : World) (hr0 : Kd.C (Kd.int .u8) w A0 l0.length l0) (hc0 : l0.length ≤ c0) (h : spec_DrawPatchImage.f k l0 = some (r1, r2, r3, r4, r5, r6, r7, r8, r9)) :
  Calls Try.prog 40 #[.slice A0 l0.length c0] w fun e w' => ∃ v3_ v7_ v8_ : Value, e = .returned (.tuple #[.agg #[.int .i64 r1, .int .i64 r2, .int .i64 r3, v3_], .agg #[.int .i64 r5, .int .i64 r6, .int .i64 r7, v7_], v8_]) ∧ Kd.Q (Kd.int .i64) 3 w' w.heap.size (fun k_ => some k_ ≠ (v7_ : Value).ownBlock) v3_ r4 ∧ Kd.Q (Kd.int .i64) 3 w' w.heap.size (fun k_ => some k_ ≠ (v3_ : Value).ownBlock) v7_ r8 ∧ Kd.R k60 60 w' w.heap.size (fun _ => True) v8_ r9 ∧ Below w.heap.size w w' := by
 have HR0 := mk hr0
 have HC0 := mk hc0
 clear hr0 hc0
 have HB := mk (Below.refl w.heap.size w)
 have H : ((spec_newReader.f l0).bind fun btz3 => ((spec_twoImages.f k btz3.1 btz3.2).bind fun btz0 => ((spec_ChangedBoxes.f k btz0.1 btz0.2.1 btz0.2.2.1 btz0.2.2.2.1 btz0.2.2.2.2.1 btz0.2.2.2.2.2.1 btz0.2.2.2.2.2.2.1 btz0.2.2.2.2.2.2.2.1).bind fun tz9 => ((spec_reader_pick.f k btz3.1 btz0.2.2.2.2.2.2.2.2 4).bind fun btz2 => (if btz2.1 = 0 then ((spec_anyBox.f k btz3.1 btz2.2).bind fun btz1 => (if tz9.length < 4398046511104 then (some (btz0.1, btz0.2.1, btz0.2.2.1, btz0.2.2.2.1, btz0.2.2.2.2.1, btz0.2.2.2.2.2.1, btz0.2.2.2.2.2.2.1, btz0.2.2.2.2.2.2.2.1, (tz9 ++ [(⟨btz1.1, btz1.2.1, btz1.2.2.1, btz1.2.2.2.1⟩ : S60)]))) else none)) else (some (btz0.1, btz0.2.1, btz0.2.2.1, btz0.2.2.2.1, btz0.2.2.2.2.1, btz0.2.2.2.2.2.1, btz0.2.2.2.2.2.2.1, btz0.2.2.2.2.2.2.2.1, tz9))))))) = some (r1, r2, r3, r4, r5, r6, r7, r8, r9) := h
 clear h
 replace H := Option.bind_eq_some_iff.mp H
 obtain ⟨⟨tz8, tz17⟩, A20, H⟩ := H
 replace H : ((spec_twoImages.f k tz8 tz17).bind fun btz0 => ((spec_ChangedBoxes.f k btz0.1 btz0.2.1 btz0.2.2.1 btz0.2.2.2.1 btz0.2.2.2.2.1 btz0.2.2.2.2.2.1 btz0.2.2.2.2.2.2.1 btz0.2.2.2.2.2.2.2.1).bind fun tz9 => ((spec_reader_pick.f k tz8 btz0.2.2.2.2.2.2.2.2 4).bind fun btz2 => (if btz2.1 = 0 then ((spec_anyBox.f k tz8 btz2.2).bind fun btz1 => (if tz9.length < 4398046511104 then (some (btz0.1, btz0.2.1, btz0.2.2.1, btz0.2.2.2.1, btz0.2.2.2.2.1, btz0.2.2.2.2.2.1, btz0.2.2.2.2.2.2.1, btz0.2.2.2.2.2.2.2.1, (tz9 ++ [(⟨btz1.1, btz1.2.1, btz1.2.2.1, btz1.2.2.2.1⟩ : S60)]))) else none)) else (some (btz0.1, btz0.2.1, btz0.2.2.1, btz0.2.2.2.1, btz0.2.2.2.2.1, btz0.2.2.2.2.2.1, btz0.2.2.2.2.2.2.1, btz0.2.2.2.2.2.2.2.1, tz9)))))) = some (r1, r2, r3, r4, r5, r6, r7, r8, r9) := H
 have A2 := mk A20
 clear A20
 replace H := Option.bind_eq_some_iff.mp H
 obtain ⟨⟨tz0, tz2, tz4, tz5, tz1, tz3, tz6, tz7, tz10⟩, A30, H⟩ := H
 replace H : ((spec_ChangedBoxes.f k tz0 tz2 tz4 tz5 tz1 tz3 tz6 tz7).bind fun tz9 => ((spec_reader_pick.f k tz8 tz10 4).bind fun btz2 => (if btz2.1 = 0 then ((spec_anyBox.f k tz8 btz2.2).bind fun btz1 => (if tz9.length < 4398046511104 then (some (tz0, tz2, tz4, tz5, tz1, tz3, tz6, tz7, (tz9 ++ [(⟨btz1.1, btz1.2.1, btz1.2.2.1, btz1.2.2.2.1⟩ : S60)]))) else none)) else (some (tz0, tz2, tz4, tz5, tz1, tz3, tz6, tz7, tz9))))) = some (r1, r2, r3, r4, r5, r6, r7, r8, r9) := H
 have A3 := mk A30
 clear A30
 replace H := Option.bind_eq_some_iff.mp H
 obtain ⟨tz9, A40, H⟩ := H
 replace H : ((spec_reader_pick.f k tz8 tz10 4).bind fun btz2 => (if btz2.1 = 0 then ((spec_anyBox.f k tz8 btz2.2).bind fun btz1 => (if tz9.length < 4398046511104 then (some (tz0, tz2, tz4, tz5, tz1, tz3, tz6, tz7, (tz9 ++ [(⟨btz1.1, btz1.2.1, btz1.2.2.1, btz1.2.2.2.1⟩ : S60)]))) else none)) else (some (tz0, tz2, tz4, tz5, tz1, tz3, tz6, tz7, tz9)))) = some (r1, r2, r3, r4, r5, r6, r7, r8, r9) := H
 have A4 := mk A40
 clear A40
 replace H := Option.bind_eq_some_iff.mp H
 obtain ⟨⟨tz12, tz11⟩, A50, H⟩ := H
 replace H : (if tz12 = 0 then ((spec_anyBox.f k tz8 tz11).bind fun btz1 => (if tz9.length < 4398046511104 then (some (tz0, tz2, tz4, tz5, tz1, tz3, tz6, tz7, (tz9 ++ [(⟨btz1.1, btz1.2.1, btz1.2.2.1, btz1.2.2.2.1⟩ : S60)]))) else none)) else (some (tz0, tz2, tz4, tz5, tz1, tz3, tz6, tz7, tz9))) = some (r1, r2, r3, r4, r5, r6, r7, r8, r9) := H
 have A5 := mk A50
 clear A50
 by_cases c6 : tz12 = 0
 ·rw [if_pos c6] at H
  have c6b0 : (tz12 == 0) = true := beq_iff_eq.mpr c6
  clear c6
  replace H := Option.bind_eq_some_iff.mp H
  obtain ⟨⟨tz13, tz14, tz15, tz16, tz18⟩, A70, H⟩ := H
  replace H : (if tz9.length < 4398046511104 then (some (tz0, tz2, tz4, tz5, tz1, tz3, tz6, tz7, (tz9 ++ [(⟨tz13, tz14, tz15, tz16⟩ : S60)]))) else none) = some (r1, r2, r3, r4, r5, r6, r7, r8, r9) := H
  have A7 := mk A70
  clear A70
  by_cases c8 : tz9.length < 4398046511104
  ·rw [if_pos c8] at H
   have LMc8 := mk c8
   clear c8
   obtain ⟨yz0, hyz0⟩ : ∃ y_ : List (S60), y_ = (tz9 ++ [(⟨tz13, tz14, tz15, tz16⟩ : S60)]) := ⟨_, rfl⟩
   replace H : (some (tz0, tz2, tz4, tz5, tz1, tz3, tz6, tz7, yz0)) = some (r1, r2, r3, r4, r5, r6, r7, r8, r9) := by (rw [hyz0]; with_reducible exact H)
   have Nyz0 := mk hyz0
   clear hyz0
   simp only [Option.some.injEq, Prod.mk.injEq] at H
   obtain ⟨rfl, rfl, rfl, rfl, rfl, rfl, rfl, rfl, rfl⟩ := H
   go_enter Try.func40, Try.ntmps40
   try go_wp2_with (first | ((with_reducible refine gate_dst (N := 2) rfl ?_); refine box_event (by rfl) (N := 2) (by rfl) (cs := #[.int .i64 0, .int .i64 0, .int .i64 0, .slice none 0 0]) (t := 28) (by go_simp; done) ?_; intro gbz0 hg w9 hbox hb; have BKz0 := mk (hbox); have GEz2 := mk ((by rw [hg]; exact (below_size HB.out) : w.heap.size ≤ gbz0)); replace HB := mk (below_step HB.out hb); clear hb hbox hg) | ((with_reducible refine gate_dst (N := 3) rfl ?_); refine box_event (by rfl) (N := 3) (by rfl) (cs := #[.int .i64 0, .int .i64 0, .int .i64 0, .slice none 0 0]) (t := 28) (by go_simp; done) ?_; intro gbz1 hg w10 hbox hb; have BKz1 := mk (hbox); have GEz3 := mk ((by rw [hg]; exact (below_size HB.out) : w.heap.size ≤ gbz1)); replace HB := mk (below_step HB.out hb); have NBz9 := mk ((by rw [hg]; exact Nat.ne_of_lt (blk_lt BKz0.out) : gbz0 ≠ gbz1)); have NBz5 := mk ((by rw [hg]; exact Nat.ne_of_gt (blk_lt BKz0.out) : gbz1 ≠ gbz0)); replace BKz0 := mk (blk_below BKz0.out hb); clear hb hbox hg) | ((with_reducible refine gate_callee (f := 55) rfl ?_); refine goesL_ (some 10) rfl rfl Try.func55 (by kernel_rfl) rfl #[.slice A0 l0.length c0] rfl (by (try simp only [bitvec_to_nat]); rfl) ?_; (with_reducible refine (spec_newReader.calls _ _ l0 tz8 tz17 w _ ?side1 ?side2 ?side3 A2.out).mono ?_); (case side1 => repeat (with_reducible exact HB.out)); (case side2 => exact HR0.out); (case side3 => exact HC0.out); rintro e w11 ⟨gz0, rfl, hi, hb, hb2⟩; refine ⟨_, rfl, ?_⟩; replace HB := mk (hb); have HI41005 := mk (hi); have NBz12 := mk (Ne.symm (IsS100.ne_blk hi (blk_below BKz0.out hb2) (by decide))); replace BKz0 := mk (blk_below BKz0.out hb2); have NBz13 := mk (Ne.symm (IsS100.ne_blk hi (blk_below BKz1.out hb2) (by decide))); replace BKz1 := mk (blk_below BKz1.out hb2); (try clear hb); (try clear hb2); (try clear hi)) | ((with_reducible refine gate_callee (f := 54) rfl ?_); refine goesL_ (some 13) rfl rfl Try.func54 (by kernel_rfl) rfl #[.pointer (some ⟨gz0, 0, none⟩)] rfl (by (try simp only [bitvec_to_nat]); rfl) ?_; (with_reducible refine (spec_twoImages.calls k gz0 tz8 tz17 tz0 tz2 tz4 tz5 tz1 tz3 tz6 tz7 tz10 w _ ?side1 ?side2 A3.out).mono ?_); (case side1 => repeat (with_reducible exact HI41005.out)); (case side2 => repeat (with_reducible exact HB.out)); rintro e w12 ⟨vz1, vz2, rfl, ho0, ho1, hi, hb, hk⟩; refine ⟨_, rfl, ?_⟩; replace BKz0 := mk (KeepBut.blk hk (g' := gbz0) (o := .cells #[.int .i64 0, .int .i64 0, .int .i64 0, .slice none 0 0] 28 (0, 0)) BKz0.out NBz12.out (by simp)); replace BKz1 := mk (KeepBut.blk hk (g' := gbz1) (o := .cells #[.int .i64 0, .int .i64 0, .int .i64 0, .slice none 0 0] 28 (0, 0)) BKz1.out NBz13.out (by simp)); have HOz0 := mk (Kd.Q_lower ho0 (below_size HB.out)); have HOz1 := mk (Kd.Q_lower ho1 (below_size HB.out)); replace HB := mk (hb); replace HI41005 := mk (hi); (try clear hb); (try clear hk); (try clear hi); (try clear ho0); (try clear ho1)) | ((with_reducible refine gate_dst (N := 6) rfl ?_); refine box_event (by rfl) (N := 6) (by rfl) (cs := #[.int .i64 0, .int .i64 0, .int .i64 0, .slice none 0 0]) (t := 28) (by go_simp; done) ?_; intro gbz2 hg w13 hbox hb; replace HOz0 := mk (Kd.Q_below HOz0.out hb); replace HOz1 := mk (Kd.Q_below HOz1.out hb); have BKz2 := mk (hbox); have GEz0 := mk ((by rw [hg]; exact (below_size HB.out) : w.heap.size ≤ gbz2)); replace HB := mk (below_step HB.out hb); have NBz10 := mk ((by rw [hg]; exact Nat.ne_of_lt (blk_lt BKz0.out) : gbz0 ≠ gbz2)); have NBz2 := mk ((by rw [hg]; exact Nat.ne_of_gt (blk_lt BKz0.out) : gbz2 ≠ gbz0)); replace BKz0 := mk (blk_below BKz0.out hb); have NBz6 := mk ((by rw [hg]; exact Nat.ne_of_lt (blk_lt BKz1.out) : gbz1 ≠ gbz2)); have NBz3 := mk ((by rw [hg]; exact Nat.ne_of_gt (blk_lt BKz1.out) : gbz2 ≠ gbz1)); replace BKz1 := mk (blk_below BKz1.out hb); have NBz16 := mk ((by rw [hg]; exact Nat.ne_of_lt (IsS100.lt (show IsS100 w _ gz0 tz8 tz10 from by exact HI41005.out)) : gz0 ≠ gbz2)); have NBz14 := mk ((by rw [hg]; exact Nat.ne_of_gt (IsS100.lt (show IsS100 w _ gz0 tz8 tz10 from by exact HI41005.out)) : gbz2 ≠ gz0)); replace HI41005 := mk (IsS100.below HI41005.out hb); clear hb hbox hg) | ((with_reducible refine gate_dst (N := 7) rfl ?_); refine box_event (by rfl) (N := 7) (by rfl) (cs := #[.int .i64 0, .int .i64 0, .int .i64 0, .slice none 0 0]) (t := 28) (by go_simp; done) ?_; intro gbz3 hg w14 hbox hb; replace HOz0 := mk (Kd.Q_below HOz0.out hb); replace HOz1 := mk (Kd.Q_below HOz1.out hb); have BKz3 := mk (hbox); have GEz1 := mk ((by rw [hg]; exact (below_size HB.out) : w.heap.size ≤ gbz3)); replace HB := mk (below_step HB.out hb); have NBz7 := mk ((by rw [hg]; exact Nat.ne_of_lt (blk_lt BKz0.out) : gbz0 ≠ gbz3)); have NBz0 := mk ((by rw [hg]; exact Nat.ne_of_gt (blk_lt BKz0.out) : gbz3 ≠ gbz0)); replace BKz0 := mk (blk_below BKz0.out hb); have NBz4 := mk ((by rw [hg]; exact Nat.ne_of_lt (blk_lt BKz1.out) : gbz1 ≠ gbz3)); have NBz1 := mk ((by rw [hg]; exact Nat.ne_of_gt (blk_lt BKz1.out) : gbz3 ≠ gbz1)); replace BKz1 := mk (blk_below BKz1.out hb); have NBz11 := mk ((by rw [hg]; exact Nat.ne_of_lt (blk_lt BKz2.out) : gbz2 ≠ gbz3)); have NBz8 := mk ((by rw [hg]; exact Nat.ne_of_gt (blk_lt BKz2.out) : gbz3 ≠ gbz2)); replace BKz2 := mk (blk_below BKz2.out hb); have NBz17 := mk ((by rw [hg]; exact Nat.ne_of_lt (IsS100.lt (show IsS100 w _ gz0 tz8 tz10 from by exact HI41005.out)) : gz0 ≠ gbz3)); have NBz15 := mk ((by rw [hg]; exact Nat.ne_of_gt (IsS100.lt (show IsS100 w _ gz0 tz8 tz10 from by exact HI41005.out)) : gbz3 ≠ gz0)); replace HI41005 := mk (IsS100.below HI41005.out hb); clear hb hbox hg; have hnc17 := NBz8.out; have hnb18 := NBz14.out; have hnc18 := NBz16.out; obtain ⟨hcz19_0, hcz19_1, hcz19_2, hcz19_3, hfz19_0, hfz19_1, hfz19_2, hfz19_3⟩ := c4 BKz2.out; obtain ⟨Ao20, co20, eo20, _⟩ := Kd.Q_slice HOz0.out; subst eo20; have hnb21 := NBz0.out; have hnc21 := NBz7.out; have hnb22 := NBz1.out; have hnc22 := NBz4.out; have hnb23 := NBz15.out; have hnc23 := NBz17.out; obtain ⟨hcz24_0, hcz24_1, hcz24_2, hcz24_3, hfz24_0, hfz24_1, hfz24_2, hfz24_3⟩ := c4 BKz3.out; obtain ⟨Ao25, co25, eo25, _⟩ := Kd.Q_slice HOz1.out; subst eo25) | ((with_reducible refine gate_callee (f := 32) rfl ?_); refine goesL_ (some 18) rfl rfl Try.func32 (by kernel_rfl) rfl #[.agg #[.int .i64 tz0, .int .i64 tz2, .int .i64 tz4, .slice Ao20 tz5.length co20], .agg #[.int .i64 tz1, .int .i64 tz3, .int .i64 tz6, .slice Ao25 tz7.length co25]] rfl (by (try simp only [bitvec_to_nat]); rfl) ?_; (with_reducible refine (spec_ChangedBoxes.calls k tz0 tz2 tz4 _ _ tz5 tz1 tz3 tz6 _ _ tz7 tz9 _ ?side1 ?side2 ?side3 ?side4 A4.out).mono ?_); (case side1 => refine (Kd.Q_reads' (e := 3) (base := w.heap.size) (ok := fun k_ => some k_ ≠ (.slice Ao25 tz7.length co25 : Value).ownBlock) (n := tz5.length) (c := co20) ?_).2.2; exact (by exact (Kd.Q_mono (Kd.Q_mono (Q4 (Kd.Q_far (p := ⟨gbz2, 3, none⟩) (Kd.Q_far (p := ⟨gbz2, 2, none⟩) (Kd.Q_far (p := ⟨gbz2, 1, none⟩) (Kd.Q_far (p := ⟨gbz2, 0, none⟩) (Kd.Q_types (Kd.Q_types HOz0.out BKz2.out (by decide)) BKz3.out (by decide)) (fun _ hk => hk.1.2) (.int .i64 tz0)) (fun _ hk => hk.1.2) (.int .i64 tz2)) (fun _ hk => hk.1.2) (.int .i64 tz4)) (fun _ hk => hk.1.2) (.slice Ao20 tz5.length co20)) (.int .i64 tz1) (.int .i64 tz3) (.int .i64 tz6) (.slice Ao25 tz7.length co25)) (fun _ h_ => h_.1)) (fun _ h_ => h_.1)))); (case side2 => exact (Kd.Q_reads' HOz0.out).2.1); (case side3 => refine (Kd.Q_reads' (e := 3) (base := w.heap.size) (ok := fun k_ => some k_ ≠ (.slice Ao20 tz5.length co20 : Value).ownBlock) (n := tz7.length) (c := co25) ?_).2.2; exact (by exact (Kd.Q_mono (Kd.Q_mono (Q4 (Kd.Q_far (p := ⟨gbz2, 3, none⟩) (Kd.Q_far (p := ⟨gbz2, 2, none⟩) (Kd.Q_far (p := ⟨gbz2, 1, none⟩) (Kd.Q_far (p := ⟨gbz2, 0, none⟩) (Kd.Q_types (Kd.Q_types HOz1.out BKz2.out (by decide)) BKz3.out (by decide)) (fun _ hk => hk.1.2) (.int .i64 tz0)) (fun _ hk => hk.1.2) (.int .i64 tz2)) (fun _ hk => hk.1.2) (.int .i64 tz4)) (fun _ hk => hk.1.2) (.slice Ao20 tz5.length co20)) (.int .i64 tz1) (.int .i64 tz3) (.int .i64 tz6) (.slice Ao25 tz7.length co25)) (fun _ h_ => h_.1)) (fun _ h_ => h_.1)))); (case side4 => exact (Kd.Q_reads' HOz1.out).2.1); rintro e w26 ⟨vz0, rfl, ho0, hb⟩; refine ⟨_, rfl, ?_⟩; replace HOz0 := mk (Kd.Q_below (by exact (Kd.Q_mono (Kd.Q_mono (Q4 (Kd.Q_far (p := ⟨gbz2, 3, none⟩) (Kd.Q_far (p := ⟨gbz2, 2, none⟩) (Kd.Q_far (p := ⟨gbz2, 1, none⟩) (Kd.Q_far (p := ⟨gbz2, 0, none⟩) (Kd.Q_types (Kd.Q_types HOz0.out BKz2.out (by decide)) BKz3.out (by decide)) (fun _ hk => hk.1.2) (.int .i64 tz0)) (fun _ hk => hk.1.2) (.int .i64 tz2)) (fun _ hk => hk.1.2) (.int .i64 tz4)) (fun _ hk => hk.1.2) (.slice Ao20 tz5.length co20)) (.int .i64 tz1) (.int .i64 tz3) (.int .i64 tz6) (.slice Ao25 tz7.length co25)) (fun _ h_ => h_.1)) (fun _ h_ => h_.1))) hb); replace HOz1 := mk (Kd.Q_below (by exact (Kd.Q_mono (Kd.Q_mono (Q4 (Kd.Q_far (p := ⟨gbz2, 3, none⟩) (Kd.Q_far (p := ⟨gbz2, 2, none⟩) (Kd.Q_far (p := ⟨gbz2, 1, none⟩) (Kd.Q_far (p := ⟨gbz2, 0, none⟩) (Kd.Q_types (Kd.Q_types HOz1.out BKz2.out (by decide)) BKz3.out (by decide)) (fun _ hk => hk.1.2) (.int .i64 tz0)) (fun _ hk => hk.1.2) (.int .i64 tz2)) (fun _ hk => hk.1.2) (.int .i64 tz4)) (fun _ hk => hk.1.2) (.slice Ao20 tz5.length co20)) (.int .i64 tz1) (.int .i64 tz3) (.int .i64 tz6) (.slice Ao25 tz7.length co25)) (fun _ h_ => h_.1)) (fun _ h_ => h_.1))) hb); have HOz2 := mk (Kd.R_lower ho0 (below_size (by repeat (with_reducible first | exact HB.out | refine below_set ?_ GEz0.out | refine below_set ?_ GEz1.out)))); replace BKz0 := mk (blk_below (g := gbz0) (o := .cells #[.int .i64 0, .int .i64 0, .int .i64 0, .slice none 0 0] 28 (0, 0)) (by refine f4 ?_ NBz7.out; refine f4 ?_ NBz10.out; exact BKz0.out) hb); replace BKz1 := mk (blk_below (g := gbz1) (o := .cells #[.int .i64 0, .int .i64 0, .int .i64 0, .slice none 0 0] 28 (0, 0)) (by refine f4 ?_ NBz4.out; refine f4 ?_ NBz6.out; exact BKz1.out) hb); replace HI41005 := mk (IsS100.below (show IsS100 w ((((((((w14.setCell ⟨gbz2, 0, none⟩ (.int .i64 tz0)).setCell ⟨gbz2, 1, none⟩ (.int .i64 tz2)).setCell ⟨gbz2, 2, none⟩ (.int .i64 tz4)).setCell ⟨gbz2, 3, none⟩ (.slice Ao20 tz5.length co20)).setCell ⟨gbz3, 0, none⟩ (.int .i64 tz1)).setCell ⟨gbz3, 1, none⟩ (.int .i64 tz3)).setCell ⟨gbz3, 2, none⟩ (.int .i64 tz6)).setCell ⟨gbz3, 3, none⟩ (.slice Ao25 tz7.length co25)) gz0 tz8 tz10 from by repeat (with_reducible first | exact HI41005.out | refine IsS100.far ?_ NBz16.out _ | refine IsS100.far ?_ NBz17.out _)) hb); replace BKz2 := mk (blk_below (g := gbz2) (o := .cells #[.int .i64 tz0, .int .i64 tz2, .int .i64 tz4, .slice Ao20 tz5.length co20] 28 (0, 0)) (by refine f4 ?_ NBz11.out; refine p4 (.int .i64 0) (.int .i64 0) (.int .i64 0) (.slice none 0 0) ?_; exact BKz2.out) hb); replace BKz3 := mk (blk_below (g := gbz3) (o := .cells #[.int .i64 tz1, .int .i64 tz3, .int .i64 tz6, .slice Ao25 tz7.length co25] 28 (0, 0)) (by refine p4 (.int .i64 0) (.int .i64 0) (.int .i64 0) (.slice none 0 0) ?_; refine f4 ?_ NBz8.out; exact BKz3.out) hb); replace HB := mk (below_step (by repeat (with_reducible first | exact HB.out | refine below_set ?_ GEz0.out | refine below_set ?_ GEz1.out)) hb); (try clear hb); (try clear ho0)) | ((with_reducible refine gate_callee (f := 82) rfl ?_); refine goesL_ (some 20) rfl rfl Try.func82 (by kernel_rfl) rfl #[.pointer (some ⟨gz0, 0, none⟩), .int .i64 4] rfl (by (try simp only [bitvec_to_nat]); rfl) ?_; (with_reducible refine (spec_reader_pick.calls k gz0 tz8 tz10 4 tz12 tz11 w _ ?side1 ?side2 A5.out).mono ?_); (case side1 => repeat (with_reducible exact HI41005.out)); (case side2 => repeat (with_reducible exact HB.out)); rintro e w27 ⟨rfl, hi, hb, hk⟩; refine ⟨_, rfl, ?_⟩; replace BKz0 := mk (KeepBut.blk hk (g' := gbz0) (o := .cells #[.int .i64 0, .int .i64 0, .int .i64 0, .slice none 0 0] 28 (0, 0)) BKz0.out NBz12.out (by simp)); replace BKz1 := mk (KeepBut.blk hk (g' := gbz1) (o := .cells #[.int .i64 0, .int .i64 0, .int .i64 0, .slice none 0 0] 28 (0, 0)) BKz1.out NBz13.out (by simp)); replace HOz0 := mk (Kd.Q_mono (Kd.Q_keep (IsS100.apartQ (show IsS100 w _ gz0 tz8 tz10 from by exact HI41005.out) HOz0.out (by decide)) hk (fun _ h => h.2)) (fun _ h => h.1)); replace HOz1 := mk (Kd.Q_mono (Kd.Q_keep (IsS100.apartQ (show IsS100 w _ gz0 tz8 tz10 from by exact HI41005.out) HOz1.out (by decide)) hk (fun _ h => h.2)) (fun _ h => h.1)); replace BKz2 := mk (KeepBut.blk hk (g' := gbz2) (o := .cells #[.int .i64 tz0, .int .i64 tz2, .int .i64 tz4, .slice Ao20 tz5.length co20] 28 (0, 0)) BKz2.out NBz14.out (by simp)); replace BKz3 := mk (KeepBut.blk hk (g' := gbz3) (o := .cells #[.int .i64 tz1, .int .i64 tz3, .int .i64 tz6, .slice Ao25 tz7.length co25] 28 (0, 0)) BKz3.out NBz15.out (by simp)); replace HOz2 := mk (Kd.R_mono (Kd.R_keep (IsS100.apart (show IsS100 w _ gz0 tz8 tz10 from by exact HI41005.out) HOz2.out (by decide)) hk (fun _ h => h.2)) (fun _ h => h.1)); replace HB := mk (hb); replace HI41005 := mk (hi); (try clear hb); (try clear hk); (try clear hi)) | ((with_reducible refine gate_callee (f := 83) rfl ?_); refine goesL_ (some 24) rfl rfl Try.func83 (by kernel_rfl) rfl #[.pointer (some ⟨gz0, 0, none⟩)] rfl (by (try simp only [bitvec_to_nat]); rfl) ?_; (with_reducible refine (spec_anyBox.calls k gz0 tz8 tz11 tz13 tz14 tz15 tz16 tz18 w _ ?side1 ?side2 A7.out).mono ?_); (case side1 => repeat (with_reducible exact HI41005.out)); (case side2 => repeat (with_reducible exact HB.out)); rintro e w28 ⟨rfl, hi, hb, hk⟩; refine ⟨_, rfl, ?_⟩; replace BKz0 := mk (KeepBut.blk hk (g' := gbz0) (o := .cells #[.int .i64 0, .int .i64 0, .int .i64 0, .slice none 0 0] 28 (0, 0)) BKz0.out NBz12.out (by simp)); replace BKz1 := mk (KeepBut.blk hk (g' := gbz1) (o := .cells #[.int .i64 0, .int .i64 0, .int .i64 0, .slice none 0 0] 28 (0, 0)) BKz1.out NBz13.out (by simp)); replace HOz0 := mk (Kd.Q_mono (Kd.Q_keep (IsS100.apartQ (show IsS100 w _ gz0 tz8 tz11 from by exact HI41005.out) HOz0.out (by decide)) hk (fun _ h => h.2)) (fun _ h => h.1)); replace HOz1 := mk (Kd.Q_mono (Kd.Q_keep (IsS100.apartQ (show IsS100 w _ gz0 tz8 tz11 from by exact HI41005.out) HOz1.out (by decide)) hk (fun _ h => h.2)) (fun _ h => h.1)); replace BKz2 := mk (KeepBut.blk hk (g' := gbz2) (o := .cells #[.int .i64 tz0, .int .i64 tz2, .int .i64 tz4, .slice Ao20 tz5.length co20] 28 (0, 0)) BKz2.out NBz14.out (by simp)); replace BKz3 := mk (KeepBut.blk hk (g' := gbz3) (o := .cells #[.int .i64 tz1, .int .i64 tz3, .int .i64 tz6, .slice Ao25 tz7.length co25] 28 (0, 0)) BKz3.out NBz15.out (by simp)); replace HOz2 := mk (Kd.R_mono (Kd.R_keep (IsS100.apart (show IsS100 w _ gz0 tz8 tz11 from by exact HI41005.out) HOz2.out (by decide)) hk (fun _ h => h.2)) (fun _ h => h.1)); replace HB := mk (hb); replace HI41005 := mk (hi); (try clear hb); (try clear hk); (try clear hi)) | ((with_reducible refine gate_builtin (b := .append) (xs := #[.tmp 22, .tmp 25]) rfl ?_); at_builtin; refine Kd.R_append k60 (w0 := w) w.heap.size rfl (.tmp 22) (.tmp 25) 53 60 (.agg #[(.int .i64 0), (.int .i64 0), (.int .i64 0), (.int .i64 0)]) 32 rfl Try.underlying53 info60 rfl (by decide) (by omega) vz0 tz9 (⟨tz13, tz14, tz15, tz16⟩ : S60) [.int .i64 tz13, .int .i64 tz14, .int .i64 tz15, .int .i64 tz16] (fun _ => True) (fun _ => False) rfl rfl ?aP (fun _ hk => hk.elim) ?aF ?aO ?aB ?aS ?aL ?_; (case aP => exact k60_mkM _ _ _ (⟨tz13, tz14, tz15, tz16⟩ : S60)); (case aB => exact HB.out); (case aF => exact (fun _ _ => trivial)); (case aO => exact HOz2.out); (case aS => exact (below_size HB.out)); (case aL => have := LMc8.out; omega); intro vz3 w29 ho hb hg hat; rw [← Nyz0.out] at ho; have n0_ := mk (blk_grown (g := gbz0) (o := .cells #[.int .i64 0, .int .i64 0, .int .i64 0, .slice none 0 0] 28 (0, 0)) BKz0.out hg (Kd.R_ne HOz2.out BKz0.out (by decide))); have n1_ := mk (blk_grown (g := gbz1) (o := .cells #[.int .i64 0, .int .i64 0, .int .i64 0, .slice none 0 0] 28 (0, 0)) BKz1.out hg (Kd.R_ne HOz2.out BKz1.out (by decide))); have n2_ := mk (IsS100.grown HI41005.out hg (IsS100.own_ne HI41005.out HOz2.out (by decide))); have n3_ := mk (Kd.Q_over' HOz0.out (Kd.R_typed HOz2.out) (by decide) hg); have n4_ := mk (Kd.Q_over' HOz1.out (Kd.R_typed HOz2.out) (by decide) hg); have n5_ := mk (blk_grown (g := gbz2) (o := .cells #[.int .i64 tz0, .int .i64 tz2, .int .i64 tz4, .slice Ao20 tz5.length co20] 28 (0, 0)) BKz2.out hg (Kd.R_ne HOz2.out BKz2.out (by decide))); have n6_ := mk (blk_grown (g := gbz3) (o := .cells #[.int .i64 tz1, .int .i64 tz3, .int .i64 tz6, .slice Ao25 tz7.length co25] 28 (0, 0)) BKz3.out hg (Kd.R_ne HOz2.out BKz3.out (by decide))); have n7_ := mk (hb); have n8_ := mk (ho); clear BKz0; clear BKz1; clear HI41005; clear HOz0; clear HOz1; clear BKz2; clear BKz3; clear HB; clear HOz2; have BKz0 := n0_; have BKz1 := n1_; have HI41005 := n2_; have HOz0 := n3_; have HOz1 := n4_; have BKz2 := n5_; have BKz3 := n6_; have HB := n7_; have HOz3 := n8_; clear ho hb hg hat))
   replace HOz0 := mk (Kd.Q_drew HOz0.out)
   replace HOz1 := mk (Kd.Q_drew HOz1.out)
   replace HOz3 := mk (Kd.R_drew HOz3.out)
   replace BKz0 := mk (blk_drew BKz0.out)
   replace BKz1 := mk (blk_drew BKz1.out)
   replace BKz2 := mk (blk_drew BKz2.out)
   replace BKz3 := mk (blk_drew BKz3.out)
   replace HI41005 := mk (IsS100.drew HI41005.out)
   replace HB := mk (below_drew1 HB.out)
   refine start_ (n := 6) (S := fun w' => w'.cell? ⟨gbz2, 0, none⟩ = some (.int .i64 tz0) ∧ w'.cell? ⟨gbz2, 1, none⟩ = some (.int .i64 tz2) ∧ w'.cell? ⟨gbz2, 2, none⟩ = some (.int .i64 tz4) ∧ w'.cell? ⟨gbz2, 3, none⟩ = some (.slice Ao20 tz5.length co20) ∧ w'.cell? ⟨gbz3, 0, none⟩ = some (.int .i64 tz1) ∧ w'.cell? ⟨gbz3, 1, none⟩ = some (.int .i64 tz3) ∧ w'.cell? ⟨gbz3, 2, none⟩ = some (.int .i64 tz6) ∧ w'.cell? ⟨gbz3, 3, none⟩ = some (.slice Ao25 tz7.length co25)) (ds := []) #[false, false, false, false, false, false] (by kernel_rfl) rfl rfl ⟨blk_cell BKz2.out 0, blk_cell BKz2.out 1, blk_cell BKz2.out 2, blk_cell BKz2.out 3, blk_cell BKz3.out 0, blk_cell BKz3.out 1, blk_cell BKz3.out 2, blk_cell BKz3.out 3⟩ (fun hHeld => ?_)
   generalize w29.drew = w30 at HOz0 HOz1 HOz3 BKz0 BKz1 BKz2 BKz3 HI41005 HB hHeld ⊢
   refine pu 2 29 ?_ ?_ rfl rfl (by kernel_rfl) (Or.inl ⟨by rfl, ?_⟩) ?_ ?_
   rotate_left 2
   ·intro w'
    go_simp
    with_reducible rfl
   ·simp only [seval]
    rfl
   refine tk 0 27 ?_ ?_ rfl rfl (by kernel_rfl) (Or.inl ⟨by rfl, ?_⟩) hHeld ?_ ?_
   rotate_left 2
   ·rintro w' ⟨s0, s1, s2, s3, s4, s5, s6, s7⟩
    go_simp
    with_reducible rfl
   ·simp only [seval]
    rfl
   refine tk 1 28 ?_ ?_ rfl rfl (by kernel_rfl) (Or.inl ⟨by rfl, ?_⟩) hHeld ?_ ?_
   rotate_left 2
   ·rintro w' ⟨s0, s1, s2, s3, s4, s5, s6, s7⟩
    go_simp
    with_reducible rfl
   ·simp only [seval]
    rfl
   refine one_ (i := 3) (N := none) #[true, true, true, true, false, false] rfl rfl (by kernel_rfl) (by decide) (fun K hK => ?_)
   obtain ⟨hs31, hs32, hs33, hs34, hfs31, hfs32, hfs33, hfs34⟩ := c4 BKz0.out
   refine skip_ (w1 := ?_) (by rfl) rfl ?_ ?_
   rotate_left
   ·go_simp
    rfl
   refine hK.out _ _ ⟨(e4 NBz2.out hHeld.1), (e4 NBz2.out hHeld.2.1), (e4 NBz2.out hHeld.2.2.1), (e4 NBz2.out hHeld.2.2.2.1), (e4 NBz0.out hHeld.2.2.2.2.1), (e4 NBz0.out hHeld.2.2.2.2.2.1), (e4 NBz0.out hHeld.2.2.2.2.2.2.1), (e4 NBz0.out hHeld.2.2.2.2.2.2.2)⟩ (fun hHeld => ?_)
   clear hK K
   refine one_ (i := 4) (N := none) #[true, true, true, true, true, false] rfl rfl (by kernel_rfl) (by decide) (fun K hK => ?_)
   obtain ⟨hs35, hs36, hs37, hs38, hfs35, hfs36, hfs37, hfs38⟩ := c4 BKz1.out
   have hms38_0 := NBz5.out
   have hms38_2 := NBz6.out
   have hms38_3 := NBz4.out
   refine skip_ (w1 := ?_) (by rfl) rfl ?_ ?_
   rotate_left
   ·go_simp
    rfl
   refine hK.out _ _ ⟨(e4 NBz3.out hHeld.1), (e4 NBz3.out hHeld.2.1), (e4 NBz3.out hHeld.2.2.1), (e4 NBz3.out hHeld.2.2.2.1), (e4 NBz1.out hHeld.2.2.2.2.1), (e4 NBz1.out hHeld.2.2.2.2.2.1), (e4 NBz1.out hHeld.2.2.2.2.2.2.1), (e4 NBz1.out hHeld.2.2.2.2.2.2.2)⟩ (fun hHeld => ?_)
   clear hK K
   refine pu 5 4 ?_ ?_ rfl rfl (by kernel_rfl) (Or.inl ⟨by rfl, ?_⟩) ?_ ?_
   rotate_left 2
   ·intro w'
    go_simp
    with_reducible rfl
   ·simp only [seval]
    rfl
   refine done_ (by kernel_rfl) ?_
   try go_wp2
   refine bodyPost_ret (results_list (rs := [.cell 2 28, .cell 3 28, .tmp 4]) rfl (by simp) (.cell gbz0 28 #[.int .i64 tz0, .int .i64 tz2, .int .i64 tz4, .slice Ao20 tz5.length co20] (0, 0) _ rfl (by refine f4 ?_ NBz9.out; refine p4 (.int .i64 0) (.int .i64 0) (.int .i64 0) (.slice none 0 0) ?_; exact BKz0.out) Try.underlying28 rfl (by kernel_rfl) (.cell gbz1 28 #[.int .i64 tz1, .int .i64 tz3, .int .i64 tz6, .slice Ao25 tz7.length co25] (0, 0) _ rfl (by refine p4 (.int .i64 0) (.int .i64 0) (.int .i64 0) (.slice none 0 0) ?_; refine f4 ?_ NBz5.out; exact BKz1.out) Try.underlying28 rfl (by kernel_rfl) (.tmp .nil)))) rfl ?_
   exact ⟨_, _, _, by rfl, by exact Kd.Q_mono (Q4 (Kd.Q_far (p := ⟨gbz0, 3, none⟩) (Kd.Q_far (p := ⟨gbz0, 2, none⟩) (Kd.Q_far (p := ⟨gbz0, 1, none⟩) (Kd.Q_far (p := ⟨gbz0, 0, none⟩) (Kd.Q_types (Kd.Q_types HOz0.out BKz0.out (by decide)) BKz1.out (by decide)) (fun _ hk => hk.1.2) (.int .i64 tz0)) (fun _ hk => hk.1.2) (.int .i64 tz2)) (fun _ hk => hk.1.2) (.int .i64 tz4)) (fun _ hk => hk.1.2) (.slice Ao20 tz5.length co20)) (.int .i64 tz1) (.int .i64 tz3) (.int .i64 tz6) (.slice Ao25 tz7.length co25)) (fun _ hk => hk.1.1), by exact Kd.Q_mono (Q4 (Kd.Q_far (p := ⟨gbz0, 3, none⟩) (Kd.Q_far (p := ⟨gbz0, 2, none⟩) (Kd.Q_far (p := ⟨gbz0, 1, none⟩) (Kd.Q_far (p := ⟨gbz0, 0, none⟩) (Kd.Q_types (Kd.Q_types HOz1.out BKz0.out (by decide)) BKz1.out (by decide)) (fun _ hk => hk.1.2) (.int .i64 tz0)) (fun _ hk => hk.1.2) (.int .i64 tz2)) (fun _ hk => hk.1.2) (.int .i64 tz4)) (fun _ hk => hk.1.2) (.slice Ao20 tz5.length co20)) (.int .i64 tz1) (.int .i64 tz3) (.int .i64 tz6) (.slice Ao25 tz7.length co25)) (fun _ hk => hk.1.1), by exact Kd.R_mono (R4 (Kd.R_far (p := ⟨gbz0, 3, none⟩) (Kd.R_far (p := ⟨gbz0, 2, none⟩) (Kd.R_far (p := ⟨gbz0, 1, none⟩) (Kd.R_far (p := ⟨gbz0, 0, none⟩) (Kd.R_types (Kd.R_types HOz3.out BKz0.out (by decide)) BKz1.out (by decide)) (fun _ hk => hk.1.2) (.int .i64 tz0)) (fun _ hk => hk.1.2) (.int .i64 tz2)) (fun _ hk => hk.1.2) (.int .i64 tz4)) (fun _ hk => hk.1.2) (.slice Ao20 tz5.length co20)) (.int .i64 tz1) (.int .i64 tz3) (.int .i64 tz6) (.slice Ao25 tz7.length co25)) (fun _ hk => trivial), by repeat (with_reducible first | exact HB.out | refine below_set ?_ GEz2.out | refine below_set ?_ GEz3.out)⟩
  rw [if_neg c8] at H
  exact absurd H (by simp)
 rw [if_neg c6] at H
 have c6b0 : (tz12 == 0) = false := beq_eq_false_iff_ne.mpr c6
 simp only [Option.some.injEq, Prod.mk.injEq] at H
 obtain ⟨rfl, rfl, rfl, rfl, rfl, rfl, rfl, rfl, rfl⟩ := H
 go_enter Try.func40, Try.ntmps40
 try go_wp2_with (first | ((with_reducible refine gate_dst (N := 2) rfl ?_); refine box_event (by rfl) (N := 2) (by rfl) (cs := #[.int .i64 0, .int .i64 0, .int .i64 0, .slice none 0 0]) (t := 28) (by go_simp; done) ?_; intro gbz0 hg w39 hbox hb; have BKz0 := mk (hbox); have GEz2 := mk ((by rw [hg]; exact (below_size HB.out) : w.heap.size ≤ gbz0)); replace HB := mk (below_step HB.out hb); clear hb hbox hg) | ((with_reducible refine gate_dst (N := 3) rfl ?_); refine box_event (by rfl) (N := 3) (by rfl) (cs := #[.int .i64 0, .int .i64 0, .int .i64 0, .slice none 0 0]) (t := 28) (by go_simp; done) ?_; intro gbz1 hg w40 hbox hb; have BKz1 := mk (hbox); have GEz3 := mk ((by rw [hg]; exact (below_size HB.out) : w.heap.size ≤ gbz1)); replace HB := mk (below_step HB.out hb); have NBz9 := mk ((by rw [hg]; exact Nat.ne_of_lt (blk_lt BKz0.out) : gbz0 ≠ gbz1)); have NBz5 := mk ((by rw [hg]; exact Nat.ne_of_gt (blk_lt BKz0.out) : gbz1 ≠ gbz0)); replace BKz0 := mk (blk_below BKz0.out hb); clear hb hbox hg) | ((with_reducible refine gate_callee (f := 55) rfl ?_); refine goesL_ (some 10) rfl rfl Try.func55 (by kernel_rfl) rfl #[.slice A0 l0.length c0] rfl (by (try simp only [bitvec_to_nat]); rfl) ?_; (with_reducible refine (spec_newReader.calls _ _ l0 tz8 tz17 w _ ?side1 ?side2 ?side3 A2.out).mono ?_); (case side1 => repeat (with_reducible exact HB.out)); (case side2 => exact HR0.out); (case side3 => exact HC0.out); rintro e w41 ⟨gz0, rfl, hi, hb, hb2⟩; refine ⟨_, rfl, ?_⟩; replace HB := mk (hb); have HI41005 := mk (hi); have NBz12 := mk (Ne.symm (IsS100.ne_blk hi (blk_below BKz0.out hb2) (by decide))); replace BKz0 := mk (blk_below BKz0.out hb2); have NBz13 := mk (Ne.symm (IsS100.ne_blk hi (blk_below BKz1.out hb2) (by decide))); replace BKz1 := mk (blk_below BKz1.out hb2); (try clear hb); (try clear hb2); (try clear hi)) | ((with_reducible refine gate_callee (f := 54) rfl ?_); refine goesL_ (some 13) rfl rfl Try.func54 (by kernel_rfl) rfl #[.pointer (some ⟨gz0, 0, none⟩)] rfl (by (try simp only [bitvec_to_nat]); rfl) ?_; (with_reducible refine (spec_twoImages.calls k gz0 tz8 tz17 tz0 tz2 tz4 tz5 tz1 tz3 tz6 tz7 tz10 w _ ?side1 ?side2 A3.out).mono ?_); (case side1 => repeat (with_reducible exact HI41005.out)); (case side2 => repeat (with_reducible exact HB.out)); rintro e w42 ⟨vz1, vz2, rfl, ho0, ho1, hi, hb, hk⟩; refine ⟨_, rfl, ?_⟩; replace BKz0 := mk (KeepBut.blk hk (g' := gbz0) (o := .cells #[.int .i64 0, .int .i64 0, .int .i64 0, .slice none 0 0] 28 (0, 0)) BKz0.out NBz12.out (by simp)); replace BKz1 := mk (KeepBut.blk hk (g' := gbz1) (o := .cells #[.int .i64 0, .int .i64 0, .int .i64 0, .slice none 0 0] 28 (0, 0)) BKz1.out NBz13.out (by simp)); have HOz0 := mk (Kd.Q_lower ho0 (below_size HB.out)); have HOz1 := mk (Kd.Q_lower ho1 (below_size HB.out)); replace HB := mk (hb); replace HI41005 := mk (hi); (try clear hb); (try clear hk); (try clear hi); (try clear ho0); (try clear ho1)) | ((with_reducible refine gate_dst (N := 6) rfl ?_); refine box_event (by rfl) (N := 6) (by rfl) (cs := #[.int .i64 0, .int .i64 0, .int .i64 0, .slice none 0 0]) (t := 28) (by go_simp; done) ?_; intro gbz2 hg w43 hbox hb; replace HOz0 := mk (Kd.Q_below HOz0.out hb); replace HOz1 := mk (Kd.Q_below HOz1.out hb); have BKz2 := mk (hbox); have GEz0 := mk ((by rw [hg]; exact (below_size HB.out) : w.heap.size ≤ gbz2)); replace HB := mk (below_step HB.out hb); have NBz10 := mk ((by rw [hg]; exact Nat.ne_of_lt (blk_lt BKz0.out) : gbz0 ≠ gbz2)); have NBz2 := mk ((by rw [hg]; exact Nat.ne_of_gt (blk_lt BKz0.out) : gbz2 ≠ gbz0)); replace BKz0 := mk (blk_below BKz0.out hb); have NBz6 := mk ((by rw [hg]; exact Nat.ne_of_lt (blk_lt BKz1.out) : gbz1 ≠ gbz2)); have NBz3 := mk ((by rw [hg]; exact Nat.ne_of_gt (blk_lt BKz1.out) : gbz2 ≠ gbz1)); replace BKz1 := mk (blk_below BKz1.out hb); have NBz16 := mk ((by rw [hg]; exact Nat.ne_of_lt (IsS100.lt (show IsS100 w _ gz0 tz8 tz10 from by exact HI41005.out)) : gz0 ≠ gbz2)); have NBz14 := mk ((by rw [hg]; exact Nat.ne_of_gt (IsS100.lt (show IsS100 w _ gz0 tz8 tz10 from by exact HI41005.out)) : gbz2 ≠ gz0)); replace HI41005 := mk (IsS100.below HI41005.out hb); clear hb hbox hg) | ((with_reducible refine gate_dst (N := 7) rfl ?_); refine box_event (by rfl) (N := 7) (by rfl) (cs := #[.int .i64 0, .int .i64 0, .int .i64 0, .slice none 0 0]) (t := 28) (by go_simp; done) ?_; intro gbz3 hg w44 hbox hb; replace HOz0 := mk (Kd.Q_below HOz0.out hb); replace HOz1 := mk (Kd.Q_below HOz1.out hb); have BKz3 := mk (hbox); have GEz1 := mk ((by rw [hg]; exact (below_size HB.out) : w.heap.size ≤ gbz3)); replace HB := mk (below_step HB.out hb); have NBz7 := mk ((by rw [hg]; exact Nat.ne_of_lt (blk_lt BKz0.out) : gbz0 ≠ gbz3)); have NBz0 := mk ((by rw [hg]; exact Nat.ne_of_gt (blk_lt BKz0.out) : gbz3 ≠ gbz0)); replace BKz0 := mk (blk_below BKz0.out hb); have NBz4 := mk ((by rw [hg]; exact Nat.ne_of_lt (blk_lt BKz1.out) : gbz1 ≠ gbz3)); have NBz1 := mk ((by rw [hg]; exact Nat.ne_of_gt (blk_lt BKz1.out) : gbz3 ≠ gbz1)); replace BKz1 := mk (blk_below BKz1.out hb); have NBz11 := mk ((by rw [hg]; exact Nat.ne_of_lt (blk_lt BKz2.out) : gbz2 ≠ gbz3)); have NBz8 := mk ((by rw [hg]; exact Nat.ne_of_gt (blk_lt BKz2.out) : gbz3 ≠ gbz2)); replace BKz2 := mk (blk_below BKz2.out hb); have NBz17 := mk ((by rw [hg]; exact Nat.ne_of_lt (IsS100.lt (show IsS100 w _ gz0 tz8 tz10 from by exact HI41005.out)) : gz0 ≠ gbz3)); have NBz15 := mk ((by rw [hg]; exact Nat.ne_of_gt (IsS100.lt (show IsS100 w _ gz0 tz8 tz10 from by exact HI41005.out)) : gbz3 ≠ gz0)); replace HI41005 := mk (IsS100.below HI41005.out hb); clear hb hbox hg; have hnc47 := NBz8.out; have hnb48 := NBz14.out; have hnc48 := NBz16.out; obtain ⟨hcz49_0, hcz49_1, hcz49_2, hcz49_3, hfz49_0, hfz49_1, hfz49_2, hfz49_3⟩ := c4 BKz2.out; obtain ⟨Ao50, co50, eo50, _⟩ := Kd.Q_slice HOz0.out; subst eo50; have hnb51 := NBz0.out; have hnc51 := NBz7.out; have hnb52 := NBz1.out; have hnc52 := NBz4.out; have hnb53 := NBz15.out; have hnc53 := NBz17.out; obtain ⟨hcz54_0, hcz54_1, hcz54_2, hcz54_3, hfz54_0, hfz54_1, hfz54_2, hfz54_3⟩ := c4 BKz3.out; obtain ⟨Ao55, co55, eo55, _⟩ := Kd.Q_slice HOz1.out; subst eo55) | ((with_reducible refine gate_callee (f := 32) rfl ?_); refine goesL_ (some 18) rfl rfl Try.func32 (by kernel_rfl) rfl #[.agg #[.int .i64 tz0, .int .i64 tz2, .int .i64 tz4, .slice Ao50 tz5.length co50], .agg #[.int .i64 tz1, .int .i64 tz3, .int .i64 tz6, .slice Ao55 tz7.length co55]] rfl (by (try simp only [bitvec_to_nat]); rfl) ?_; (with_reducible refine (spec_ChangedBoxes.calls k tz0 tz2 tz4 _ _ tz5 tz1 tz3 tz6 _ _ tz7 tz9 _ ?side1 ?side2 ?side3 ?side4 A4.out).mono ?_); (case side1 => refine (Kd.Q_reads' (e := 3) (base := w.heap.size) (ok := fun k_ => some k_ ≠ (.slice Ao55 tz7.length co55 : Value).ownBlock) (n := tz5.length) (c := co50) ?_).2.2; exact (by exact (Kd.Q_mono (Kd.Q_mono (Q4 (Kd.Q_far (p := ⟨gbz2, 3, none⟩) (Kd.Q_far (p := ⟨gbz2, 2, none⟩) (Kd.Q_far (p := ⟨gbz2, 1, none⟩) (Kd.Q_far (p := ⟨gbz2, 0, none⟩) (Kd.Q_types (Kd.Q_types HOz0.out BKz2.out (by decide)) BKz3.out (by decide)) (fun _ hk => hk.1.2) (.int .i64 tz0)) (fun _ hk => hk.1.2) (.int .i64 tz2)) (fun _ hk => hk.1.2) (.int .i64 tz4)) (fun _ hk => hk.1.2) (.slice Ao50 tz5.length co50)) (.int .i64 tz1) (.int .i64 tz3) (.int .i64 tz6) (.slice Ao55 tz7.length co55)) (fun _ h_ => h_.1)) (fun _ h_ => h_.1)))); (case side2 => exact (Kd.Q_reads' HOz0.out).2.1); (case side3 => refine (Kd.Q_reads' (e := 3) (base := w.heap.size) (ok := fun k_ => some k_ ≠ (.slice Ao50 tz5.length co50 : Value).ownBlock) (n := tz7.length) (c := co55) ?_).2.2; exact (by exact (Kd.Q_mono (Kd.Q_mono (Q4 (Kd.Q_far (p := ⟨gbz2, 3, none⟩) (Kd.Q_far (p := ⟨gbz2, 2, none⟩) (Kd.Q_far (p := ⟨gbz2, 1, none⟩) (Kd.Q_far (p := ⟨gbz2, 0, none⟩) (Kd.Q_types (Kd.Q_types HOz1.out BKz2.out (by decide)) BKz3.out (by decide)) (fun _ hk => hk.1.2) (.int .i64 tz0)) (fun _ hk => hk.1.2) (.int .i64 tz2)) (fun _ hk => hk.1.2) (.int .i64 tz4)) (fun _ hk => hk.1.2) (.slice Ao50 tz5.length co50)) (.int .i64 tz1) (.int .i64 tz3) (.int .i64 tz6) (.slice Ao55 tz7.length co55)) (fun _ h_ => h_.1)) (fun _ h_ => h_.1)))); (case side4 => exact (Kd.Q_reads' HOz1.out).2.1); rintro e w56 ⟨vz0, rfl, ho0, hb⟩; refine ⟨_, rfl, ?_⟩; replace HOz0 := mk (Kd.Q_below (by exact (Kd.Q_mono (Kd.Q_mono (Q4 (Kd.Q_far (p := ⟨gbz2, 3, none⟩) (Kd.Q_far (p := ⟨gbz2, 2, none⟩) (Kd.Q_far (p := ⟨gbz2, 1, none⟩) (Kd.Q_far (p := ⟨gbz2, 0, none⟩) (Kd.Q_types (Kd.Q_types HOz0.out BKz2.out (by decide)) BKz3.out (by decide)) (fun _ hk => hk.1.2) (.int .i64 tz0)) (fun _ hk => hk.1.2) (.int .i64 tz2)) (fun _ hk => hk.1.2) (.int .i64 tz4)) (fun _ hk => hk.1.2) (.slice Ao50 tz5.length co50)) (.int .i64 tz1) (.int .i64 tz3) (.int .i64 tz6) (.slice Ao55 tz7.length co55)) (fun _ h_ => h_.1)) (fun _ h_ => h_.1))) hb); replace HOz1 := mk (Kd.Q_below (by exact (Kd.Q_mono (Kd.Q_mono (Q4 (Kd.Q_far (p := ⟨gbz2, 3, none⟩) (Kd.Q_far (p := ⟨gbz2, 2, none⟩) (Kd.Q_far (p := ⟨gbz2, 1, none⟩) (Kd.Q_far (p := ⟨gbz2, 0, none⟩) (Kd.Q_types (Kd.Q_types HOz1.out BKz2.out (by decide)) BKz3.out (by decide)) (fun _ hk => hk.1.2) (.int .i64 tz0)) (fun _ hk => hk.1.2) (.int .i64 tz2)) (fun _ hk => hk.1.2) (.int .i64 tz4)) (fun _ hk => hk.1.2) (.slice Ao50 tz5.length co50)) (.int .i64 tz1) (.int .i64 tz3) (.int .i64 tz6) (.slice Ao55 tz7.length co55)) (fun _ h_ => h_.1)) (fun _ h_ => h_.1))) hb); have HOz2 := mk (Kd.R_lower ho0 (below_size (by repeat (with_reducible first | exact HB.out | refine below_set ?_ GEz0.out | refine below_set ?_ GEz1.out)))); replace BKz0 := mk (blk_below (g := gbz0) (o := .cells #[.int .i64 0, .int .i64 0, .int .i64 0, .slice none 0 0] 28 (0, 0)) (by refine f4 ?_ NBz7.out; refine f4 ?_ NBz10.out; exact BKz0.out) hb); replace BKz1 := mk (blk_below (g := gbz1) (o := .cells #[.int .i64 0, .int .i64 0, .int .i64 0, .slice none 0 0] 28 (0, 0)) (by refine f4 ?_ NBz4.out; refine f4 ?_ NBz6.out; exact BKz1.out) hb); replace HI41005 := mk (IsS100.below (show IsS100 w ((((((((w44.setCell ⟨gbz2, 0, none⟩ (.int .i64 tz0)).setCell ⟨gbz2, 1, none⟩ (.int .i64 tz2)).setCell ⟨gbz2, 2, none⟩ (.int .i64 tz4)).setCell ⟨gbz2, 3, none⟩ (.slice Ao50 tz5.length co50)).setCell ⟨gbz3, 0, none⟩ (.int .i64 tz1)).setCell ⟨gbz3, 1, none⟩ (.int .i64 tz3)).setCell ⟨gbz3, 2, none⟩ (.int .i64 tz6)).setCell ⟨gbz3, 3, none⟩ (.slice Ao55 tz7.length co55)) gz0 tz8 tz10 from by repeat (with_reducible first | exact HI41005.out | refine IsS100.far ?_ NBz16.out _ | refine IsS100.far ?_ NBz17.out _)) hb); replace BKz2 := mk (blk_below (g := gbz2) (o := .cells #[.int .i64 tz0, .int .i64 tz2, .int .i64 tz4, .slice Ao50 tz5.length co50] 28 (0, 0)) (by refine f4 ?_ NBz11.out; refine p4 (.int .i64 0) (.int .i64 0) (.int .i64 0) (.slice none 0 0) ?_; exact BKz2.out) hb); replace BKz3 := mk (blk_below (g := gbz3) (o := .cells #[.int .i64 tz1, .int .i64 tz3, .int .i64 tz6, .slice Ao55 tz7.length co55] 28 (0, 0)) (by refine p4 (.int .i64 0) (.int .i64 0) (.int .i64 0) (.slice none 0 0) ?_; refine f4 ?_ NBz8.out; exact BKz3.out) hb); replace HB := mk (below_step (by repeat (with_reducible first | exact HB.out | refine below_set ?_ GEz0.out | refine below_set ?_ GEz1.out)) hb); (try clear hb); (try clear ho0)) | ((with_reducible refine gate_callee (f := 82) rfl ?_); refine goesL_ (some 20) rfl rfl Try.func82 (by kernel_rfl) rfl #[.pointer (some ⟨gz0, 0, none⟩), .int .i64 4] rfl (by (try simp only [bitvec_to_nat]); rfl) ?_; (with_reducible refine (spec_reader_pick.calls k gz0 tz8 tz10 4 tz12 tz11 w _ ?side1 ?side2 A5.out).mono ?_); (case side1 => repeat (with_reducible exact HI41005.out)); (case side2 => repeat (with_reducible exact HB.out)); rintro e w57 ⟨rfl, hi, hb, hk⟩; refine ⟨_, rfl, ?_⟩; replace BKz0 := mk (KeepBut.blk hk (g' := gbz0) (o := .cells #[.int .i64 0, .int .i64 0, .int .i64 0, .slice none 0 0] 28 (0, 0)) BKz0.out NBz12.out (by simp)); replace BKz1 := mk (KeepBut.blk hk (g' := gbz1) (o := .cells #[.int .i64 0, .int .i64 0, .int .i64 0, .slice none 0 0] 28 (0, 0)) BKz1.out NBz13.out (by simp)); replace HOz0 := mk (Kd.Q_mono (Kd.Q_keep (IsS100.apartQ (show IsS100 w _ gz0 tz8 tz10 from by exact HI41005.out) HOz0.out (by decide)) hk (fun _ h => h.2)) (fun _ h => h.1)); replace HOz1 := mk (Kd.Q_mono (Kd.Q_keep (IsS100.apartQ (show IsS100 w _ gz0 tz8 tz10 from by exact HI41005.out) HOz1.out (by decide)) hk (fun _ h => h.2)) (fun _ h => h.1)); replace BKz2 := mk (KeepBut.blk hk (g' := gbz2) (o := .cells #[.int .i64 tz0, .int .i64 tz2, .int .i64 tz4, .slice Ao50 tz5.length co50] 28 (0, 0)) BKz2.out NBz14.out (by simp)); replace BKz3 := mk (KeepBut.blk hk (g' := gbz3) (o := .cells #[.int .i64 tz1, .int .i64 tz3, .int .i64 tz6, .slice Ao55 tz7.length co55] 28 (0, 0)) BKz3.out NBz15.out (by simp)); replace HOz2 := mk (Kd.R_mono (Kd.R_keep (IsS100.apart (show IsS100 w _ gz0 tz8 tz10 from by exact HI41005.out) HOz2.out (by decide)) hk (fun _ h => h.2)) (fun _ h => h.1)); replace HB := mk (hb); replace HI41005 := mk (hi); (try clear hb); (try clear hk); (try clear hi)))
 replace HOz0 := mk (Kd.Q_drew HOz0.out)
 replace HOz1 := mk (Kd.Q_drew HOz1.out)
 replace HOz2 := mk (Kd.R_drew HOz2.out)
 replace BKz0 := mk (blk_drew BKz0.out)
 replace BKz1 := mk (blk_drew BKz1.out)
 replace BKz2 := mk (blk_drew BKz2.out)
 replace BKz3 := mk (blk_drew BKz3.out)
 replace HI41005 := mk (IsS100.drew HI41005.out)
 replace HB := mk (below_drew1 HB.out)
 refine start_ (n := 6) (S := fun w' => w'.cell? ⟨gbz2, 0, none⟩ = some (.int .i64 tz0) ∧ w'.cell? ⟨gbz2, 1, none⟩ = some (.int .i64 tz2) ∧ w'.cell? ⟨gbz2, 2, none⟩ = some (.int .i64 tz4) ∧ w'.cell? ⟨gbz2, 3, none⟩ = some (.slice Ao50 tz5.length co50) ∧ w'.cell? ⟨gbz3, 0, none⟩ = some (.int .i64 tz1) ∧ w'.cell? ⟨gbz3, 1, none⟩ = some (.int .i64 tz3) ∧ w'.cell? ⟨gbz3, 2, none⟩ = some (.int .i64 tz6) ∧ w'.cell? ⟨gbz3, 3, none⟩ = some (.slice Ao55 tz7.length co55)) (ds := []) #[false, false, false, false, false, false] (by kernel_rfl) rfl rfl ⟨blk_cell BKz2.out 0, blk_cell BKz2.out 1, blk_cell BKz2.out 2, blk_cell BKz2.out 3, blk_cell BKz3.out 0, blk_cell BKz3.out 1, blk_cell BKz3.out 2, blk_cell BKz3.out 3⟩ (fun hHeld => ?_)
 generalize w57.drew = w58 at HOz0 HOz1 HOz2 BKz0 BKz1 BKz2 BKz3 HI41005 HB hHeld ⊢
 refine pu 2 29 ?_ ?_ rfl rfl (by kernel_rfl) (Or.inl ⟨by rfl, ?_⟩) ?_ ?_
 rotate_left 2
 ·intro w'
  go_simp
  with_reducible rfl
 ·simp only [seval]
  rfl
 refine tk 0 27 ?_ ?_ rfl rfl (by kernel_rfl) (Or.inl ⟨by rfl, ?_⟩) hHeld ?_ ?_
 rotate_left 2
 ·rintro w' ⟨s0, s1, s2, s3, s4, s5, s6, s7⟩
  go_simp
  with_reducible rfl
 ·simp only [seval]
  rfl
 refine tk 1 28 ?_ ?_ rfl rfl (by kernel_rfl) (Or.inl ⟨by rfl, ?_⟩) hHeld ?_ ?_
 rotate_left 2
 ·rintro w' ⟨s0, s1, s2, s3, s4, s5, s6, s7⟩
  go_simp
  with_reducible rfl
 ·simp only [seval]
  rfl
 refine one_ (i := 3) (N := none) #[true, true, true, true, false, false] rfl rfl (by kernel_rfl) (by decide) (fun K hK => ?_)
 obtain ⟨hs59, hs60, hs61, hs62, hfs59, hfs60, hfs61, hfs62⟩ := c4 BKz0.out
 refine skip_ (w1 := ?_) (by rfl) rfl ?_ ?_
 rotate_left
 ·go_simp
  rfl
 refine hK.out _ _ ⟨(e4 NBz2.out hHeld.1), (e4 NBz2.out hHeld.2.1), (e4 NBz2.out hHeld.2.2.1), (e4 NBz2.out hHeld.2.2.2.1), (e4 NBz0.out hHeld.2.2.2.2.1), (e4 NBz0.out hHeld.2.2.2.2.2.1), (e4 NBz0.out hHeld.2.2.2.2.2.2.1), (e4 NBz0.out hHeld.2.2.2.2.2.2.2)⟩ (fun hHeld => ?_)
 clear hK K
 refine one_ (i := 4) (N := none) #[true, true, true, true, true, false] rfl rfl (by kernel_rfl) (by decide) (fun K hK => ?_)
 obtain ⟨hs63, hs64, hs65, hs66, hfs63, hfs64, hfs65, hfs66⟩ := c4 BKz1.out
 have hms66_0 := NBz5.out
 have hms66_2 := NBz6.out
 have hms66_3 := NBz4.out
 refine skip_ (w1 := ?_) (by rfl) rfl ?_ ?_
 rotate_left
 ·go_simp
  rfl
 refine hK.out _ _ ⟨(e4 NBz3.out hHeld.1), (e4 NBz3.out hHeld.2.1), (e4 NBz3.out hHeld.2.2.1), (e4 NBz3.out hHeld.2.2.2.1), (e4 NBz1.out hHeld.2.2.2.2.1), (e4 NBz1.out hHeld.2.2.2.2.2.1), (e4 NBz1.out hHeld.2.2.2.2.2.2.1), (e4 NBz1.out hHeld.2.2.2.2.2.2.2)⟩ (fun hHeld => ?_)
 clear hK K
 refine pu 5 4 ?_ ?_ rfl rfl (by kernel_rfl) (Or.inl ⟨by rfl, ?_⟩) ?_ ?_
 rotate_left 2
 ·intro w'
  go_simp
  with_reducible rfl
 ·simp only [seval]
  rfl
 refine done_ (by kernel_rfl) ?_
 try go_wp2
 refine bodyPost_ret (results_list (rs := [.cell 2 28, .cell 3 28, .tmp 4]) rfl (by simp) (.cell gbz0 28 #[.int .i64 tz0, .int .i64 tz2, .int .i64 tz4, .slice Ao50 tz5.length co50] (0, 0) _ rfl (by refine f4 ?_ NBz9.out; refine p4 (.int .i64 0) (.int .i64 0) (.int .i64 0) (.slice none 0 0) ?_; exact BKz0.out) Try.underlying28 rfl (by kernel_rfl) (.cell gbz1 28 #[.int .i64 tz1, .int .i64 tz3, .int .i64 tz6, .slice Ao55 tz7.length co55] (0, 0) _ rfl (by refine p4 (.int .i64 0) (.int .i64 0) (.int .i64 0) (.slice none 0 0) ?_; refine f4 ?_ NBz5.out; exact BKz1.out) Try.underlying28 rfl (by kernel_rfl) (.tmp .nil)))) rfl ?_
 exact ⟨_, _, _, by rfl, by exact Kd.Q_mono (Q4 (Kd.Q_far (p := ⟨gbz0, 3, none⟩) (Kd.Q_far (p := ⟨gbz0, 2, none⟩) (Kd.Q_far (p := ⟨gbz0, 1, none⟩) (Kd.Q_far (p := ⟨gbz0, 0, none⟩) (Kd.Q_types (Kd.Q_types HOz0.out BKz0.out (by decide)) BKz1.out (by decide)) (fun _ hk => hk.1.2) (.int .i64 tz0)) (fun _ hk => hk.1.2) (.int .i64 tz2)) (fun _ hk => hk.1.2) (.int .i64 tz4)) (fun _ hk => hk.1.2) (.slice Ao50 tz5.length co50)) (.int .i64 tz1) (.int .i64 tz3) (.int .i64 tz6) (.slice Ao55 tz7.length co55)) (fun _ hk => hk.1.1), by exact Kd.Q_mono (Q4 (Kd.Q_far (p := ⟨gbz0, 3, none⟩) (Kd.Q_far (p := ⟨gbz0, 2, none⟩) (Kd.Q_far (p := ⟨gbz0, 1, none⟩) (Kd.Q_far (p := ⟨gbz0, 0, none⟩) (Kd.Q_types (Kd.Q_types HOz1.out BKz0.out (by decide)) BKz1.out (by decide)) (fun _ hk => hk.1.2) (.int .i64 tz0)) (fun _ hk => hk.1.2) (.int .i64 tz2)) (fun _ hk => hk.1.2) (.int .i64 tz4)) (fun _ hk => hk.1.2) (.slice Ao50 tz5.length co50)) (.int .i64 tz1) (.int .i64 tz3) (.int .i64 tz6) (.slice Ao55 tz7.length co55)) (fun _ hk => hk.1.1), by exact Kd.R_mono (R4 (Kd.R_far (p := ⟨gbz0, 3, none⟩) (Kd.R_far (p := ⟨gbz0, 2, none⟩) (Kd.R_far (p := ⟨gbz0, 1, none⟩) (Kd.R_far (p := ⟨gbz0, 0, none⟩) (Kd.R_types (Kd.R_types HOz2.out BKz0.out (by decide)) BKz1.out (by decide)) (fun _ hk => hk.1.2) (.int .i64 tz0)) (fun _ hk => hk.1.2) (.int .i64 tz2)) (fun _ hk => hk.1.2) (.int .i64 tz4)) (fun _ hk => hk.1.2) (.slice Ao50 tz5.length co50)) (.int .i64 tz1) (.int .i64 tz3) (.int .i64 tz6) (.slice Ao55 tz7.length co55)) (fun _ hk => trivial), by repeat (with_reducible first | exact HB.out | refine below_set ?_ GEz2.out | refine below_set ?_ GEz3.out)⟩

end Go.Proofs.Ytbgohbinonkhfaa.Q

/- A pixel's numbers, and where they lie. -/
namespace Go.Proofs.Ytbgohbinonkhfaa.Pure
open Go.RowKit Go.Proofs.Ytbgohbinonkhfaa.Q Go.Proofs.YtbgohbinonkhfaaW.PrintWords Go.Proofs.YtbgohbinonkhfaaW.PrintLast Go.Proofs.YtbgohbinonkhfaaW.PrintMore
set_option linter.unusedVariables false
set_option linter.unusedSimpArgs false

def pixJ (a p : Int) (x y : Nat) : Int := wrap64 ((wrap64 ((wrap64 ((y : Int) * a)) + (x : Int))) * p)
theorem pixJ_is {a b p : Int} {d : List Int} (hv : validI a b p d = true) {x y : Nat} (hx : (x : Int) < a) (hy : (y : Int) < b) : 0 ≤ pixJ a p x y ∧ pixJ a p x y ≤ 1024 ∧ pixJ a p x y = ((y : Int) * a + x) * p ∧ pixJ a p x y + p ≤ (d.length : Int) := by
 have h := (validI_iff a b p d).1 hv
 have hp := shape_prod h.1
 have h1 : 0 ≤ (y : Int) * a := Int.mul_nonneg (by omega) (by omega)
 have h2 : (y : Int) * a ≤ (b - 1) * a := Int.mul_le_mul_of_nonneg_right (by omega) (by omega)
 have h3 : (b - 1) * a = a * b - a := by rw [Int.sub_mul, Int.mul_comm b a]; omega
 have h4 : 0 ≤ ((y : Int) * a + x) * p := Int.mul_nonneg (by omega) (by omega)
 have h5 : ((y : Int) * a + x) * p ≤ (a * b - 1) * p := Int.mul_le_mul_of_nonneg_right (by omega) (by omega)
 have h6 : (a * b - 1) * p = a * b * p - p := by rw [Int.sub_mul]; omega
 have e : pixJ a p x y = ((y : Int) * a + x) * p := by
  unfold pixJ
  rw [w64 (x := (y : Int) * a) (by omega) (by omega), w64 (x := (y : Int) * a + (x : Int)) (by omega) (by omega), w64 (by omega) (by omega)]
 omega
theorem pixT_len (d : List Int) (j p : Int) : (pixT d j p).length ≤ d.length := by
 unfold pixT
 rw [List.length_drop, List.length_take]
 omega

/- The region of a box, as the program and the reference have it. -/

theorem scanRow_len (g : Nat → Bool) (y : Nat) : ∀ d x, 17 ≤ x + d → (scanRow g y x).length ≤ 17 - x := by
 intro d
 induction d with
 | zero => intro x hx; rw [scan_end g y x (by omega)]; simp
 | succ d ih =>
  intro x hx
  by_cases h16 : x < 16
  ·cases hv : g (y * 16 + x) with
   | true =>
    have := endAt_ge g y (16 - x) x
    rw [scan_true g y x h16 hv, List.length_cons]
    have := ih (endAt g y (16 - x) x + 1) (by omega)
    omega
   | false =>
    rw [scan_false g y x h16 hv]
    have := ih (x + 1) (by omega)
    omega
  ·rw [scan_end g y x (by omega)]; simp
theorem runsTo_len (g : Nat → Bool) (n : Nat) : (runsTo g n).length ≤ 17 * n := by
 induction n with
 | zero => simp [runsTo]
 | succ n ih =>
  rw [runsTo_succ, List.length_append]
  have := scanRow_len g n 17 0 (by omega)
  omega
theorem runsL_len (g : Nat → Bool) : (runsL g).length ≤ 272 := runsTo_len g 16
theorem boxOk_iff (b0 b1 b2 b3 : Int) : boxOk b0 b1 b2 b3 = true ↔ 0 ≤ b0 ∧ b0 < 16 ∧ 0 ≤ b1 ∧ b1 < 16 ∧ 1 ≤ b2 ∧ b2 ≤ 16 - b0 ∧ 1 ≤ b3 ∧ b3 ≤ 16 - b1 := by simp [boxOk]

/- The runs of a grid are a region: their grid is the grid, and their area is the number of its pixels. -/

theorem endAt_le (g : Nat → Bool) (y : Nat) : ∀ n x, x ≤ 16 → endAt g y n x ≤ 16 := by
 intro n
 induction n with
 | zero => intro x h; exact h
 | succ n ih =>
  intro x h
  unfold endAt
  split
  ·rename_i c; exact ih (x + 1) (by omega)
  ·exact h
theorem endAt_in (g : Nat → Bool) (y : Nat) : ∀ n x q, x ≤ q → q < endAt g y n x → g (y * 16 + q) = true := by
 intro n
 induction n with
 | zero => intro x q h1 h2; exact absurd h2 (by simp only [endAt]; omega)
 | succ n ih =>
  intro x q h1 h2
  unfold endAt at h2
  split at h2
  ·rename_i c
   by_cases e : q = x
   ·subst e; exact c.2
   ·exact ih (x + 1) q (by omega) h2
  ·omega
theorem endAt_end (g : Nat → Bool) (y : Nat) : ∀ n x, 16 ≤ n + x → x ≤ 16 → endAt g y n x = 16 ∨ g (y * 16 + endAt g y n x) = false := by
 intro n
 induction n with
 | zero => intro x h1 h2; left; simp only [endAt]; omega
 | succ n ih =>
  intro x h1 h2
  unfold endAt
  split
  ·rename_i c; exact ih (x + 1) (by omega) (by omega)
  ·rename_i c
   by_cases hx : x < 16
   ·right
    cases hv : g (y * 16 + x) with
    | true => exact absurd ⟨hx, hv⟩ c
    | false => rfl
   ·left; omega
theorem runIn_row (y p : Nat) (a b : Nat) : runIn ⟨(y : Int), (a : Int), (b : Int)⟩ p = (decide (p / 16 = y) && (decide (a ≤ p % 16) && decide (p % 16 < b))) := by
 unfold runIn
 rw [Bool.and_assoc]
 congr 1
 ·rw [decide_eq_decide]; simp only; omega
 ·congr 1
  ·rw [decide_eq_decide]; simp only; omega
  ·rw [decide_eq_decide]; simp only; omega
theorem gridF_nil (p : Nat) : gridF [] p = false := rfl
theorem gridF_cons (r : Run) (l : List Run) (p : Nat) : gridF (r :: l) p = (runIn r p || gridF l p) := rfl
theorem gridF_append (l m : List Run) (p : Nat) : gridF (l ++ m) p = (gridF l p || gridF m p) := by unfold gridF; rw [List.any_append]
theorem grid_scan (g : Nat → Bool) (y p : Nat) (hp : p < 256) : ∀ d x, 17 ≤ x + d → gridF (scanRow g y x) p = (decide (p / 16 = y) && (decide (x ≤ p % 16) && g p)) := by
 intro d
 induction d with
 | zero =>
  intro x hx
  rw [scan_end g y x (by omega), gridF_nil, decide_eq_false (show ¬ x ≤ p % 16 by omega), Bool.false_and, Bool.and_false]
 | succ d ih =>
  intro x hx
  by_cases h16 : x < 16
  ·by_cases hy : p / 16 = y
   ·have hpe : p = y * 16 + p % 16 := by omega
    cases hv : g (y * 16 + x) with
    | true =>
     have he := endAt_ge g y (16 - x) x
     have he2 := endAt_le g y (16 - x) x (by omega)
     have hin := endAt_in g y (16 - x) x
     have hend := endAt_end g y (16 - x) x (by omega) (by omega)
     have hst := endAt_step g y x h16 hv
     have he3 := endAt_ge g y (16 - (x + 1)) (x + 1)
     rw [← hst] at he3
     rw [scan_true g y x h16 hv, gridF_cons, runIn_row, ih _ (by omega)]
     generalize endAt g y (16 - x) x = e at *
     rw [decide_eq_true hy, Bool.true_and, Bool.true_and, Bool.true_and]
     by_cases c1 : x ≤ p % 16
     ·rw [decide_eq_true c1, Bool.true_and, Bool.true_and]
      by_cases c2 : p % 16 < e
      ·rw [decide_eq_true c2, Bool.true_or, hpe, hin (p % 16) c1 c2]
      ·rw [decide_eq_false c2, Bool.false_or]
       by_cases c3 : e + 1 ≤ p % 16
       ·rw [decide_eq_true c3, Bool.true_and]
       ·rw [decide_eq_false c3, Bool.false_and]
        rcases hend with h | h
        ·omega
        ·rw [show p % 16 = e by omega] at hpe
         rw [hpe, h]
     ·rw [decide_eq_false c1, Bool.false_and, Bool.false_and, Bool.false_or, decide_eq_false (show ¬ e + 1 ≤ p % 16 by omega), Bool.false_and]
    | false =>
     rw [scan_false g y x h16 hv, ih _ (by omega), decide_eq_true hy, Bool.true_and, Bool.true_and]
     by_cases c : x = p % 16
     ·rw [decide_eq_false (show ¬ x + 1 ≤ p % 16 by omega), Bool.false_and, decide_eq_true (show x ≤ p % 16 by omega), Bool.true_and, hpe, ← c, hv]
     ·congr 1
      rw [decide_eq_decide]; omega
   ·have hall : ∀ d x, 17 ≤ x + d → gridF (scanRow g y x) p = false := by
     intro d
     induction d with
     | zero => intro x hx; rw [scan_end g y x (by omega)]; rfl
     | succ d ih =>
      intro x hx
      by_cases h16 : x < 16
      ·cases hv : g (y * 16 + x) with
       | true =>
        have := endAt_ge g y (16 - x) x
        rw [scan_true g y x h16 hv, gridF_cons, runIn_row, decide_eq_false hy, Bool.false_and, Bool.false_or]
        exact ih _ (by omega)
       | false => rw [scan_false g y x h16 hv]; exact ih _ (by omega)
      ·rw [scan_end g y x (by omega)]; rfl
    rw [hall 17 x (by omega), decide_eq_false hy, Bool.false_and]
  ·rw [scan_end g y x (by omega), gridF_nil, decide_eq_false (show ¬ x ≤ p % 16 by omega), Bool.false_and, Bool.and_false]
theorem grid_runsTo (g : Nat → Bool) (p : Nat) (hp : p < 256) (n : Nat) : gridF (runsTo g n) p = (decide (p / 16 < n) && g p) := by
 induction n with
 | zero => simp [runsTo, gridF]
 | succ n ih =>
  rw [runsTo_succ, gridF_append, ih, grid_scan g n p hp 17 0 (by omega), decide_eq_true (Nat.zero_le _), Bool.true_and]
  by_cases c : p / 16 = n
  ·rw [decide_eq_true c, decide_eq_false (show ¬ p / 16 < n by omega), decide_eq_true (show p / 16 < n + 1 by omega), Bool.false_and, Bool.false_or]
  ·rw [decide_eq_false c, Bool.false_and, Bool.or_false]
   congr 1
   rw [decide_eq_decide]; omega
theorem grid_runs (g : Nat → Bool) (p : Nat) (hp : p < 256) : gridF (runsL g) p = g p := by
 unfold runsL
 rw [grid_runsTo g p hp, decide_eq_true (show p / 16 < 16 by omega), Bool.true_and]
/-! the runs are valid -/
def rowsFrom (g : Nat → Bool) (y n : Nat) : List Run := (List.range' y n).flatMap fun y => scanRow g y 0
theorem rowsFrom_succ (g : Nat → Bool) (y n : Nat) : rowsFrom g y (n + 1) = scanRow g y 0 ++ rowsFrom g (y + 1) n := by
 simp [rowsFrom, List.range'_succ]
theorem runsL_rows (g : Nat → Bool) : runsL g = rowsFrom g 0 16 := by
 unfold runsL runsTo rowsFrom
 rw [List.range_eq_range']
def ahead (y x : Nat) (p : Option Run) : Prop := ∀ r, p = some r → r.f0 < (y : Int) ∨ (r.f0 = (y : Int) ∧ r.f2 < (x : Int))
theorem scan_valid (g : Nat → Bool) (y : Nat) (hy : y < 16) (rest : List Run) (hrest : ∀ p, (∀ r, p = some r → r.f0 ≤ (y : Int)) → validFrom p rest = true) :
  ∀ d x p, 17 ≤ x + d → (ahead y x p ∨ (x = 0 ∧ ∀ r, p = some r → r.f0 < (y : Int))) → validFrom p (scanRow g y x ++ rest) = true := by
 intro d
 induction d with
 | zero =>
  intro x p hx hp
  rw [scan_end g y x (by omega), List.nil_append]
  refine hrest p (fun r hr => ?_)
  rcases hp with hp | hp
  ·have := hp r hr; omega
  ·have := hp.2 r hr; omega
 | succ d ih =>
  intro x p hx hp
  by_cases h16 : x < 16
  ·cases hv : g (y * 16 + x) with
   | true =>
    have he2 := endAt_le g y (16 - x) x (by omega)
    have hst := endAt_step g y x h16 hv
    have he3 := endAt_ge g y (16 - (x + 1)) (x + 1)
    rw [← hst] at he3
    rw [scan_true g y x h16 hv, List.cons_append]
    generalize endAt g y (16 - x) x = e at *
    have hok : runOK ⟨(y : Int), (x : Int), (e : Int)⟩ = true := by rw [runOK_iff]; simp only; omega
    have hnext : validFrom (some ⟨(y : Int), (x : Int), (e : Int)⟩) (scanRow g y (e + 1) ++ rest) = true := by
     refine ih (e + 1) _ (by omega) (.inl (fun r hr => ?_))
     injection hr with hr
     subst hr
     right
     simp only
     exact ⟨trivial, by omega⟩
    cases p with
    | none => simp only [validFrom, hok, hnext, Bool.and_true]
    | some q =>
     have haft : runAfter q ⟨(y : Int), (x : Int), (e : Int)⟩ = true := by
      rw [runAfter_iff]
      simp only
      rcases hp with hp | hp
      ·have := hp q rfl; omega
      ·have := hp.2 q rfl; omega
     simp only [validFrom, hok, haft, hnext, Bool.and_true]
   | false =>
    rw [scan_false g y x h16 hv]
    refine ih (x + 1) p (by omega) (.inl (fun r hr => ?_))
    rcases hp with hp | hp
    ·have := hp r hr; omega
    ·have := hp.2 r hr; omega
  ·rw [scan_end g y x (by omega), List.nil_append]
   refine hrest p (fun r hr => ?_)
   rcases hp with hp | hp
   ·have := hp r hr; omega
   ·have := hp.2 r hr; omega
theorem rows_valid (g : Nat → Bool) : ∀ n y : Nat, y + n ≤ 16 → ∀ p : Option Run, (∀ r, p = some r → r.f0 < (y : Int)) → validFrom p (rowsFrom g y n) = true := by
 intro n
 induction n with
 | zero =>
  intro y _ p _
  cases p <;> rfl
 | succ n ih =>
  intro y hy p hp
  rw [rowsFrom_succ]
  exact scan_valid g y (by omega) _ (fun p' hp' => ih (y + 1) (by omega) p' (fun r hr => by have := hp' r hr; omega)) 17 0 p (by omega) (.inr ⟨rfl, hp⟩)
theorem runs_valid (g : Nat → Bool) : validR (runsL g) = true := by
 rw [runsL_rows]
 exact rows_valid g 16 0 (by omega) none (fun r hr => by cases hr)
/-! their area -/

/- The connected parts of a grid: the program's search through runs and the reference's search through pixels find the same. -/

theorem adj_symm {q r : Nat} (h : Adj q r) : Adj r q := by unfold Adj at *; omega
theorem reach_congr {g g' : Nat → Bool} (h : ∀ p, p < 256 → g p = g' p) {s q : Nat} (hr : Q.Reach g s q) : Q.Reach g' s q := by
 induction hr with
 | here => exact .here
 | step q r _ ha h2 hg ih => exact .step q r ih ha h2 (by rw [← h r h2]; exact hg)
theorem comp_congr {g g' : Nat → Bool} (h : ∀ p, p < 256 → g p = g' p) (s q : Nat) : comp g s q = comp g' s q := by
 rw [Bool.eq_iff_iff, comp_iff, comp_iff]
 exact ⟨reach_congr h, reach_congr (fun p hp => (h p hp).symm)⟩
def Whole (g seen : Nat → Bool) : Prop := ∀ q r, q < 256 → r < 256 → Adj q r → g q = true → g r = true → seen q = true → seen r = true
theorem comp_rest {g seen g2 : Nat → Bool} (hw : Whole g seen) (h2 : ∀ q, q < 256 → g2 q = (g q && !(seen q))) (p : Nat) (hp : p < 256) (hg : g p = true) (hs : seen p = false) (q : Nat) : comp g2 p q = comp g p q := by
 rw [Bool.eq_iff_iff, comp_iff, comp_iff]
 constructor
 ·intro h
  induction h with
  | here => exact .here
  | step q r _ ha hr hgr ih =>
   rw [h2 r hr] at hgr
   exact .step q r ih ha hr (by cases h : g r <;> simp [h] at hgr ⊢)
 ·intro h
  have key : ∀ q, Q.Reach g p q → q < 256 ∧ g q = true ∧ seen q = false ∧ Q.Reach g2 p q := by
   intro q h
   induction h with
   | here => exact ⟨hp, hg, hs, .here⟩
   | step q r _ ha hr hgr ih =>
    have hsr : seen r = false := by
     rw [Bool.eq_false_iff]
     intro c
     have := hw r q hr ih.1 (adj_symm ha) hgr ih.2.1 c
     rw [ih.2.2.1] at this
     cases this
    exact ⟨hr, hgr, hsr, .step q r ih.2.2.2 ha hr (by rw [h2 r hr, hgr, hsr]; rfl)⟩
  exact (key q h).2.2.2
theorem whole_add {g seen : Nat → Bool} (hw : Whole g seen) (p : Nat) : Whole g (fun q => seen q || comp g p q) := by
 intro q r hq hr ha hgq hgr h
 have h' : (seen q || comp g p q) = true := h
 show (seen r || comp g p r) = true
 rw [Bool.or_eq_true] at h' ⊢
 rcases h' with h' | h'
 ·exact .inl (hw q r hq hr ha hgq hgr h')
 ·exact .inr ((comp_iff g p r).2 (.step q r ((comp_iff g p q).1 h') ha hr hgr))
theorem whole_congr {g seen seen' : Nat → Bool} (h : ∀ q, q < 256 → seen q = seen' q) (hw : Whole g seen) : Whole g seen' := by
 intro q r hq hr ha hgq hgr hs
 rw [← h r hr]
 exact hw q r hq hr ha hgq hgr (by rw [h q hq]; exact hs)
noncomputable def partsS : Nat → Nat → (Nat → Bool) → List (List Run)
 | 0, _, _ => []
 | n + 1, a, g => if g a = true then runsL (comp g a) :: partsS n (a + 1) (fun q => g q && !(comp g a q)) else partsS n (a + 1) g
theorem parts_same (g : Nat → Bool) : ∀ (n a : Nat) (seen g2 : Nat → Bool), a + n = 256 → Whole g seen → (∀ q, q < 256 → g2 q = (g q && !(seen q))) →
  partsFrom g ((List.range' a n).filter g) seen = partsS n a g2 := by
 intro n
 induction n with
 | zero => intro a seen g2 _ _ _; rfl
 | succ n ih =>
  intro a seen g2 ha hw h2
  rw [List.range'_succ]
  have ha256 : a < 256 := by omega
  cases hg : g a with
  | false =>
   rw [List.filter_cons_of_neg (by simp [hg])]
   unfold partsS
   rw [h2 a ha256, hg, if_neg (by simp)]
   exact ih (a + 1) seen g2 (by omega) hw h2
  | true =>
   rw [List.filter_cons_of_pos hg]
   unfold partsFrom partsS
   rw [h2 a ha256, hg]
   cases hs : seen a with
   | true =>
    rw [if_pos rfl, if_neg (by simp)]
    exact ih (a + 1) seen g2 (by omega) hw h2
   | false =>
    rw [if_neg (by simp), if_pos (by simp)]
    have hc : ∀ q, comp g2 a q = comp g a q := comp_rest hw h2 a ha256 hg hs
    congr 1
    ·exact (runsL_congr (fun p _ => hc p)).symm
    ·refine ih (a + 1) _ _ (by omega) (whole_congr (fun q hq => ?_) (whole_add hw a)) (fun q hq => ?_)
     ·rw [gso_at _ _ hq, show q / 16 * 16 + q % 16 = q by omega]
     ·rw [gso_at _ _ hq, show q / 16 * 16 + q % 16 = q by omega, h2 q hq, hc q]
      cases g q <;> cases seen q <;> cases comp g a q <;> rfl
theorem partsS_congr : ∀ (n a : Nat) (g g' : Nat → Bool), a + n = 256 → (∀ q, q < 256 → g q = g' q) → partsS n a g = partsS n a g' := by
 intro n
 induction n with
 | zero => intro a g g' _ _; rfl
 | succ n ih =>
  intro a g g' ha h
  unfold partsS
  rw [h a (by omega)]
  have hc := comp_congr h a
  split
  ·congr 1
   ·exact runsL_congr (fun p _ => hc p)
   ·exact ih _ _ _ (by omega) (fun q hq => by rw [h q hq, hc q])
  ·exact ih _ _ _ (by omega) h
theorem sorted_filter (g : Nat → Bool) : ∀ (n a : Nat) (xs : List Nat), xs.Pairwise (· < ·) → (∀ q ∈ xs, a ≤ q ∧ q < a + n) → (∀ q, a ≤ q → q < a + n → (g q = true ↔ q ∈ xs)) → xs = (List.range' a n).filter g := by
 intro n
 induction n with
 | zero =>
  intro a xs _ h _
  cases xs with
  | nil => rfl
  | cons b t => have := h b (by simp); omega
 | succ n ih =>
  intro a xs hs hb hm
  rw [List.range'_succ]
  cases xs with
  | nil =>
   have hg : ¬ g a = true := fun c => by have := (hm a (by omega) (by omega)).1 c; cases this
   rw [List.filter_cons_of_neg hg]
   exact ih (a + 1) [] hs (fun q hq => by cases hq) (fun q h1 h2 => hm q (by omega) (by omega))
  | cons b t =>
   have hbt := (List.pairwise_cons.1 hs).1
   by_cases e : b = a
   ·subst e
    rw [List.filter_cons_of_pos ((hm b (by omega) (by omega)).2 (by simp))]
    congr 1
    refine ih (b + 1) t (List.pairwise_cons.1 hs).2 (fun q hq => ?_) (fun q h1 h2 => ?_)
    ·have h1 := hbt q hq
     have h2 := hb q (by simp [hq])
     omega
    ·rw [hm q (by omega) (by omega), List.mem_cons]
     constructor
     ·rintro (c | c)
      ·omega
      ·exact c
     ·exact .inr
   ·have hab : a < b := by have := hb b (by simp); omega
    have hg : ¬ g a = true := fun c => by
     have := (hm a (by omega) (by omega)).1 c
     rcases List.mem_cons.1 this with c | c
     ·omega
     ·have := hbt a c; omega
    rw [List.filter_cons_of_neg hg]
    refine ih (a + 1) (b :: t) hs (fun q hq => ?_) (fun q h1 h2 => hm q (by omega) (by omega))
    have h2 := hb q hq
    rcases List.mem_cons.1 hq with c | c
    ·omega
    ·have := hbt q c; omega
theorem pixRun_mem (r : Run) (h : runOK r = true) (q : Nat) : q ∈ pixRun r r.f1.toNat ↔ runIn r q = true := by
 have hr := (runOK_iff r).1 h
 unfold pixRun
 rw [List.mem_map]
 have hi : runIn r q = true ↔ r.f0 = ((q / 16 : Nat) : Int) ∧ r.f1 ≤ ((q % 16 : Nat) : Int) ∧ ((q % 16 : Nat) : Int) < r.f2 := by simp [runIn, and_assoc]
 rw [hi]
 constructor
 ·rintro ⟨x, hx, rfl⟩
  rw [List.mem_range'_1] at hx
  omega
 ·rintro ⟨h1, h2, h3⟩
  refine ⟨q % 16, ?_, by omega⟩
  rw [List.mem_range'_1]
  omega
theorem pixels_mem (l : List Run) (h : ∀ r ∈ l, runOK r = true) (q : Nat) : q ∈ pixels l ↔ gridF l q = true := by
 unfold pixels gridF
 rw [List.mem_flatMap, List.any_eq_true]
 constructor
 ·rintro ⟨r, hr, hq⟩; exact ⟨r, hr, (pixRun_mem r (h r hr) q).1 hq⟩
 ·rintro ⟨r, hr, hq⟩; exact ⟨r, hr, (pixRun_mem r (h r hr) q).2 hq⟩
theorem pixRun_sorted (r : Run) (x : Nat) : (pixRun r x).Pairwise (· < ·) := by
 unfold pixRun
 rw [List.pairwise_map]
 exact List.Pairwise.imp (fun h => by omega) (List.pairwise_lt_range' (s := x) (n := r.f2.toNat - x))
theorem pixels_sorted : ∀ (l : List Run) (p : Option Run), validFrom p l = true → (∀ r, p = some r → runOK r = true) → (pixels l).Pairwise (· < ·) ∧ ∀ q ∈ pixels l, ∀ r, p = some r → r.f0.toNat * 16 + r.f2.toNat ≤ q := by
 intro l
 induction l with
 | nil => intro p _ _; exact ⟨List.Pairwise.nil, fun q hq => by cases hq⟩
 | cons r l ih =>
  intro p hv hp
  have hok := validFrom_ok (r :: l) p hv
  have hr := hok r (by simp)
  have hv' : validFrom (some r) l = true := by
   cases p <;> simp [validFrom] at hv <;> exact hv.2
  have h := ih (some r) hv' (fun r' e => by cases e; exact hr)
  have hri := (runOK_iff r).1 hr
  have hcons : pixels (r :: l) = pixRun r r.f1.toNat ++ pixels l := rfl
  rw [hcons]
  have hin : ∀ q ∈ pixRun r r.f1.toNat, r.f0.toNat * 16 + r.f1.toNat ≤ q ∧ q < r.f0.toNat * 16 + r.f2.toNat := by
   intro q hq
   unfold pixRun at hq
   rw [List.mem_map] at hq
   obtain ⟨x, hx, rfl⟩ := hq
   rw [List.mem_range'_1] at hx
   omega
  refine ⟨List.pairwise_append.2 ⟨pixRun_sorted r _, h.1, fun a ha b hb => ?_⟩, fun q hq r' e => ?_⟩
  ·have h1 := hin a ha
   have h2 := h.2 b hb r rfl
   omega
  ·subst e
   have hr' := (runOK_iff r').1 (hp r' rfl)
   have haf : runAfter r' r = true := by simp [validFrom] at hv; exact hv.1.2
   rw [runAfter_iff] at haf
   rcases List.mem_append.1 hq with c | c
   ·have := hin q c; omega
   ·have := h.2 q c r rfl; omega
theorem pixels_filter {l : List Run} (h : validR l = true) : pixels l = (List.range' 0 256).filter (gridF l) := by
 have hok := valid_ok h
 refine sorted_filter _ 256 0 _ (pixels_sorted l none h (fun r e => by cases e)).1 (fun q hq => ?_) (fun q _ _ => ?_)
 ·have := (pixels_mem l hok q).1 hq
  unfold gridF at this
  rw [List.any_eq_true] at this
  obtain ⟨r, hr, hi⟩ := this
  have h1 := (runOK_iff r).1 (hok r hr)
  have h2 : r.f0 = ((q / 16 : Nat) : Int) := by simp [runIn] at hi; omega
  omega
 ·exact (pixels_mem l hok q).symm
theorem parts_valid {l : List Run} (h : validR l = true) : partsFrom (gridF l) (pixels l) (fun _ => false) = partsS 256 0 (gridF l) := by
 rw [pixels_filter h]
 exact parts_same _ 256 0 _ _ (by omega) (fun q r _ _ _ _ _ c => by cases c) (fun q _ => by simp)
theorem partsS_len : ∀ (n a : Nat) (g : Nat → Bool), (partsS n a g).length ≤ n := by
 intro n
 induction n with
 | zero => intro a g; exact Nat.le_refl _
 | succ n ih =>
  intro a g
  unfold partsS
  split
  ·rw [List.length_cons]; have := ih (a + 1) (fun q => g q && !(comp g a q)); omega
  ·have := ih (a + 1) g; omega
theorem partsS_each : ∀ (n a : Nat) (g : Nat → Bool), ∀ r ∈ partsS n a g, ∃ f, r = runsL f := by
 intro n
 induction n with
 | zero => intro a g r hr; cases hr
 | succ n ih =>
  intro a g r hr
  unfold partsS at hr
  split at hr
  ·rcases List.mem_cons.1 hr with c | c
   ·exact ⟨_, c⟩
   ·exact ih _ _ r c
  ·exact ih _ _ r hr
theorem runsL_ne (g : Nat → Bool) (p : Nat) (hp : p < 256) (h : g p = true) : runsL g ≠ [] := by
 intro e
 have := grid_runs g p hp
 rw [e, h] at this
 cases this
theorem partsS_ne : ∀ (n a : Nat) (g : Nat → Bool), a + n ≤ 256 → ∀ r ∈ partsS n a g, r ≠ [] := by
 intro n
 induction n with
 | zero => intro a g _ r hr; cases hr
 | succ n ih =>
  intro a g ha r hr
  unfold partsS at hr
  split at hr
  ·rcases List.mem_cons.1 hr with c | c
   ·rw [c]
    exact runsL_ne _ a (by omega) ((comp_iff g a a).2 .here)
   ·exact ih _ _ (by omega) r c
  ·exact ih _ _ (by omega) r hr
theorem parts_runs (g : Nat → Bool) : partsFrom (gridF (runsL g)) (pixels (runsL g)) (fun _ => false) = partsS 256 0 g := by
 rw [parts_valid (runs_valid g)]
 exact partsS_congr 256 0 _ _ (by omega) (fun q hq => grid_runs g q hq)

/- The reference's parts of a region. -/

theorem tabD (g : Nat → Bool) (p : Nat) (hp : p < 256) : (tab g).getD p false = g p := by
 simp [tab, List.getD_eq_getElem?_getD, hp]
theorem spread_eq (g : Nat → Bool) (a : Nat) (ha : a < 256) : spec_spreadFrom.f (tab g) (a : Int) = some (tab (comp g a)) := by
 unfold spec_spreadFrom.f
 rw [if_pos ⟨tab_length g, by omega, by omega⟩, Int.toNat_natCast]
 congr 1
 exact tab_congr (fun q _ => comp_congr (fun p hp => tabD g p hp) a q)
theorem spec_parts_from : ∀ (n a : Nat) (g : Nat → Bool) (acc : List (List Run)), a + n = 256 → acc.length ≤ a → Ev (fun k => spec_parts.l0 k acc (tab g) (a : Int)) (acc ++ partsS n a g) := by
 intro n
 induction n with
 | zero =>
  intro a g acc ha _
  refine Ev.step (f := fun _ => some acc) (fun k => ?_) (ev_const (by unfold partsS; rw [List.append_nil]))
  simp only [spec_parts.l0]
  rw [if_neg (by rw [tab_length]; omega)]
 | succ n ih =>
  intro a g acc ha hl
  have ha256 : a < 256 := by omega
  cases hg : g a with
  | false =>
   have e : partsS (n + 1) a g = partsS n (a + 1) g := by
    conv => lhs; unfold partsS
    rw [if_neg (by rw [hg]; simp)]
   rw [e]
   refine Ev.step (fun k => ?_) (ih (a + 1) g acc (by omega) (by omega))
   simp only [spec_parts.l0]
   rw [if_pos (by rw [tab_length]; omega), if_pos (by omega), tab_get g a ha256, if_neg (by rw [hg]; simp), w64n a (by omega)]
  | true =>
   have e : partsS (n + 1) a g = runsL (comp g a) :: partsS n (a + 1) (fun q => g q && !(comp g a q)) := by
    conv => lhs; unfold partsS
    rw [if_pos hg]
   rw [e]
   have hnext : Ev (fun k => spec_parts.l0 k (acc ++ [runsL (comp g a)]) (tab (fun q => g q && !(comp g a q))) ((a + 1 : Nat) : Int)) (acc ++ runsL (comp g a) :: partsS n (a + 1) (fun q => g q && !(comp g a q))) := by
    have h := ih (a + 1) (fun q => g q && !(comp g a q)) (acc ++ [runsL (comp g a)]) (by omega) (by rw [List.length_append, List.length_singleton]; omega)
    rw [List.append_assoc] at h
    exact h
   have hfill := fill_ev (fun q => g q && !(comp g a q)) g (fun k s p => spec_parts.l1 k (acc ++ [runsL (comp g a)]) s (a : Int) (tab (comp g a)) (p : Int)) _
    (by
     intro k s p hp hs
     have hr : rdOf false s (p : Int) = g p := by rw [hs, tab_get _ _ hp, if_neg (by omega)]
     have hsl : (p : Int) < (s.length : Int) := by rw [hs, tab_length]; omega
     have hpl : (p : Int) < ((tab (comp g a)).length : Int) := by rw [tab_length]; omega
     simp only [spec_parts.l1]
     rw [if_pos hsl, if_pos (by omega), hr, w64n p (by omega), Int.toNat_natCast, tab_get _ _ hp]
     cases hgp : g p with
     | true => rw [if_pos rfl, if_pos hpl, Bool.true_and]
     | false => rw [if_neg (by simp), Bool.false_and])
    (by
     refine Ev.step (fun k => ?_) hnext
     simp only [spec_parts.l1]
     rw [if_neg (by rw [tab_length]; omega), w64n a (by omega)])
   have hfill' : Ev (fun k => spec_parts.l1 k (acc ++ [runsL (comp g a)]) (tab g) (a : Int) (tab (comp g a)) 0) _ := hfill
   refine Ev.step (f := fun k => (spec_spreadFrom.f (tab g) (a : Int)).bind fun t => (spec_runsOf.f k t).bind fun u => if acc.length < 5864062014805 then spec_parts.l1 k (acc ++ [u]) (tab g) (a : Int) t 0 else none) (fun k => ?_) (ev_now (spread_eq g a ha256) (ev_bind (spec_runsOf_ev _) (ev_pos (by omega) hfill')))
   simp only [spec_parts.l0]
   rw [if_pos (by rw [tab_length]; omega), if_pos (by omega), tab_get g a ha256, if_pos hg]
theorem spec_parts_ev (l : List Run) (hl : l.length ≤ 1000000000) (hok : ∀ r ∈ l, 0 ≤ r.f0 ∧ r.f0 < 16 ∧ 0 ≤ r.f1 ∧ r.f2 ≤ 16) : Ev (fun k => spec_parts.f k l) (partsS 256 0 (gridF l)) := by
 unfold spec_parts.f
 exact ev_bind (spec_gridOf_ev l hl hok) (spec_parts_from 256 0 (gridF l) [] (by omega) (by simp))

/- Bounds of a region's parts: boxes that hold them. -/

theorem part_cover : ∀ (n a : Nat) (g : Nat → Bool), a + n = 256 → (∀ q, q < a → g q = false) → ∀ q, q < 256 → g q = true → ∃ r ∈ partsS n a g, gridF r q = true := by
 intro n
 induction n with
 | zero => intro a g ha h q hq hg; rw [h q (by omega)] at hg; cases hg
 | succ n ih =>
  intro a g ha h q hq hg
  by_cases c : g a = true
  ·have e : partsS (n + 1) a g = runsL (comp g a) :: partsS n (a + 1) (fun q => g q && !(comp g a q)) := by
    conv => lhs; unfold partsS
    rw [if_pos c]
   rw [e]
   cases hc : comp g a q with
   | true => exact ⟨_, List.mem_cons_self, by rw [grid_runs _ _ hq]; exact hc⟩
   | false =>
    obtain ⟨r, hr, hq2⟩ := ih (a + 1) (fun q => g q && !(comp g a q)) (by omega) (fun z hz => by
     by_cases e2 : z = a
     ·subst e2
      show (g z && !(comp g z z)) = false
      rw [(comp_iff g z z).2 .here, Bool.not_true, Bool.and_false]
     ·show (g z && !(comp g a z)) = false
      rw [h z (by omega), Bool.false_and]) q hq (by show (g q && !(comp g a q)) = true; rw [hg, hc]; rfl)
    exact ⟨r, List.mem_cons_of_mem _ hr, hq2⟩
  ·have e : partsS (n + 1) a g = partsS n (a + 1) g := by
    conv => lhs; unfold partsS
    rw [if_neg c]
   rw [e]
   exact ih (a + 1) g (by omega) (fun z hz => by
    by_cases e2 : z = a
    ·subst e2; simpa using c
    ·exact h z (by omega)) q hq hg
theorem left_le : ∀ (l : List Run) (s : Int), leftR l s ≤ s ∧ ∀ r ∈ l, leftR l s ≤ r.f1 := by
 intro l
 induction l with
 | nil => intro s; exact ⟨Int.le_refl _, fun r hr => by cases hr⟩
 | cons x l ih =>
  intro s
  have h := ih (min s x.f1)
  have e : leftR (x :: l) s = leftR l (min s x.f1) := rfl
  rw [e]
  refine ⟨by omega, fun r hr => ?_⟩
  rcases List.mem_cons.1 hr with c | c
  ·subst c; omega
  ·exact h.2 r c
theorem right_ge : ∀ (l : List Run) (s : Int), s ≤ rightR l s ∧ ∀ r ∈ l, r.f2 ≤ rightR l s := by
 intro l
 induction l with
 | nil => intro s; exact ⟨Int.le_refl _, fun r hr => by cases hr⟩
 | cons x l ih =>
  intro s
  have h := ih (max s x.f2)
  have e : rightR (x :: l) s = rightR l (max s x.f2) := rfl
  rw [e]
  refine ⟨by omega, fun r hr => ?_⟩
  rcases List.mem_cons.1 hr with c | c
  ·subst c; omega
  ·exact h.2 r c
theorem rows_after : ∀ (l : List Run) (x : Run), validFrom (some x) l = true → ∀ r ∈ l, x.f0 ≤ r.f0 := by
 intro l
 induction l with
 | nil => intro x _ r hr; cases hr
 | cons y l ih =>
  intro x hv r hr
  simp [validFrom] at hv
  have h1 := (runAfter_iff x y).1 hv.1.2
  rcases List.mem_cons.1 hr with c | c
  ·subst c; omega
  ·have := ih y hv.2 r c; omega
theorem rows_last : ∀ (l : List Run) (p : Option Run), validFrom p l = true → ∀ r ∈ l, r.f0 ≤ (l.getLastD z47).f0 := by
 intro l
 induction l with
 | nil => intro p _ r hr; cases hr
 | cons y l ih =>
  intro p hv r hr
  have hv' : validFrom (some y) l = true := by cases p <;> simp [validFrom] at hv <;> exact hv.2
  cases l with
  | nil =>
   rcases List.mem_cons.1 hr with c | c
   ·subst c; exact Int.le_refl _
   ·cases c
  | cons x t =>
   have e : ((y :: x :: t).getLastD z47) = ((x :: t).getLastD z47) := by simp [List.getLastD_eq_getLast?]
   rw [e]
   rcases List.mem_cons.1 hr with c | c
   ·subst c
    have h1 := rows_after (x :: t) r hv' x (by simp)
    have h2 := ih (some r) hv' x (by simp)
    omega
   ·exact ih (some y) hv' r c
theorem bound_box (l : List Run) (hv : validR l = true) (hn : l ≠ []) : boxOk (boundsR l).1 (boundsR l).2.1 (boundsR l).2.2.1 (boundsR l).2.2.2 = true ∧
  ∀ q, gridF l q = true → inBox (boundsR l).1 (boundsR l).2.1 (boundsR l).2.2.1 (boundsR l).2.2.2 (q % 16) (q / 16) = true := by
 have hok := valid_ok hv
 have hl := left_range l hok 16 (by omega) (by omega)
 have hr := right_range l hok 0 (by omega) (by omega)
 have hle := (left_le l 16).2
 have hge := (right_ge l 0).2
 have hlast := rows_last l none hv
 cases l with
 | nil => exact absurd rfl hn
 | cons x t =>
  have hx := (runOK_iff x).1 (hok x (by simp))
  have hhead : ∀ r ∈ x :: t, x.f0 ≤ r.f0 := by
   intro r hr
   rcases List.mem_cons.1 hr with c | c
   ·subst c; exact Int.le_refl _
   ·exact rows_after t x (by have h := hv; unfold validR at h; simp [validFrom] at h; exact h.2) r c
  have hlm : ((x :: t).getLastD z47) ∈ x :: t := by
   rw [List.getLastD_eq_getLast?, List.getLast?_eq_some_getLast (by simp)]
   exact List.getLast_mem _
  have hlo := (runOK_iff _).1 (hok _ hlm)
  have h1 := hle x (by simp)
  have h2 := hge x (by simp)
  have h3 := hlast x (by simp)
  have hb : boundsR (x :: t) = (leftR (x :: t) 16, x.f0, rightR (x :: t) 0 - leftR (x :: t) 16, ((x :: t).getLastD z47).f0 - x.f0 + 1) := rfl
  rw [hb]
  refine ⟨(boxOk_iff _ _ _ _).2 (by simp only; omega), fun q hq => ?_⟩
  unfold gridF at hq
  rw [List.any_eq_true] at hq
  obtain ⟨r, hr, hi⟩ := hq
  have hi' : r.f0 = ((q / 16 : Nat) : Int) ∧ r.f1 ≤ ((q % 16 : Nat) : Int) ∧ ((q % 16 : Nat) : Int) < r.f2 := by simpa [runIn, and_assoc] using hi
  have k1 := hle r hr
  have k2 := hge r hr
  have k3 := hlast r hr
  have k4 := hhead r hr
  unfold inBox
  simp only [Bool.and_eq_true, decide_eq_true_eq]
  omega
end Go.Proofs.Ytbgohbinonkhfaa.Pure

/- impl.changed: the region of the pixels at which two images differ. -/
namespace Go.Proofs.Ytbgohbinonkhfaa.Q
open Go.RowKit Go.Proofs.YtbgohbinonkhfaaW.PrintWords Go.Proofs.YtbgohbinonkhfaaW.PrintLast Go.Proofs.YtbgohbinonkhfaaW.PrintMore
open Go.Proofs.YtbgohbinonkhfaaW.PrintWords.Aside0 (mk)
attribute [local go_sem] max2_int min2_int max_two min_two max_three min_three max_four min_four
set_option linter.unusedVariables false
set_option linter.unusedSimpArgs false
open Go.Proofs.Ytbgohbinonkhfaa.Pure

theorem yieldsC_img {ops : Array Oper} {S : World → Prop} {op : Oper} {a : Act} (hw : Region.wanted op (yielded ops a.tmps) = true) (x : Operand) (ho : op.op = .load 28 x)
  (B : Nat) (hx : a.eval x = .pointer (some ⟨B, 0, none⟩)) (cs : Array Value) (hS : ∀ w, S w → w.heap[B]? = some (.cells cs 28 (0, 0))) (hn : cs.size = 4) : YieldsIf Try.prog ops S op (.agg cs) a :=
 .inl ⟨hw, fun w hw' => by
  unfold execOp
  simp only [ho, hx, Instr.loadAt, Instr.sureAddr, Sem.run_bind, Sem.run_pure, Result.andThen_ok, run_loadVar_row w B 28 28 cs (0, 0) _ (hS w hw') Try.underlying28 rfl (by rw [hn]; kernel_rfl)]⟩
theorem yieldsC_int {ops : Array Oper} {S : World → Prop} {op : Oper} {a : Act} (hw : Region.wanted op (yielded ops a.tmps) = true) (x : Operand) (ho : op.op = .load 3 x)
  (ad : Addr) (hx : a.eval x = .pointer (some ad)) (v : Int) (hS : ∀ w, S w → w.cell? ad = some (.int .i64 v)) : YieldsIf Try.prog ops S op (.int .i64 v) a :=
 .inl ⟨hw, fun w hw' => by
  have h := hS w hw'
  unfold execOp
  simp only [ho, hx]
  go_simp⟩
theorem equalI (l m : List Int) (hl : l.length ≤ 1000000) (k : Nat) (hk : l.length < k) : slices_Equal_int_int.f k l m = some (decide (l = m)) := by
 unfold slices_Equal_int_int.f
 by_cases hn : l.length = m.length
 ·rw [if_pos (by omega)]
  have key := loop_up 0 l.length (fun k i (_ : Unit) => slices_Equal_int_int.l0 k l m (l.length : Int) (i : Int)) (fun _ _ => True) (fun i _ => decide (l.drop i = m.drop i))
   (by
    intro i s k hi _ _
    have e1 := List.drop_eq_getElem_cons hi
    have e2 := List.drop_eq_getElem_cons (show i < m.length by omega)
    by_cases c : l[i] = m[i]'(by omega)
    ·refine .inr ⟨(), ?_, trivial, ?_⟩
     ·simp only [slices_Equal_int_int.l0]
      rw [if_pos (by omega), if_pos (by omega), if_pos (by omega), if_pos (by omega), rd_nat l i hi, rd_nat m i (by omega), if_pos c, w64n i (by omega)]
     rw [e1, e2, decide_eq_decide, List.cons.injEq]
     exact ⟨fun h => ⟨c, h⟩, fun h => h.2⟩
    left
    simp only [slices_Equal_int_int.l0]
    rw [if_pos (by omega), if_pos (by omega), if_pos (by omega), if_pos (by omega), rd_nat l i hi, rd_nat m i (by omega), if_neg c, e1, e2, decide_eq_false (by rw [List.cons.injEq]; exact fun h => c h.1)])
   (by
    intro s k _ _
    simp only [slices_Equal_int_int.l0]
    rw [if_neg (by omega), List.drop_length, hn, List.drop_length]
    rfl)
   l.length 0 () k (by omega) trivial (by omega)
  simpa using key
 rw [if_neg (by omega), decide_eq_false (fun h => hn (by rw [h]))]
def chg (a b p : Int) (d1 d2 : List Int) (x y : Nat) : Bool := decide ((x : Int) < a) && (decide ((y : Int) < b) && !(decide (pixT d1 (pixJ a p x y) p = pixT d2 (pixJ a p x y) p)))
theorem chg_in (a b p : Int) (d1 d2 : List Int) (x y : Nat) (hx : (x : Int) < a) (hy : (y : Int) < b) : chg a b p d1 d2 x y = !(decide (pixT d1 (pixJ a p x y) p = pixT d2 (pixJ a p x y) p)) := by
 unfold chg; rw [decide_eq_true hx, decide_eq_true hy, Bool.true_and, Bool.true_and]

set_option maxHeartbeats 4000000 in
set_option maxRecDepth 100000 in
theorem changed1_calls (a b p : Int) (A1 A2 : Option Addr) (c1 c2 : Nat) (d1 d2 : List Int) (hv1 : validI a b p d1 = true) (hv2 : validI a b p d2 = true) (hc1 : d1.length ≤ c1) (hc2 : d2.length ≤ c2) (x y : Nat) (hx : x < 16) (hy : y < 16) (B1 B2 : Nat) (w : World)
  (h1 : w.heap[B1]? = some (.cells #[.int .i64 a, .int .i64 b, .int .i64 p, .slice A1 d1.length c1] 28 (0, 0))) (h2 : w.heap[B2]? = some (.cells #[.int .i64 a, .int .i64 b, .int .i64 p, .slice A2 d2.length c2] 28 (0, 0)))
  (hr1 : Kd.C (Kd.int .i64) w A1 d1.length d1) (hr2 : Kd.C (Kd.int .i64) w A2 d2.length d2) :
  Calls Try.prog 93 #[.int .i64 (x : Int), .int .i64 (y : Int), .pointer (some ⟨B1, 0, none⟩), .pointer (some ⟨B2, 0, none⟩)] w fun e w' => e = .returned (.bool (chg a b p d1 d2 x y)) ∧ Below w.heap.size w w' := by
 have HB1 := mk h1
 have HB2 := mk h2
 have HR1 := mk hr1
 have HR2 := mk hr2
 by_cases cx : (x : Int) < a
 ·have dx : decide ((x : Int) < a) = true := decide_eq_true cx
  by_cases cy : (y : Int) < b
  ·have dy : decide ((y : Int) < b) = true := decide_eq_true cy
   obtain ⟨j, hj⟩ : ∃ j, pixJ a p x y = j := ⟨_, rfl⟩
   have hb1 := pixJ_is hv1 cx cy
   have hb2 := pixJ_is hv2 cx cy
   have hpp := ((validI_iff a b p d1).1 hv1).1
   rw [hj] at hb1 hb2
   have hw : wrap64 (j + p) = j + p := w64 (by omega) (by omega)
   obtain ⟨P1, q1, hq1, HA1⟩ := at_calls a b p A1 c1 d1 (x : Int) (y : Int) j hc1 hj (by omega) (by omega) (by omega)
   obtain ⟨P2, q2, hq2, HA2⟩ := at_calls a b p A2 c2 d2 (x : Int) (y : Int) j hc2 hj (by omega) (by omega) (by omega)
   have HP1 := mk (HA1 w hr1).1
   have HP2 := mk (HA2 w hr2).1
   replace HA1 := mk HA1
   replace HA2 := mk HA2
   have hlen : (pixT d1 j p).length ≤ 1000000 := by
    unfold pixT
    rw [List.length_drop, List.length_take]
    omega
   have HQ := mk (fun (W : World) (k1 : Kd.C (Kd.int .i64) W P1 (pixT d1 j p).length (pixT d1 j p)) (k2 : Kd.C (Kd.int .i64) W P2 (pixT d2 j p).length (pixT d2 j p)) => slices_Equal_int_int.calls _ P1 q1 (pixT d1 j p) P2 q2 (pixT d2 j p) _ W k1 hq1 k2 hq2 (equalI _ _ hlen ((pixT d1 j p).length + 1) (by omega)))
   have HJ := mk hj
   have HX := mk cx
   have HY := mk cy
   clear hb1 hb2 hpp hw hq1 hq2 hlen hv1 hv2 hj cx cy h1 h2 hr1 hr2
   go_enter Try.func93, Try.ntmps93
   go_wp2
   refine wp_region_held_drew (S := fun W => Aside0 (Below w.heap.size w W)) (by kernel_rfl) ⟨below_drew (Below.refl _ _)⟩ (fun hH => ?_)
   obtain ⟨W0, hW0⟩ : ∃ W, W = w.drew := ⟨_, rfl⟩
   rw [← hW0] at hH ⊢
   clear hW0
   refine wpAnyH_take (i := 0) (v := .int .i64 (x : Int)) rfl (by kernel_rfl) (by kernel_rfl) (by kernel_rfl) (fun _ _ _ h => h) (.inl ⟨by kernel_rfl, fun W hW => by (go_simp; done)⟩) hH ?_
   simp only [bool_to_prop]
   refine wpAnyH_take (i := 1) (v := .pointer (some ⟨B1, 0, none⟩)) rfl (by kernel_rfl) (by kernel_rfl) (by kernel_rfl) (fun _ _ _ h => h) (.inl ⟨by kernel_rfl, fun W hW => by (go_simp; done)⟩) hH ?_
   simp only [bool_to_prop]
   refine wpAnyH_take (i := 2) rfl (by kernel_rfl) (by kernel_rfl) (by kernel_rfl) (fun _ _ _ h => h) (yieldsC_int (by kernel_rfl) _ rfl ⟨B1, 0, none⟩ rfl a (fun W hW => (blk_cell (blk_below HB1.out hW.out) 0).trans rfl)) hH ?_
   simp only [bool_to_prop]
   refine wpAnyH_take (i := 3) (v := .bool true) rfl (by kernel_rfl) (by kernel_rfl) (by kernel_rfl) (fun _ _ _ h => h) (.inl ⟨by kernel_rfl, fun W hW => by (go_simp; done)⟩) hH ?_
   simp only [bool_to_prop]
   refine wpAnyH_take (i := 4) (v := .bool true) rfl (by kernel_rfl) (by kernel_rfl) (by kernel_rfl) (fun _ _ _ h => h) (.inl ⟨by kernel_rfl, fun W hW => by (go_simp; done)⟩) hH ?_
   simp only [bool_to_prop]
   refine wpAnyH_take (i := 5) (v := .int .i64 (y : Int)) rfl (by kernel_rfl) (by kernel_rfl) (by kernel_rfl) (fun _ _ _ h => h) (.inl ⟨by kernel_rfl, fun W hW => by (go_simp; done)⟩) hH ?_
   simp only [bool_to_prop]
   refine wpAnyH_take (i := 6) (v := .pointer (some ⟨B1, 1, none⟩)) rfl (by kernel_rfl) (by kernel_rfl) (by kernel_rfl) (fun _ _ _ h => h) (.inl ⟨by kernel_rfl, fun W hW => by (go_simp; done)⟩) hH ?_
   simp only [bool_to_prop]
   refine wpAnyH_take (i := 7) rfl (by kernel_rfl) (by kernel_rfl) (by kernel_rfl) (fun _ _ _ h => h) (yieldsC_int (by kernel_rfl) _ rfl ⟨B1, 1, none⟩ rfl b (fun W hW => (blk_cell (blk_below HB1.out hW.out) 1).trans rfl)) hH ?_
   simp only [bool_to_prop]
   refine wpAnyH_take (i := 8) (v := .bool true) rfl (by kernel_rfl) (by kernel_rfl) (by kernel_rfl) (fun _ _ _ h => h) (.inl ⟨by kernel_rfl, fun W hW => by (go_simp; done)⟩) hH ?_
   simp only [bool_to_prop]
   refine wpAnyH_take (i := 9) (v := .bool true) rfl (by kernel_rfl) (by kernel_rfl) (by kernel_rfl) (fun _ _ _ h => h) (.inl ⟨by kernel_rfl, fun W hW => by (go_simp; done)⟩) hH ?_
   simp only [bool_to_prop]
   refine wpAnyH_take (i := 10) (v := .bool true) rfl (by kernel_rfl) (by kernel_rfl) (by kernel_rfl) (fun _ _ _ h => h) (.inl ⟨by kernel_rfl, fun W hW => by (go_simp; done)⟩) hH ?_
   simp only [bool_to_prop]
   refine wpAnyH_take (i := 11) rfl (by kernel_rfl) (by kernel_rfl) (by kernel_rfl) (fun _ _ _ h => h) (yieldsC_img (by kernel_rfl) _ rfl B1 rfl #[.int .i64 a, .int .i64 b, .int .i64 p, .slice A1 d1.length c1] (fun W hW => blk_below HB1.out hW.out) rfl) hH ?_
   simp only [bool_to_prop]
   refine wpAnyH_take (i := 12) (v := .int .i64 (x : Int)) rfl (by kernel_rfl) (by kernel_rfl) (by kernel_rfl) (fun _ _ _ h => h) (.inl ⟨by kernel_rfl, fun W hW => by (go_simp; done)⟩) hH ?_
   simp only [bool_to_prop]
   refine wpAnyH_take (i := 13) (v := .int .i64 (y : Int)) rfl (by kernel_rfl) (by kernel_rfl) (by kernel_rfl) (fun _ _ _ h => h) (.inl ⟨by kernel_rfl, fun W hW => by (go_simp; done)⟩) hH ?_
   simp only [bool_to_prop]
   refine wpAnyH_take (i := 15) rfl (by kernel_rfl) (by kernel_rfl) (by kernel_rfl) (fun _ _ _ h => h) (yieldsC_img (by kernel_rfl) _ rfl B2 rfl #[.int .i64 a, .int .i64 b, .int .i64 p, .slice A2 d2.length c2] (fun W hW => blk_below HB2.out hW.out) rfl) hH ?_
   simp only [bool_to_prop]
   refine wpAnyH_take (i := 16) (v := .int .i64 (x : Int)) rfl (by kernel_rfl) (by kernel_rfl) (by kernel_rfl) (fun _ _ _ h => h) (.inl ⟨by kernel_rfl, fun W hW => by (go_simp; done)⟩) hH ?_
   simp only [bool_to_prop]
   refine wpAnyH_take (i := 17) (v := .int .i64 (y : Int)) rfl (by kernel_rfl) (by kernel_rfl) (by kernel_rfl) (fun _ _ _ h => h) (.inl ⟨by kernel_rfl, fun W hW => by (go_simp; done)⟩) hH ?_
   simp only [bool_to_prop]
   refine wpAnyH_ready (rs := [14]) (by kernel_rfl) (by simp) ?_
   refine AllReadyH.cons (i := 14) rfl ?_ AllReadyH.nil
   intro K hK
   rw [if_pos (by rfl)]
   go_simp
   go_wp2_with (first | (go_at_call 59; (with_reducible refine ((HA1.out _ (Kd.C_below HR1.out hH.out)).2).mono ?_); rintro e W1 ⟨rfl, hb⟩))
   refine hK.out _ _ ⟨below_then hH.out hH.out.size hb⟩ (fun hH1 => ?_)
   clear hK K hb hH
   have hH := hH1
   clear hH1
   try simp only [bool_to_prop]
   refine wpAnyH_ready (rs := [18]) (by kernel_rfl) (by simp) ?_
   refine AllReadyH.cons (i := 18) rfl ?_ AllReadyH.nil
   intro K hK
   rw [if_pos (by rfl)]
   go_simp
   go_wp2_with (first | (go_at_call 59; (with_reducible refine ((HA2.out _ (Kd.C_below HR2.out hH.out)).2).mono ?_); rintro e W1 ⟨rfl, hb⟩))
   refine hK.out _ _ ⟨below_then hH.out hH.out.size hb⟩ (fun hH1 => ?_)
   clear hK K hb hH
   have hH := hH1
   clear hH1
   try simp only [bool_to_prop]
   refine wpAnyH_ready (rs := [19]) (by kernel_rfl) (by simp) ?_
   refine AllReadyH.cons (i := 19) rfl ?_ AllReadyH.nil
   intro K hK
   rw [if_pos (by rfl)]
   go_simp
   go_wp2_with (first | (go_at_call 94; (with_reducible refine (HQ.out _ (Kd.C_below HP1.out hH.out) (Kd.C_below HP2.out hH.out)).mono ?_); rintro e W1 ⟨rfl, hd_⟩; have hb := hd_.below; clear hd_))
   refine hK.out _ _ ⟨below_then hH.out hH.out.size hb⟩ (fun hH1 => ?_)
   clear hK K hb hH
   have hH := hH1
   clear hH1
   try simp only [bool_to_prop]
   refine wpAnyH_take (i := 20) (v := .bool (!(decide (pixT d1 j p = pixT d2 j p)))) rfl (by kernel_rfl) (by kernel_rfl) (by kernel_rfl) (fun _ _ _ h => h) (.inl ⟨by kernel_rfl, fun W hW => by (go_simp; done)⟩) hH ?_
   simp only [bool_to_prop]
   refine wpAnyH_take (i := 21) (v := .bool (!(decide (pixT d1 j p = pixT d2 j p)))) rfl (by kernel_rfl) (by kernel_rfl) (by kernel_rfl) (fun _ _ _ h => h) (.inl ⟨by kernel_rfl, fun W hW => by (go_simp; done)⟩) hH ?_
   simp only [bool_to_prop]
   refine wpAnyH_take (i := 22) (v := .bool (!(decide (pixT d1 j p = pixT d2 j p)))) rfl (by kernel_rfl) (by kernel_rfl) (by kernel_rfl) (fun _ _ _ h => h) (.inl ⟨by kernel_rfl, fun W hW => by (go_simp; done)⟩) hH ?_
   simp only [bool_to_prop]
   refine wpAnyH_done (by kernel_rfl) ?_ _
   go_wp2
   go_ret
   exact ⟨by rw [chg_in a b p d1 d2 x y HX.out HY.out, HJ.out]; rfl, hH.out⟩
  have dy : decide ((y : Int) < b) = false := decide_eq_false cy
  have e : chg a b p d1 d2 x y = false := by unfold chg; rw [dy, Bool.false_and, Bool.and_false]
  rw [e]
  have k0 := (blk_cell h1 0).trans rfl
  have k1 := (blk_cell h1 1).trans rfl
  clear hv1 hv2 cx cy h1 h2 hr1 hr2 e
  go_enter Try.func93, Try.ntmps93
  go_wp2
  go_quiet (fail)
  go_wp2
  go_ret
  exact ⟨rfl, pw_below_drewN (Below.refl _ _) _⟩
 have dx : decide ((x : Int) < a) = false := decide_eq_false cx
 have e : chg a b p d1 d2 x y = false := by unfold chg; rw [dx, Bool.false_and]
 rw [e]
 have k0 := (blk_cell h1 0).trans rfl
 clear hv1 hv2 cx h1 h2 hr1 hr2 e
 go_enter Try.func93, Try.ntmps93
 go_wp2
 go_quiet (fail)
 go_wp2
 go_ret
 exact ⟨rfl, pw_below_drewN (Below.refl _ _) _⟩
set_option maxHeartbeats 1600000 in
set_option maxRecDepth 100000 in
theorem changed_calls (a b p : Int) (A1 A2 : Option Addr) (c1 c2 : Nat) (d1 d2 : List Int) (hv1 : validI a b p d1 = true) (hv2 : validI a b p d2 = true) (hc1 : d1.length ≤ c1) (hc2 : d2.length ≤ c2) (w : World) (hr1 : Kd.C (Kd.int .i64) w A1 d1.length d1) (hr2 : Kd.C (Kd.int .i64) w A2 d2.length d2) :
  Calls Try.prog 50 #[.agg #[.int .i64 a, .int .i64 b, .int .i64 p, .slice A1 d1.length c1], .agg #[.int .i64 a, .int .i64 b, .int .i64 p, .slice A2 d2.length c2]] w fun e w' => ∃ v0_ : Value, e = .returned v0_ ∧ Kd.R k47 47 w' w.heap.size (fun _ => True) v0_ (runsL (gso (chg a b p d1 d2) 256)) ∧ Below w.heap.size w w' := by
 have HV1 := mk hv1
 have HV2 := mk hv2
 have HC1 := mk hc1
 have HC2 := mk hc2
 have HR1 := mk hr1
 have HR2 := mk hr2
 have HB0 := mk (Below.refl w.heap.size w)
 clear hv1 hv2 hc1 hc2 hr1 hr2
 go_enter Try.func50, Try.ntmps50
 go_wp2_with (first | ((with_reducible refine gate_dst (N := 2) rfl ?_); refine box_event (by rfl) (N := 2) (by rfl) (cs := #[.int .i64 a, .int .i64 b, .int .i64 p, .slice A1 d1.length c1]) (t := 28) (by go_simp; done) ?_; intro g1 hg_ w1 hbox hb; have HB1 := mk (below_then HB0.out HB0.out.size hb); have K1 := mk hbox; clear hbox hb hg_) | ((with_reducible refine gate_dst (N := 3) rfl ?_); refine box_event (by rfl) (N := 3) (by rfl) (cs := #[.int .i64 a, .int .i64 b, .int .i64 p, .slice A2 d2.length c2]) (t := 28) (by go_simp; done) ?_; intro g2 hg_ w2 hbox hb; have HB2 := mk (below_then HB1.out HB1.out.size hb); have K2 := mk hbox; have K1b := mk (blk_below K1.out hb); clear hbox hb hg_) | (go_at_call 67; refine (gridBy_calls 93 #[.pointer (some ⟨g1, 0, none⟩), .pointer (some ⟨g2, 0, none⟩)] (chg a b p d1 d2) w2 (enters_of Try.func93 (by kernel_rfl) rfl) (fun W x y hx hy hW => changed1_calls a b p A1 A2 c1 c2 d1 d2 HV1.out HV2.out HC1.out HC2.out x y hx hy g1 g2 W (blk_below K1b.out hW) (blk_below K2.out hW) (Kd.C_below (Kd.C_below HR1.out HB2.out) hW) (Kd.C_below (Kd.C_below HR2.out HB2.out) hW))).mono ?_; rintro e w5 ⟨rfl, hb5⟩; have HB5 := mk (below_then HB2.out HB2.out.size hb5); clear hb5) | (go_at_call 71; refine (runs_calls _ _).mono ?_; rintro e w6 ⟨v6, rfl, hr6, hb6⟩; have HR6 := mk (Kd.R_lower hr6 HB5.out.size); have HB6 := mk (below_then HB5.out HB5.out.size hb6); clear hb6 hr6))
 go_ret
 exact ⟨v6, rfl, HR6.out, HB6.out⟩

/- impl.ChangedBoxes: the bounds of the parts of the region in which two images differ. -/

def boxB (l : List S47) : S60 := ⟨(boundsR l).1, (boundsR l).2.1, (boundsR l).2.2.1, (boundsR l).2.2.2⟩
noncomputable def impl_ChangedBoxes.f (a b p : Int) (d1 : List Int) (a' b' p' : Int) (d2 : List Int) : Option (List S60) := some (if sameV a b p d1 a' b' p' d2 = true then (partsS 256 0 (gso (chg a b p d1 d2) 256)).map boxB else [])

set_option maxHeartbeats 2000000 in
set_option maxRecDepth 100000 in
theorem impl_ChangedBoxes.calls (a b p : Int) (A1 : Option Addr) (c1 : Nat) (d1 : List Int) (a' b' p' : Int) (A2 : Option Addr) (c2 : Nat) (d2 : List Int) (r : List S60) (w : World) (hr0_3 : Kd.C (Kd.int .i64) w A1 d1.length d1) (hc0_3 : d1.length ≤ c1) (hr1_3 : Kd.C (Kd.int .i64) w A2 d2.length d2) (hc1_3 : d2.length ≤ c2) (h : impl_ChangedBoxes.f a b p d1 a' b' p' d2 = some r) :
  Calls Try.prog 33 #[.agg #[.int .i64 a, .int .i64 b, .int .i64 p, .slice A1 d1.length c1], .agg #[.int .i64 a', .int .i64 b', .int .i64 p', .slice A2 d2.length c2]] w fun e w' => ∃ v0_ : Value, e = .returned v0_ ∧ Kd.R k60 60 w' w.heap.size (fun _ => True) v0_ r ∧ Below w.heap.size w w' := by
 obtain rfl := Option.some.inj h
 clear h
 have HC1 := mk hc0_3
 have HC2 := mk hc1_3
 have HR1 := mk hr0_3
 have HR2 := mk hr1_3
 have HB0 := mk (Below.refl w.heap.size w)
 have E1 := mk (impl_isImage_eq a b p d1)
 have E2 := mk (impl_isImage_eq a' b' p' d2)
 have E3 := mk (impl_alike_eq a b p d1 a' b' p' d2)
 clear hr0_3 hc0_3 hr1_3 hc1_3
 have hu := Try.underlying28
 cases hv1 : validI a b p d1 with
 | false =>
  rw [show sameV a b p d1 a' b' p' d2 = false from by unfold sameV; rw [hv1, Bool.false_and], if_neg (by simp)]
  rw [hv1] at E1
  clear hv1
  go_enter Try.func33, Try.ntmps33
  go_wp2_with (first | ((with_reducible refine gate_dst (N := 2) rfl ?_); refine box_event (by rfl) (N := 2) (by rfl) (cs := #[.int .i64 a, .int .i64 b, .int .i64 p, .slice A1 d1.length c1]) (t := 28) (by go_simp; done) ?_; intro g1 hg_ w1 hbox hb; have HB1 := mk (below_then HB0.out HB0.out.size hb); have K1 := mk hbox; clear hbox hb hg_) | ((with_reducible refine gate_dst (N := 3) rfl ?_); refine box_event (by rfl) (N := 3) (by rfl) (cs := #[.int .i64 a', .int .i64 b', .int .i64 p', .slice A2 d2.length c2]) (t := 28) (by go_simp; done) ?_; intro g2 hg_ w2 hbox hb; have HB2 := mk (below_then HB1.out HB1.out.size hb); have K1b := mk (blk_below K1.out hb); have f0 : w2.cell? ⟨g1, 0, none⟩ = some (.int .i64 a) := (blk_cell K1b.out 0).trans rfl; have f1 : w2.cell? ⟨g1, 1, none⟩ = some (.int .i64 b) := (blk_cell K1b.out 1).trans rfl; have f2 : w2.cell? ⟨g1, 2, none⟩ = some (.int .i64 p) := (blk_cell K1b.out 2).trans rfl; have f3 : w2.cell? ⟨g1, 3, none⟩ = some (.slice A1 d1.length c1) := (blk_cell K1b.out 3).trans rfl; clear hbox hb hg_) | (go_at_call 48; (with_reducible refine (impl_isImage.calls a b p A1 c1 d1 _ w2 (Kd.C_below HR1.out HB2.out) HC1.out E1.out).mono ?_); rintro e w3 ⟨rfl, hb_⟩; have HB3 := mk (below_then HB2.out HB2.out.size hb_); clear hb_))
  go_ret
  exact ⟨_, rfl, Kd.R_nil _ _ _ _ _, HB3.out⟩
 | true =>
  rw [hv1] at E1
  cases hv2 : validI a' b' p' d2 with
  | false =>
   rw [show sameV a b p d1 a' b' p' d2 = false from by unfold sameV; rw [hv2, Bool.false_and, Bool.and_false], if_neg (by simp)]
   rw [hv2] at E2
   clear hv1 hv2
   go_enter Try.func33, Try.ntmps33
   go_wp2_with (first | ((with_reducible refine gate_dst (N := 2) rfl ?_); refine box_event (by rfl) (N := 2) (by rfl) (cs := #[.int .i64 a, .int .i64 b, .int .i64 p, .slice A1 d1.length c1]) (t := 28) (by go_simp; done) ?_; intro g1 hg_ w1 hbox hb; have HB1 := mk (below_then HB0.out HB0.out.size hb); have K1 := mk hbox; clear hbox hb hg_) | ((with_reducible refine gate_dst (N := 3) rfl ?_); refine box_event (by rfl) (N := 3) (by rfl) (cs := #[.int .i64 a', .int .i64 b', .int .i64 p', .slice A2 d2.length c2]) (t := 28) (by go_simp; done) ?_; intro g2 hg_ w2 hbox hb; have HB2 := mk (below_then HB1.out HB1.out.size hb); have K2 := mk hbox; have K1b := mk (blk_below K1.out hb); have M2 := K2; have f0 : w2.cell? ⟨g1, 0, none⟩ = some (.int .i64 a) := (blk_cell K1b.out 0).trans rfl; have f1 : w2.cell? ⟨g1, 1, none⟩ = some (.int .i64 b) := (blk_cell K1b.out 1).trans rfl; have f2 : w2.cell? ⟨g1, 2, none⟩ = some (.int .i64 p) := (blk_cell K1b.out 2).trans rfl; have f3 : w2.cell? ⟨g1, 3, none⟩ = some (.slice A1 d1.length c1) := (blk_cell K1b.out 3).trans rfl; clear hbox hb hg_) | (go_at_call 48; (with_reducible refine (impl_isImage.calls a b p A1 c1 d1 _ w2 (Kd.C_below HR1.out HB2.out) HC1.out E1.out).mono ?_); rintro e w3 ⟨rfl, hb_⟩; have HB3 := mk (below_then HB2.out HB2.out.size hb_); have N2 := mk (blk_below M2.out hb_); have ew30 : w3.cell? ⟨g2, 0, none⟩ = some (.int .i64 a') := (blk_cell N2.out 0).trans rfl; have ew31 : w3.cell? ⟨g2, 1, none⟩ = some (.int .i64 b') := (blk_cell N2.out 1).trans rfl; have ew32 : w3.cell? ⟨g2, 2, none⟩ = some (.int .i64 p') := (blk_cell N2.out 2).trans rfl; have ew33 : w3.cell? ⟨g2, 3, none⟩ = some (.slice A2 d2.length c2) := (blk_cell N2.out 3).trans rfl; clear hb_) | (go_at_call 48; (with_reducible refine (impl_isImage.calls a' b' p' A2 c2 d2 _ w3 (Kd.C_below HR2.out HB3.out) HC2.out E2.out).mono ?_); rintro e w4 ⟨rfl, hb_⟩; have HB4 := mk (below_then HB3.out HB3.out.size hb_); clear hb_))
   go_ret
   exact ⟨_, rfl, Kd.R_nil _ _ _ _ _, HB4.out⟩
  | true =>
   rw [hv2] at E2
   have es : sameV a b p d1 a' b' p' d2 = decide (a = a' ∧ b = b' ∧ p = p') := by unfold sameV; rw [hv1, hv2, Bool.true_and, Bool.true_and]
   by_cases hs : a = a' ∧ b = b' ∧ p = p'
   ·rw [es, decide_eq_true hs, if_pos rfl]
    rw [decide_eq_true hs] at E3
    obtain ⟨rfl, rfl, rfl⟩ := hs
    have HV1 := mk hv1
    have HV2 := mk hv2
    clear hv1 hv2 es
    have HOK := mk (valid_ranges (runs_valid (gso (chg a b p d1 d2) 256)))
    have HPR := mk (parts_runs (gso (chg a b p d1 d2) 256))
    have HLL := mk (partsS_len 256 0 (gso (chg a b p d1 d2) 256))
    have HBN := mk (fun (r : List S47) (hr : r ∈ partsS 256 0 (gso (chg a b p d1 d2) 256)) => show impl_bounds.f (272 + 1) r = some ((boundsR r).1, (boundsR r).2.1, (boundsR r).2.2.1, (boundsR r).2.2.2) from by
     obtain ⟨f, hf⟩ := partsS_each 256 0 _ r hr
     have hl : r.length ≤ 272 := by rw [hf]; exact runsL_len f
     exact impl_bounds_eq r (partsS_ne 256 0 _ (by omega) r hr) (by omega) (by rw [hf]; exact valid_ok (runs_valid f)) _ (by omega))
    generalize partsS 256 0 (gso (chg a b p d1 d2) 256) = L at HPR HLL HBN ⊢
    have hL := HLL.out
    go_enter Try.func33, Try.ntmps33
    go_wp2_with (first | ((with_reducible refine gate_dst (N := 2) rfl ?_); refine box_event (by rfl) (N := 2) (by rfl) (cs := #[.int .i64 a, .int .i64 b, .int .i64 p, .slice A1 d1.length c1]) (t := 28) (by go_simp; done) ?_; intro g1 hg_ w1 hbox hb; have HB1 := mk (below_then HB0.out HB0.out.size hb); have K1 := mk hbox; clear hbox hb hg_) | ((with_reducible refine gate_dst (N := 3) rfl ?_); refine box_event (by rfl) (N := 3) (by rfl) (cs := #[.int .i64 a, .int .i64 b, .int .i64 p, .slice A2 d2.length c2]) (t := 28) (by go_simp; done) ?_; intro g2 hg_ w2 hbox hb; have HB2 := mk (below_then HB1.out HB1.out.size hb); have K2 := mk hbox; have K1b := mk (blk_below K1.out hb); have M1 := K1b; have M2 := K2; have f0 : w2.cell? ⟨g1, 0, none⟩ = some (.int .i64 a) := (blk_cell K1b.out 0).trans rfl; have f1 : w2.cell? ⟨g1, 1, none⟩ = some (.int .i64 b) := (blk_cell K1b.out 1).trans rfl; have f2 : w2.cell? ⟨g1, 2, none⟩ = some (.int .i64 p) := (blk_cell K1b.out 2).trans rfl; have f3 : w2.cell? ⟨g1, 3, none⟩ = some (.slice A1 d1.length c1) := (blk_cell K1b.out 3).trans rfl; clear hbox hb hg_) | (go_at_call 48; (with_reducible refine (impl_isImage.calls a b p A1 c1 d1 _ w2 (Kd.C_below HR1.out HB2.out) HC1.out E1.out).mono ?_); rintro e w3 ⟨rfl, hb_⟩; have HB3 := mk (below_then HB2.out HB2.out.size hb_); have N1 := mk (blk_below M1.out hb_); have N2 := mk (blk_below M2.out hb_); have ew30 : w3.cell? ⟨g2, 0, none⟩ = some (.int .i64 a) := (blk_cell N2.out 0).trans rfl; have ew31 : w3.cell? ⟨g2, 1, none⟩ = some (.int .i64 b) := (blk_cell N2.out 1).trans rfl; have ew32 : w3.cell? ⟨g2, 2, none⟩ = some (.int .i64 p) := (blk_cell N2.out 2).trans rfl; have ew33 : w3.cell? ⟨g2, 3, none⟩ = some (.slice A2 d2.length c2) := (blk_cell N2.out 3).trans rfl; clear hb_) | (go_at_call 48; (with_reducible refine (impl_isImage.calls a b p A2 c2 d2 _ w3 (Kd.C_below HR2.out HB3.out) HC2.out E2.out).mono ?_); rintro e w4 ⟨rfl, hb_⟩; have HB4 := mk (below_then HB3.out HB3.out.size hb_); have O1 := mk (blk_below N1.out hb_); have O2 := mk (blk_below N2.out hb_); have fw40 : w4.cell? ⟨g1, 0, none⟩ = some (.int .i64 a) := (blk_cell O1.out 0).trans rfl; have fw41 : w4.cell? ⟨g1, 1, none⟩ = some (.int .i64 b) := (blk_cell O1.out 1).trans rfl; have fw42 : w4.cell? ⟨g1, 2, none⟩ = some (.int .i64 p) := (blk_cell O1.out 2).trans rfl; have fw43 : w4.cell? ⟨g1, 3, none⟩ = some (.slice A1 d1.length c1) := (blk_cell O1.out 3).trans rfl; have ew40 : w4.cell? ⟨g2, 0, none⟩ = some (.int .i64 a) := (blk_cell O2.out 0).trans rfl; have ew41 : w4.cell? ⟨g2, 1, none⟩ = some (.int .i64 b) := (blk_cell O2.out 1).trans rfl; have ew42 : w4.cell? ⟨g2, 2, none⟩ = some (.int .i64 p) := (blk_cell O2.out 2).trans rfl; have ew43 : w4.cell? ⟨g2, 3, none⟩ = some (.slice A2 d2.length c2) := (blk_cell O2.out 3).trans rfl; clear hb_) | (go_at_call 49; (with_reducible refine (impl_alikeImages.calls a b p A1 c1 d1 a b p A2 c2 d2 _ w4 (Kd.C_below HR1.out HB4.out) HC1.out (Kd.C_below HR2.out HB4.out) HC2.out E3.out).mono ?_); rintro e w5 ⟨rfl, hb_⟩; have HB5 := mk (below_then HB4.out HB4.out.size hb_); have P1 := mk (blk_below O1.out hb_); have P2 := mk (blk_below O2.out hb_); clear hb_) | ((with_reducible refine gate_dst (N := 22) rfl ?_); refine Kd.R_lit k60 w.heap.size 60 ?hg (N := 22) ?hd (xs := ([] : List S60)) (inner := []) (ok := fun _ => True) (okp := fun _ => True) ?hr ?hp (fun _ hk => hk) trivial HB5.out HB5.out.size (by simp) ?_; (case hd => rfl); (case hg => rfl); (case hr => (go_simp; done)); (case hp => exact (Reps.none _ _)); intro v22 w6 ho hb hg_ hnew_; have HV6 := mk ho; have HB6 := mk hb; have Q1 := mk (blk_grown P1.out hg_ (by simp)); have Q2 := mk (blk_grown P2.out hg_ (by simp)); have fq0 : w6.cell? ⟨g1, 0, none⟩ = some (.int .i64 a) := (blk_cell Q1.out 0).trans rfl; have fq1 : w6.cell? ⟨g1, 1, none⟩ = some (.int .i64 b) := (blk_cell Q1.out 1).trans rfl; have fq2 : w6.cell? ⟨g1, 2, none⟩ = some (.int .i64 p) := (blk_cell Q1.out 2).trans rfl; have fq3 : w6.cell? ⟨g1, 3, none⟩ = some (.slice A1 d1.length c1) := (blk_cell Q1.out 3).trans rfl; have eq0 : w6.cell? ⟨g2, 0, none⟩ = some (.int .i64 a) := (blk_cell Q2.out 0).trans rfl; have eq1 : w6.cell? ⟨g2, 1, none⟩ = some (.int .i64 b) := (blk_cell Q2.out 1).trans rfl; have eq2 : w6.cell? ⟨g2, 2, none⟩ = some (.int .i64 p) := (blk_cell Q2.out 2).trans rfl; have eq3 : w6.cell? ⟨g2, 3, none⟩ = some (.slice A2 d2.length c2) := (blk_cell Q2.out 3).trans rfl; clear ho hb hg_ hnew_) | (go_at_call 50; (with_reducible refine (changed_calls a b p A1 A2 c1 c2 d1 d2 HV1.out HV2.out HC1.out HC2.out w6 (Kd.C_below HR1.out HB6.out) (Kd.C_below HR2.out HB6.out)).mono ?_); rintro e w7 ⟨v7, rfl, hr7, hb7⟩; have HB7 := mk (below_then HB6.out HB6.out.size hb7); have HV7 := mk (Kd.R_below HV6.out hb7); obtain ⟨A7, c7, rfl, hl7, hC7⟩ := Kd.R_reads hr7; have HR7 := mk hC7; clear hb7 hr7 hC7 hl7) | (go_at_call 75; (with_reducible refine (partsOf_calls _ _ _ w7 HR7.out HOK.out).mono ?_); rintro e w8 ⟨v8, rfl, hr8, hb8⟩; rw [HPR.out] at hr8; have HB8 := mk (below_then HB7.out HB7.out.size hb8); have HV8 := mk (Kd.R_below HV7.out hb8); have HS8 := mk (Kd.S_lower hr8 HB7.out.size); obtain ⟨A8, c8, rfl⟩ := Kd.S_slice hr8; clear hb8 hr8))
    go_loopw [5, 28] (fun v5 v28 W => ∃ i : Nat, v28 = .int .i64 i ∧ i ≤ L.length ∧ Aside0 (Kd.R k60 60 W w.heap.size (fun _ => True) v5 ((L.take i).map boxB) ∧ Kd.S (Kd.slice 47 k47) 26 W w.heap.size (fun _ => True) (.slice A8 L.length c8) L ∧ Below w.heap.size w W)) (fun _ v28 _ => L.length - (intOf v28).toNat)
    case atStart => exact ⟨0, rfl, by omega, ⟨HV8.out, HS8.out, HB8.out⟩⟩
    case round =>
     obtain ⟨i, rfl, hi, HV⟩ := hrel
     obtain ⟨wo, rfl⟩ : ∃ wo : World, wo = wr := ⟨_, rfl⟩
     by_cases hlt : i < L.length
     ·have q1 : decide ((i : Int) < (L.length : Int)) = true := decide_eq_true (by omega)
      obtain ⟨g8, cap8, h8, _⟩ := Kd.S_form HV.out.2.1 (by omega)
      injection h8 with h8a h8b h8c
      subst h8a h8c
      clear h8b
      obtain ⟨cs, _, hM, hcell⟩ := Kd.S_get HV.out.2.1 ([] : List S47) (i : Int) (by omega) (by omega)
      rw [Int.toNat_natCast] at hM
      have hmem : L.getD i [] ∈ L := by rw [List.getD_eq_getElem?_getD, List.getElem?_eq_getElem hlt]; exact List.getElem_mem hlt
      have htk : (L.take (i + 1)).map boxB = (L.take i).map boxB ++ [boxB (L.getD i [])] := by
       rw [List.take_succ_eq_append_getElem hlt, List.map_append, List.getD_eq_getElem?_getD, List.getElem?_eq_getElem hlt]; rfl
      have HBD := mk (HBN.out _ hmem)
      have HTK := mk htk
      clear hmem htk
      generalize L.getD i [] = xi at hM HBD HTK
      obtain ⟨vi, rfl, hRi⟩ := hM
      obtain ⟨Ai, ci, rfl, hli, hCi⟩ := Kd.R_reads hRi
      have hce : wo.cell? ((⟨g8, 0, none⟩ : Addr).add (i * 1 + 0)) = some (.slice Ai xi.length ci) := hcell 0 _ rfl
      rw [Nat.mul_one, Nat.add_zero] at hce
      have hce' : wo.cell? ⟨g8, i, none⟩ = some (.slice Ai xi.length ci) := by
       have e : (⟨g8, 0, none⟩ : Addr).add i = ⟨g8, i, none⟩ := by unfold Addr.add; split <;> simp_all
       rw [e] at hce
       exact hce
      have HLI := mk hli
      have HCI := mk hCi
      clear hcell hce hRi hli hCi hi
      go_wp2_with (first | (go_at_call 78; (with_reducible refine (impl_bounds.calls _ Ai ci xi _ _ _ _ wo HCI.out HLI.out HBD.out).mono ?_); rintro e w9 ⟨rfl, hb9⟩; have HB9 := mk (below_then HV.out.2.2 HV.out.2.2.size hb9); have HO9 := mk (Kd.R_below HV.out.1 hb9); have HS9 := mk (Kd.S_below HV.out.2.1 hb9); clear hb9) | ((with_reducible refine gate_builtin (b := .append) (xs := #[.tmp 32, .tmp 35]) rfl ?_); at_builtin; refine Kd.R_append k60 (w0 := w) w.heap.size rfl (.tmp 32) (.tmp 35) 53 60 (.agg #[(.int .i64 0), (.int .i64 0), (.int .i64 0), (.int .i64 0)]) 32 rfl Try.underlying53 info60 rfl (by decide) (by omega) u5 ((L.take i).map boxB) (boxB xi) [.int .i64 (boundsR xi).1, .int .i64 (boundsR xi).2.1, .int .i64 (boundsR xi).2.2.1, .int .i64 (boundsR xi).2.2.2] (fun _ => True) (fun _ => False) rfl ?aX ?aP (fun _ hk => hk.elim) (fun _ _ => trivial) HO9.out HB9.out HB9.out.size ?aL ?_; (case aX => rfl); (case aP => exact k60_mkM _ _ _ (boxB xi)); (case aL => (rw [List.length_map, List.length_take]; omega)); intro v10 w10 ho hb hg hat; have HO10 := mk ho; have HB10 := mk hb; have HS10 := mk (Kd.S_over' HS9.out (Kd.R_typed HO9.out) (by decide) hg); clear ho hb hg hat))
      go_roundw
      case rel => exact ⟨i + 1, by go_num, by omega, ⟨by rw [HTK.out]; exact HO10.out, HS10.out, HB10.out⟩⟩
      case measure => simp [intOf]; omega
     have q1 : decide ((i : Int) < (L.length : Int)) = false := decide_eq_false (by omega)
     go_wp2
     go_ret
     exact ⟨_, rfl, by have h := HV.out.1; rw [List.take_of_length_le (by omega)] at h; exact h, HV.out.2.2⟩
   rw [es, decide_eq_false hs, if_neg (by simp)]
   rw [decide_eq_false hs] at E3
   clear hv1 hv2 es hs
   go_enter Try.func33, Try.ntmps33
   go_wp2_with (first | ((with_reducible refine gate_dst (N := 2) rfl ?_); refine box_event (by rfl) (N := 2) (by rfl) (cs := #[.int .i64 a, .int .i64 b, .int .i64 p, .slice A1 d1.length c1]) (t := 28) (by go_simp; done) ?_; intro g1 hg_ w1 hbox hb; have HB1 := mk (below_then HB0.out HB0.out.size hb); have K1 := mk hbox; clear hbox hb hg_) | ((with_reducible refine gate_dst (N := 3) rfl ?_); refine box_event (by rfl) (N := 3) (by rfl) (cs := #[.int .i64 a', .int .i64 b', .int .i64 p', .slice A2 d2.length c2]) (t := 28) (by go_simp; done) ?_; intro g2 hg_ w2 hbox hb; have HB2 := mk (below_then HB1.out HB1.out.size hb); have K2 := mk hbox; have K1b := mk (blk_below K1.out hb); have M1 := K1b; have M2 := K2; have f0 : w2.cell? ⟨g1, 0, none⟩ = some (.int .i64 a) := (blk_cell K1b.out 0).trans rfl; have f1 : w2.cell? ⟨g1, 1, none⟩ = some (.int .i64 b) := (blk_cell K1b.out 1).trans rfl; have f2 : w2.cell? ⟨g1, 2, none⟩ = some (.int .i64 p) := (blk_cell K1b.out 2).trans rfl; have f3 : w2.cell? ⟨g1, 3, none⟩ = some (.slice A1 d1.length c1) := (blk_cell K1b.out 3).trans rfl; clear hbox hb hg_) | (go_at_call 48; (with_reducible refine (impl_isImage.calls a b p A1 c1 d1 _ w2 (Kd.C_below HR1.out HB2.out) HC1.out E1.out).mono ?_); rintro e w3 ⟨rfl, hb_⟩; have HB3 := mk (below_then HB2.out HB2.out.size hb_); have N1 := mk (blk_below M1.out hb_); have N2 := mk (blk_below M2.out hb_); have ew30 : w3.cell? ⟨g2, 0, none⟩ = some (.int .i64 a') := (blk_cell N2.out 0).trans rfl; have ew31 : w3.cell? ⟨g2, 1, none⟩ = some (.int .i64 b') := (blk_cell N2.out 1).trans rfl; have ew32 : w3.cell? ⟨g2, 2, none⟩ = some (.int .i64 p') := (blk_cell N2.out 2).trans rfl; have ew33 : w3.cell? ⟨g2, 3, none⟩ = some (.slice A2 d2.length c2) := (blk_cell N2.out 3).trans rfl; clear hb_) | (go_at_call 48; (with_reducible refine (impl_isImage.calls a' b' p' A2 c2 d2 _ w3 (Kd.C_below HR2.out HB3.out) HC2.out E2.out).mono ?_); rintro e w4 ⟨rfl, hb_⟩; have HB4 := mk (below_then HB3.out HB3.out.size hb_); have O1 := mk (blk_below N1.out hb_); have O2 := mk (blk_below N2.out hb_); have fw40 : w4.cell? ⟨g1, 0, none⟩ = some (.int .i64 a) := (blk_cell O1.out 0).trans rfl; have fw41 : w4.cell? ⟨g1, 1, none⟩ = some (.int .i64 b) := (blk_cell O1.out 1).trans rfl; have fw42 : w4.cell? ⟨g1, 2, none⟩ = some (.int .i64 p) := (blk_cell O1.out 2).trans rfl; have fw43 : w4.cell? ⟨g1, 3, none⟩ = some (.slice A1 d1.length c1) := (blk_cell O1.out 3).trans rfl; have ew40 : w4.cell? ⟨g2, 0, none⟩ = some (.int .i64 a') := (blk_cell O2.out 0).trans rfl; have ew41 : w4.cell? ⟨g2, 1, none⟩ = some (.int .i64 b') := (blk_cell O2.out 1).trans rfl; have ew42 : w4.cell? ⟨g2, 2, none⟩ = some (.int .i64 p') := (blk_cell O2.out 2).trans rfl; have ew43 : w4.cell? ⟨g2, 3, none⟩ = some (.slice A2 d2.length c2) := (blk_cell O2.out 3).trans rfl; clear hb_) | (go_at_call 49; (with_reducible refine (impl_alikeImages.calls a b p A1 c1 d1 a' b' p' A2 c2 d2 _ w4 (Kd.C_below HR1.out HB4.out) HC1.out (Kd.C_below HR2.out HB4.out) HC2.out E3.out).mono ?_); rintro e w5 ⟨rfl, hb_⟩; have HB5 := mk (below_then HB4.out HB4.out.size hb_); clear hb_))
   go_ret
   exact ⟨_, rfl, Kd.R_nil _ _ _ _ _, HB5.out⟩

/- impl.patched: an image in which the pixels of boxes are those of another one. -/

def put1 (a p : Int) (e : List Int) (x y : Nat) (d : List Int) : List Int := laidOver d (pixJ a p x y).toNat (pixT e (pixJ a p x y) p)
def putX (a p : Int) (e : List Int) (X y n : Nat) (d : List Int) : List Int := (List.range n).foldl (fun d i => put1 a p e (X + i) y d) d
def putB (a p : Int) (e : List Int) (X Y W n : Nat) (d : List Int) : List Int := (List.range n).foldl (fun d i => putX a p e X (Y + i) W d) d
def patchD (a p : Int) (e : List Int) (l : List S60) (d : List Int) : List Int := l.foldl (fun d r => putB a p e r.f0.toNat r.f1.toNat r.f2.toNat r.f3.toNat d) d
def onB (a b : Int) (r : S60) : Bool := decide (0 ≤ r.f0) && (decide (r.f0 < a) && (decide (0 ≤ r.f1) && (decide (r.f1 < b) && (decide (1 ≤ r.f2) && (decide (r.f2 ≤ a - r.f0) && (decide (1 ≤ r.f3) && decide (r.f3 ≤ b - r.f1)))))))
theorem onB_iff (a b : Int) (r : S60) : onB a b r = true ↔ 0 ≤ r.f0 ∧ r.f0 < a ∧ 0 ≤ r.f1 ∧ r.f1 < b ∧ 1 ≤ r.f2 ∧ r.f2 ≤ a - r.f0 ∧ 1 ≤ r.f3 ∧ r.f3 ≤ b - r.f1 := by simp [onB]
def impl_patched.f (a b p : Int) (d1 : List Int) (a2 b2 p2 : Int) (d2 : List Int) (l : List S60) : Option (Int × Int × Int × List Int) :=
 if validI a b p d1 = true ∧ validI a b p d2 = true ∧ a2 = a ∧ b2 = b ∧ p2 = p ∧ l.all (onB a b) = true then some (a, b, p, patchD a p d2 l d1) else none
theorem putX_succ (a p : Int) (e : List Int) (X y n : Nat) (d : List Int) : putX a p e X y (n + 1) d = put1 a p e (X + n) y (putX a p e X y n d) := by unfold putX; rw [List.range_succ, List.foldl_append]; rfl
theorem putB_succ (a p : Int) (e : List Int) (X Y W n : Nat) (d : List Int) : putB a p e X Y W (n + 1) d = putX a p e X (Y + n) W (putB a p e X Y W n d) := by unfold putB; rw [List.range_succ, List.foldl_append]; rfl
theorem patchD_succ (a p : Int) (e : List Int) (l : List S60) (k : Nat) (h : k < l.length) (d : List Int) : patchD a p e (l.take (k + 1)) d = putB a p e l[k].f0.toNat l[k].f1.toNat l[k].f2.toNat l[k].f3.toNat (patchD a p e (l.take k) d) := by unfold patchD; rw [List.take_succ_eq_append_getElem h, List.foldl_append]; rfl

set_option maxHeartbeats 4000000 in
set_option maxRecDepth 100000 in
theorem patched_go (a b p : Int) (A1 A2 A3 : Option Addr) (c1 c2 c3 : Nat) (d1 d2 : List Int) (l : List S60) (hv1 : validI a b p d1 = true) (hv2 : validI a b p d2 = true) (hl : ∀ r ∈ l, onB a b r = true) (hc1 : d1.length ≤ c1) (hc2 : d2.length ≤ c2) (w : World) (hr1 : Kd.C (Kd.int .i64) w A1 d1.length d1) (hr2 : Kd.C (Kd.int .i64) w A2 d2.length d2) (hr3 : Kd.C k60 w A3 l.length l) :
  Calls Try.prog 85 #[.agg #[.int .i64 a, .int .i64 b, .int .i64 p, .slice A1 d1.length c1], .agg #[.int .i64 a, .int .i64 b, .int .i64 p, .slice A2 d2.length c2], .slice A3 l.length c3] w fun e w' => ∃ v3_ : Value, e = .returned (.agg #[.int .i64 a, .int .i64 b, .int .i64 p, v3_]) ∧ Kd.R (Kd.int .i64) 3 w' w.heap.size (fun _ => True) v3_ (patchD a p d2 l d1) ∧ Below w.heap.size w w' := by
 have hsh := (validI_iff a b p d1).1 hv1
 have hsp := shape_prod hsh.1
 have hpos : 0 < a * b * p := Int.mul_pos (Int.mul_pos (by omega) (by omega)) (by omega)
 have HL1 := mk (show d1.length ≤ 1024 by omega)
 have HNE := mk (show 0 < d1.length by omega)
 have HL12 := mk (show d2.length = d1.length by have := ((validI_iff a b p d2).1 hv2).2.1; omega)
 have HV1 := mk hv1
 have HV2 := mk hv2
 have HSH := mk hsh.1
 have HC1 := mk hc1
 have HC2 := mk hc2
 have HR1 := mk hr1
 have HR2 := mk hr2
 have HR3 := mk hr3
 have HL := mk hl
 have hm : l.length ≤ 9223372036854775807 := hr3.2.1
 have HB0 := mk (Below.refl w.heap.size w)
 have HCP := mk (show impl_copyImage.f a b p d1 = some (a, b, p, d1) from by
  unfold impl_copyImage.f
  simp only [Option.bind_some]
  rw [if_pos (by simp; omega)]
  simp)
 have hu := Try.underlying28
 have hub := Try.underlying60
 have hui := Try.underlying22
 clear hsh hsp hpos hc1 hc2 hr1 hr2 hr3 hl hv1 hv2
 go_enter Try.func85, Try.ntmps85
 go_wp2_with (first | ((with_reducible refine gate_dst (N := 3) rfl ?_); refine box_event (by rfl) (N := 3) (by rfl) (cs := #[.int .i64 a, .int .i64 b, .int .i64 p, .slice A1 d1.length c1]) (t := 28) (by go_simp; done) ?_; intro g1 hg_ w1 hbox hb; have HB1 := mk (below_then HB0.out HB0.out.size hb); have K1 := mk hbox; have Gg1 := mk (show w.heap.size ≤ g1 from by rw [hg_]; exact HB0.out.size); clear hbox hb hg_) | ((with_reducible refine gate_dst (N := 4) rfl ?_); refine box_event (by rfl) (N := 4) (by rfl) (cs := #[.int .i64 a, .int .i64 b, .int .i64 p, .slice A2 d2.length c2]) (t := 28) (by go_simp; done) ?_; intro g2 hg_ w2 hbox hb; have HB2 := mk (below_then HB1.out HB1.out.size hb); have K2 := mk hbox; have Gg2 := mk (show w.heap.size ≤ g2 from by rw [hg_]; exact HB1.out.size); have K1b := mk (blk_below K1.out hb); clear hbox hb hg_) | ((with_reducible refine gate_dst (N := 6) rfl ?_); refine box_event (by rfl) (N := 6) (by rfl) (cs := #[.int .i64 0, .int .i64 0, .int .i64 0, .slice none 0 0]) (t := 28) (by go_simp; done) ?_; intro g3 hg_ w3 hbox hb; have HB3 := mk (below_then HB2.out HB2.out.size hb); have K3 := mk hbox; have Gg3 := mk (show w.heap.size ≤ g3 from by rw [hg_]; exact HB2.out.size); have K1c := mk (blk_below K1b.out hb); have K2c := mk (blk_below K2.out hb); have f0 : w3.cell? ⟨g1, 0, none⟩ = some (.int .i64 a) := (blk_cell K1c.out 0).trans rfl; have f1 : w3.cell? ⟨g1, 1, none⟩ = some (.int .i64 b) := (blk_cell K1c.out 1).trans rfl; have f2 : w3.cell? ⟨g1, 2, none⟩ = some (.int .i64 p) := (blk_cell K1c.out 2).trans rfl; have f3 : w3.cell? ⟨g1, 3, none⟩ = some (.slice A1 d1.length c1) := (blk_cell K1c.out 3).trans rfl; clear hbox hb hg_) | (go_at_call 105; (with_reducible refine (impl_copyImage.calls a b p A1 c1 d1 a b p d1 w3 (Kd.C_below HR1.out HB3.out) HC1.out HCP.out).mono ?_); rintro e w4 ⟨v4, rfl, hr4, hb4⟩; have HB4 := mk (below_then HB3.out HB3.out.size hb4); have HR4 := mk (Kd.R_lower hr4 HB3.out.size); have K2d := mk (blk_below K2c.out hb4); have K3d := mk (blk_below K3.out hb4); obtain ⟨gr, cr, e4, hgr, hgl, _⟩ := Kd.R_form hr4 HNE.out; subst e4; have GR := mk hgr; have GL := mk hgl; clear hr4 hb4 hgr hgl))
 obtain ⟨n, HN⟩ : ∃ n, Aside0 (n = d1.length) := ⟨_, ⟨rfl⟩⟩
 have HGM := blk_new w4 (.cells #[.int .i64 a, .int .i64 b, .int .i64 p, .slice (some ⟨gr, 0, none⟩) d1.length cr] 28 (0, 0))
 rw [← HN.out] at HGM ⊢
 have HR4 := HR4.out
 rw [← HN.out] at HR4
 have SZ := blk_lt K3.out
 have SZ2 := blk_lt K3d.out
 have GG3 := Gg3.out
 go_loopw [16] (fun v16 W => ∃ k : Nat, v16 = .int .i64 k ∧ k ≤ l.length ∧ (∃ D, Aside0 (D = patchD a p d2 (l.take k) d1) ∧ Aside0 (n = D.length) ∧ Kd.R (Kd.int .i64) 3 W w.heap.size (fun k => k = gr) (.slice (some ⟨gr, 0, none⟩) n cr) D) ∧ Aside0 (W.heap[w4.heap.size]? = some (.cells #[.int .i64 a, .int .i64 b, .int .i64 p, .slice (some ⟨gr, 0, none⟩) n cr] 28 (0, 0))) ∧ Aside0 (W.heap[g2]? = some (.cells #[.int .i64 a, .int .i64 b, .int .i64 p, .slice A2 d2.length c2] 28 (0, 0))) ∧ Aside0 (W.heap[g3]? = some (.cells #[.int .i64 0, .int .i64 0, .int .i64 0, .slice none 0 0] 28 (0, 0))) ∧ Aside0 (Below w.heap.size w W)) (fun v16 _ => l.length - (intOf v16).toNat)
 case atStart => exact ⟨0, rfl, by omega, ⟨d1, ⟨rfl⟩, HN, Kd.R_alloc (Kd.R_mono (Kd.R_tight rfl HR4) (fun k hk => by simpa [Value.ownBlock] using hk)) _⟩, ⟨HGM⟩, ⟨blk_alloc K2d.out _⟩, ⟨blk_alloc K3d.out _⟩, ⟨below_alloc HB4.out _⟩⟩
 case round =>
  clear HR4 HGM
  obtain ⟨k, rfl, hk, ⟨D0, HD0, HDn, hr⟩, h7, h2, h3, hb⟩ := hrel
  obtain ⟨wo, rfl⟩ : ∃ wo : World, wo = wr := ⟨_, rfl⟩
  by_cases hlt : k < l.length
  ·have hdk : decide ((k : Int) < (l.length : Int)) = true := by simp; omega
   obtain ⟨ad, e, hx0, hx1, hx2, hx3⟩ := at_T60 HR3.out (k : Int) (by omega) (by omega)
   cases e
   have er : rd_T60 l (k : Int) = l[k] := by simp [rd_T60, hlt]
   have ho := (onB_iff a b l[k]).1 (HL.out l[k] (List.getElem_mem hlt))
   have HGS := mk (patchD_succ a p d2 l k hlt d1)
   rw [er, Int.toNat_natCast] at hx0 hx1 hx2 hx3
   clear er
   generalize l[k] = r at *
   obtain ⟨X, hX⟩ := Int.eq_ofNat_of_zero_le ho.1
   obtain ⟨Y, hY⟩ := Int.eq_ofNat_of_zero_le ho.2.2.1
   obtain ⟨Wd, hWd⟩ := Int.eq_ofNat_of_zero_le (show 0 ≤ r.f2 by omega)
   obtain ⟨Hg, hHg⟩ := Int.eq_ofNat_of_zero_le (show 0 ≤ r.f3 by omega)
   rw [hX] at hx0 ho
   rw [hY] at hx1 ho
   rw [hWd] at hx2 ho
   rw [hHg] at hx3 ho
   have hsh := HSH.out
   have hx16 : X < 16 := by omega
   have hy16 : Y < 16 := by omega
   have hw16 : Wd ≤ 16 := by omega
   have hh16 : Hg ≤ 16 := by omega
   have HXA := mk (show (X : Int) + Wd ≤ a by omega)
   have HYB := mk (show (Y : Int) + Hg ≤ b by omega)
   replace HGS := mk (show patchD a p d2 (l.take (k + 1)) d1 = putB a p d2 X Y Wd Hg D0 from by rw [HGS.out, hX, hY, hWd, hHg, HD0.out]; rfl)
   clear hsh ho hX hY hWd hHg
   replace hx0 := (hb.out.cell (World.block_lt_of_cell? w _ hx0)).trans hx0
   replace hx1 := (hb.out.cell (World.block_lt_of_cell? w _ hx1)).trans hx1
   replace hx2 := (hb.out.cell (World.block_lt_of_cell? w _ hx2)).trans hx2
   replace hx3 := (hb.out.cell (World.block_lt_of_cell? w _ hx3)).trans hx3
   go_wp2
   have SB := hb.out.size
   have S7 := blk_lt h7.out
   have S3 := blk_lt h3.out
   go_loopw [10] (fun v10 W => ∃ y : Nat, v10 = .int .i64 y ∧ Y ≤ y ∧ y ≤ Y + Hg ∧ (∃ D, Aside0 (D = putB a p d2 X Y Wd (y - Y) D0) ∧ Aside0 (n = D.length) ∧ Kd.R (Kd.int .i64) 3 W w.heap.size (fun k => k = gr) (.slice (some ⟨gr, 0, none⟩) n cr) D) ∧ Aside0 (W.heap[wo.heap.size]? = some (.cells #[.int .i64 (X : Int), .int .i64 (Y : Int), .int .i64 (Wd : Int), .int .i64 (Hg : Int)] 60 (0, 0))) ∧ Aside0 (W.heap[w4.heap.size]? = some (.cells #[.int .i64 a, .int .i64 b, .int .i64 p, .slice (some ⟨gr, 0, none⟩) n cr] 28 (0, 0))) ∧ Aside0 (W.heap[g2]? = some (.cells #[.int .i64 a, .int .i64 b, .int .i64 p, .slice A2 d2.length c2] 28 (0, 0))) ∧ Aside0 (W.heap[g3]? = some (.cells #[.int .i64 0, .int .i64 0, .int .i64 0, .slice none 0 0] 28 (0, 0))) ∧ Aside0 (Below w.heap.size w W)) (fun v10 _ => Y + Hg - (intOf v10).toNat)
   case atStart => exact ⟨Y, rfl, Nat.le_refl _, by omega, ⟨D0, ⟨by rw [Nat.sub_self]; rfl⟩, HDn, Kd.R_alloc hr _⟩, ⟨blk_new _ _⟩, ⟨blk_alloc h7.out _⟩, ⟨blk_alloc h2.out _⟩, ⟨blk_alloc h3.out _⟩, ⟨below_alloc hb.out _⟩⟩
   case round =>
    clear hr h7 h2 h3 hb HDn
    obtain ⟨y, rfl, hYy, hyH, ⟨D1, HD1, HDn, hr⟩, h9, h7, h2, h3, hb⟩ := hrel
    have k0 : wr.cell? ⟨wo.heap.size, 0, none⟩ = some (.int .i64 (X : Int)) := (blk_cell h9.out 0).trans rfl
    have k1 : wr.cell? ⟨wo.heap.size, 1, none⟩ = some (.int .i64 (Y : Int)) := (blk_cell h9.out 1).trans rfl
    have k2 : wr.cell? ⟨wo.heap.size, 2, none⟩ = some (.int .i64 (Wd : Int)) := (blk_cell h9.out 2).trans rfl
    have k3 : wr.cell? ⟨wo.heap.size, 3, none⟩ = some (.int .i64 (Hg : Int)) := (blk_cell h9.out 3).trans rfl
    by_cases hly : y < Y + Hg
    ·have hdy : decide ((y : Int) < (Y : Int) + (Hg : Int)) = true := by simp; omega
     go_wp2
     go_loopw [11] (fun v11 W => ∃ x : Nat, v11 = .int .i64 x ∧ X ≤ x ∧ x ≤ X + Wd ∧ (∃ D, Aside0 (D = putX a p d2 X y (x - X) D1) ∧ Aside0 (n = D.length) ∧ Kd.R (Kd.int .i64) 3 W w.heap.size (fun k => k = gr) (.slice (some ⟨gr, 0, none⟩) n cr) D) ∧ Aside0 (W.heap[wo.heap.size]? = some (.cells #[.int .i64 (X : Int), .int .i64 (Y : Int), .int .i64 (Wd : Int), .int .i64 (Hg : Int)] 60 (0, 0))) ∧ Aside0 (W.heap[w4.heap.size]? = some (.cells #[.int .i64 a, .int .i64 b, .int .i64 p, .slice (some ⟨gr, 0, none⟩) n cr] 28 (0, 0))) ∧ Aside0 (W.heap[g2]? = some (.cells #[.int .i64 a, .int .i64 b, .int .i64 p, .slice A2 d2.length c2] 28 (0, 0))) ∧ Aside0 (W.heap[g3]? = some (.cells #[.int .i64 0, .int .i64 0, .int .i64 0, .slice none 0 0] 28 (0, 0))) ∧ Aside0 (Below w.heap.size w W)) (fun v11 _ => X + Wd - (intOf v11).toNat)
     case atStart => exact ⟨X, rfl, Nat.le_refl _, by omega, ⟨D1, ⟨by rw [Nat.sub_self]; rfl⟩, HDn, hr⟩, h9, h7, h2, h3, hb⟩
     case round =>
      clear hr h9 h7 h2 h3 hb k0 k1 k2 k3 HDn
      obtain ⟨x, rfl, hXx, hxW, ⟨D, HD2, HDn, hr⟩, h9, h7, h2, h3, hb⟩ := hrel
      have k0 : wr.cell? ⟨wo.heap.size, 0, none⟩ = some (.int .i64 (X : Int)) := (blk_cell h9.out 0).trans rfl
      have k2 : wr.cell? ⟨wo.heap.size, 2, none⟩ = some (.int .i64 (Wd : Int)) := (blk_cell h9.out 2).trans rfl
      by_cases hlx : x < X + Wd
      ·have hdx : decide ((x : Int) < (X : Int) + (Wd : Int)) = true := by simp; omega
       obtain ⟨j, hj⟩ : ∃ j, pixJ a p x y = j := ⟨_, rfl⟩
       have hxa : (x : Int) < a := by have := HXA.out; omega
       have hyb : (y : Int) < b := by have := HYB.out; omega
       have hb1 := pixJ_is HV1.out hxa hyb
       have hb2 := pixJ_is HV2.out hxa hyb
       have hpp := HSH.out
       rw [hj] at hb1 hb2
       have hw : wrap64 (j + p) = j + p := w64 (by omega) (by omega)
       have hnn := HN.out
       obtain ⟨_, _, _, _, _, hcrn, _⟩ : Nonempty True ∧ Nonempty True ∧ Nonempty True ∧ Nonempty True ∧ Nonempty True ∧ n ≤ cr ∧ True := ⟨⟨trivial⟩, ⟨trivial⟩, ⟨trivial⟩, ⟨trivial⟩, ⟨trivial⟩, (Kd.R_reads' hr).2.1, trivial⟩
       have AT1 := mk (fun W => at_callsX a b p (some ⟨gr, 0, none⟩) cr n (x : Int) (y : Int) j hcrn hj (by omega) (by omega) (by omega) (some ⟨gr, j.toNat, none⟩) (by
        rw [if_neg (by omega)]
        simp only [Option.map_some]
        unfold Addr.add
        split <;> simp_all) W)
       obtain ⟨Aq, hAq⟩ : ∃ Aq, Aq = if c2 = j.toNat then A2 else A2.map (·.add (j.toNat * 1)) := ⟨_, rfl⟩
       have AT2 := mk (fun W => at_callsX a b p A2 c2 d2.length (x : Int) (y : Int) j HC2.out hj (by omega) (by omega) (by omega) Aq hAq W)
       have HP2 := mk (fun (W : World) (hW : Below w.heap.size w W) => pixT_C (j := j) (p := p) (Kd.C_below HR2.out hW) HC2.out (by omega) (by omega))
       rw [pixT_length d2 j p (by omega), ← hAq] at HP2
       have HF := mk (show j.toNat + ((wrap64 (j + p)).toNat - j.toNat) ≤ n by omega)
       have HPL := mk (pixT_length d2 j p (by omega))
       have HJ := mk hj
       clear hb1 hb2 hpp hw hnn hcrn hj hxa hyb hAq
       go_wp2
       refine wp_region_held_drew (S := (fun W => Aside0 (Below w.heap.size w W) ∧ Aside0 (W.heap[w4.heap.size]? = some (.cells #[.int .i64 a, .int .i64 b, .int .i64 p, .slice (some ⟨gr, 0, none⟩) n cr] 28 (0, 0))) ∧ Aside0 (W.heap[g2]? = some (.cells #[.int .i64 a, .int .i64 b, .int .i64 p, .slice A2 d2.length c2] 28 (0, 0))) ∧ Aside0 (W.heap[wo.heap.size]? = some (.cells #[.int .i64 (X : Int), .int .i64 (Y : Int), .int .i64 (Wd : Int), .int .i64 (Hg : Int)] 60 (0, 0))) ∧ Aside0 (W.heap[g3]? = some (.cells #[.int .i64 0, .int .i64 0, .int .i64 0, .slice none 0 0] 28 (0, 0))))) (by kernel_rfl) ⟨⟨below_drew hb.out⟩, ⟨blk_below h7.out (below_drew (Below.refl _ _))⟩, ⟨blk_below h2.out (below_drew (Below.refl _ _))⟩, ⟨blk_below h9.out (below_drew (Below.refl _ _))⟩, ⟨blk_below h3.out (below_drew (Below.refl _ _))⟩⟩ (fun hH => ?_)
       have hrd := Kd.R_drew hr
       obtain ⟨W0, hW0⟩ : ∃ W, W = wr.drew := ⟨_, rfl⟩
       rw [← hW0] at hH hrd ⊢
       clear hW0 hr hb h7 h2 h3 h9
       refine wpAnyH_take (i := 0) rfl (by kernel_rfl) (by kernel_rfl) (by kernel_rfl) (fun _ _ _ h => h) (yields_img (by kernel_rfl) _ rfl w4.heap.size rfl #[.int .i64 a, .int .i64 b, .int .i64 p, .slice (some ⟨gr, 0, none⟩) n cr] (fun W hW => hW.2.1.out) rfl) hH ?_
       simp only [bool_to_prop]
       refine wpAnyH_take (i := 1) (v := .int .i64 (x : Int)) rfl (by kernel_rfl) (by kernel_rfl) (by kernel_rfl) (fun _ _ _ h => h) (.inl ⟨by kernel_rfl, fun W hW => by (go_simp; done)⟩) hH ?_
       simp only [bool_to_prop]
       refine wpAnyH_take (i := 2) (v := .int .i64 (y : Int)) rfl (by kernel_rfl) (by kernel_rfl) (by kernel_rfl) (fun _ _ _ h => h) (.inl ⟨by kernel_rfl, fun W hW => by (go_simp; done)⟩) hH ?_
       simp only [bool_to_prop]
       refine wpAnyH_take (i := 4) rfl (by kernel_rfl) (by kernel_rfl) (by kernel_rfl) (fun _ _ _ h => h) (yields_img (by kernel_rfl) _ rfl g2 rfl #[.int .i64 a, .int .i64 b, .int .i64 p, .slice A2 d2.length c2] (fun W hW => hW.2.2.1.out) rfl) hH ?_
       simp only [bool_to_prop]
       refine wpAnyH_take (i := 5) (v := .int .i64 (x : Int)) rfl (by kernel_rfl) (by kernel_rfl) (by kernel_rfl) (fun _ _ _ h => h) (.inl ⟨by kernel_rfl, fun W hW => by (go_simp; done)⟩) hH ?_
       simp only [bool_to_prop]
       refine wpAnyH_take (i := 6) (v := .int .i64 (y : Int)) rfl (by kernel_rfl) (by kernel_rfl) (by kernel_rfl) (fun _ _ _ h => h) (.inl ⟨by kernel_rfl, fun W hW => by (go_simp; done)⟩) hH ?_
       simp only [bool_to_prop]
       refine wpAnyH_ready (rs := [3]) (by kernel_rfl) (by simp) ?_
       refine AllReadyH.cons (i := 3) rfl ?_ AllReadyH.nil
       intro K hK
       rw [if_pos (by rfl)]
       go_simp
       go_wp2_with (first | (go_at_call 59; (with_reducible refine (AT1.out _).mono ?_); rintro e W1 ⟨rfl, hb⟩))
       refine hK.out _ _ ⟨⟨below_then hH.1.out hH.1.out.size hb⟩, ⟨blk_below hH.2.1.out hb⟩, ⟨blk_below hH.2.2.1.out hb⟩, ⟨blk_below hH.2.2.2.1.out hb⟩, ⟨blk_below hH.2.2.2.2.out hb⟩⟩ (fun hH1 => ?_)
       replace hrd := Kd.R_below hrd hb
       clear hK K hb hH
       have hH := hH1
       clear hH1
       try simp only [bool_to_prop]
       refine wpAnyH_ready (rs := [7]) (by kernel_rfl) (by simp) ?_
       refine AllReadyH.cons (i := 7) rfl ?_ AllReadyH.nil
       intro K hK
       rw [if_pos (by rfl)]
       go_simp
       go_wp2_with (first | (go_at_call 59; (with_reducible refine (AT2.out _).mono ?_); rintro e W2 ⟨rfl, hb⟩))
       refine hK.out _ _ ⟨⟨below_then hH.1.out hH.1.out.size hb⟩, ⟨blk_below hH.2.1.out hb⟩, ⟨blk_below hH.2.2.1.out hb⟩, ⟨blk_below hH.2.2.2.1.out hb⟩, ⟨blk_below hH.2.2.2.2.out hb⟩⟩ (fun hH1 => ?_)
       replace hrd := Kd.R_below hrd hb
       clear hK K hb hH
       have hH := hH1
       clear hH1
       try simp only [bool_to_prop]
       refine wpAnyH_ready (rs := [8]) (by kernel_rfl) (by simp) ?_
       refine AllReadyH.cons (i := 8) rfl ?_ AllReadyH.nil
       intro K hK
       rw [if_pos (by rfl)]
       refine copyAt_wp (.tmp 45) (.tmp 49) 22 22 rfl Try.underlying22 gr cr j.toNat D (pixT d2 j p) _ _ _ n _ w.heap.size (fun k => k = gr) rfl rfl HDn.out hrd (HP2.out _ hH.1.out) HF.out ?_
       intro w5 hr5 hbg hg5
       have hb5 : Below w.heap.size w w5 := hH.1.out.grown hg5 hH.1.out.size (fun k hk => by injection hk with hk; omega)
       have hk7 : w5.heap[w4.heap.size]? = some (.cells #[.int .i64 a, .int .i64 b, .int .i64 p, .slice (some ⟨gr, 0, none⟩) n cr] 28 (0, 0)) := (hg5.block _ (blk_lt hH.2.1.out) (by intro e; injection e with e; have := GL.out; omega)).trans hH.2.1.out
       have hk2 : w5.heap[g2]? = some (.cells #[.int .i64 a, .int .i64 b, .int .i64 p, .slice A2 d2.length c2] 28 (0, 0)) := (hg5.block _ (blk_lt hH.2.2.1.out) (by intro e; injection e with e; have := GR.out; have := blk_lt K2c.out; omega)).trans hH.2.2.1.out
       have hk9 : w5.heap[wo.heap.size]? = some (.cells #[.int .i64 (X : Int), .int .i64 (Y : Int), .int .i64 (Wd : Int), .int .i64 (Hg : Int)] 60 (0, 0)) := (hg5.block _ (blk_lt hH.2.2.2.1.out) (by intro e; injection e with e; have := GL.out; omega)).trans hH.2.2.2.1.out
       have hk3 : w5.heap[g3]? = some (.cells #[.int .i64 0, .int .i64 0, .int .i64 0, .slice none 0 0] 28 (0, 0)) := (hg5.block _ (blk_lt hH.2.2.2.2.out) (by intro e; injection e with e; have := GR.out; omega)).trans hH.2.2.2.2.out
       refine hK.out _ _ ⟨⟨hb5⟩, ⟨hk7⟩, ⟨hk2⟩, ⟨hk9⟩, ⟨hk3⟩⟩ (fun hH1 => ?_)
       clear hK K hH hrd hb5 hk7 hk2 hk9 hk3 hg5
       obtain ⟨hb, h7, h2, h9, h3⟩ := hH1
       try simp only [bool_to_prop]
       refine wpAnyH_done (by kernel_rfl) ?_ _
       go_wp2
       exact ⟨⟨x + 1, by go_num, by omega, by omega, ⟨laidOver D j.toNat (pixT d2 j p), ⟨by rw [show x + 1 - X = (x - X) + 1 by omega, putX_succ, ← HD2.out, show X + (x - X) = x by omega]; unfold put1; rw [HJ.out]⟩, ⟨by rw [laidOver_length _ _ _ (by rw [HPL.out, ← HDn.out]; exact HF.out)]; exact HDn.out⟩, hr5⟩, h9, h7, h2, h3, hb⟩, by simp [intOf]; omega⟩
      have hdx : decide ((x : Int) < (X : Int) + (Wd : Int)) = false := by simp; omega
      have hxe : x = X + Wd := by omega
      subst hxe
      go_wp2
      go_roundw
      case rel => exact ⟨y + 1, by go_num, by omega, by omega, ⟨D, ⟨by rw [HD2.out, HD1.out, Nat.add_sub_cancel_left, show y + 1 - Y = (y - Y) + 1 by omega, putB_succ, show Y + (y - Y) = y by omega]⟩, HDn, hr⟩, h9, h7, h2, h3, hb⟩
      case measure => simp [intOf]; omega
    have hdy : decide ((y : Int) < (Y : Int) + (Hg : Int)) = false := by simp; omega
    have hye : y = Y + Hg := by omega
    subst hye
    go_wp2
    go_roundw
    case rel => exact ⟨k + 1, by go_num, by omega, ⟨D1, ⟨by rw [HD1.out, HGS.out, Nat.add_sub_cancel_left]⟩, HDn, hr⟩, h7, h2, h3, hb⟩
    case measure => simp [intOf]; omega
  have hdk : decide ((k : Int) < (l.length : Int)) = false := by simp; omega
  have hkl : k = l.length := by omega
  subst hkl
  have HB3o := h3.out
  have H7o := h7.out
  have m0 := blk_cell h7.out 0; have m1 := blk_cell h7.out 1; have m2 := blk_cell h7.out 2; have m3 := blk_cell h7.out 3
  have z0 := blk_cell h3.out 0; have z1 := blk_cell h3.out 1; have z2 := blk_cell h3.out 2; have z3 := blk_cell h3.out 3
  have y0 := blk_frozen h3.out 0; have y1 := blk_frozen h3.out 1; have y2 := blk_frozen h3.out 2; have y3 := blk_frozen h3.out 3
  go_wp2
  refine bodyPost_ret (results_cell_row rfl _ _ g3 28 #[.int .i64 a, .int .i64 b, .int .i64 p, .slice (some ⟨gr, 0, none⟩) n cr] (0, 0) _ rfl (by
   refine blk_put (cs := #[.int .i64 a, .int .i64 b, .int .i64 p, .slice none 0 0]) ?_ 3 _ rfl
   refine blk_put (cs := #[.int .i64 a, .int .i64 b, .int .i64 0, .slice none 0 0]) ?_ 2 _ rfl
   refine blk_put (cs := #[.int .i64 a, .int .i64 0, .int .i64 0, .slice none 0 0]) ?_ 1 _ rfl
   refine blk_put (cs := #[.int .i64 0, .int .i64 0, .int .i64 0, .slice none 0 0]) ?_ 0 _ rfl
   exact HB3o
   ) hu rfl (by kernel_rfl)) rfl ?_
  have SB := hb.out.size
  exact ⟨_, rfl, Kd.R_mono (Kd.R_far (Kd.R_far (Kd.R_far (Kd.R_far (by rw [List.take_length] at HD0; rw [← HD0.out]; exact hr) (fun k hk => by subst hk; have := GR.out; simp; omega) _) (fun k hk => by subst hk; have := GR.out; simp; omega) _) (fun k hk => by subst hk; have := GR.out; simp; omega) _) (fun k hk => by subst hk; have := GR.out; simp; omega) _) (fun _ _ => trivial), below_set (below_set (below_set (below_set hb.out (by omega)) (by omega)) (by omega)) (by omega)⟩
theorem impl_patched.calls (a b p : Int) (A1 : Option Addr) (c1 : Nat) (d1 : List Int) (a2 b2 p2 : Int) (A2 : Option Addr) (c2 : Nat) (d2 : List Int) (A3 : Option Addr) (c3 : Nat) (l : List S60) (r1 r2 r3 : Int) (r4 : List Int) (w : World) (hr1 : Kd.C (Kd.int .i64) w A1 d1.length d1) (hc1 : d1.length ≤ c1) (hr2 : Kd.C (Kd.int .i64) w A2 d2.length d2) (hc2 : d2.length ≤ c2) (hr3 : Kd.C k60 w A3 l.length l) (hc3 : l.length ≤ c3) (h : impl_patched.f a b p d1 a2 b2 p2 d2 l = some (r1, r2, r3, r4)) :
  Calls Try.prog 85 #[.agg #[.int .i64 a, .int .i64 b, .int .i64 p, .slice A1 d1.length c1], .agg #[.int .i64 a2, .int .i64 b2, .int .i64 p2, .slice A2 d2.length c2], .slice A3 l.length c3] w fun e w' => ∃ v3_ : Value, e = .returned (.agg #[.int .i64 r1, .int .i64 r2, .int .i64 r3, v3_]) ∧ Kd.R (Kd.int .i64) 3 w' w.heap.size (fun _ => True) v3_ r4 ∧ Below w.heap.size w w' := by
 unfold impl_patched.f at h
 by_cases hc : validI a b p d1 = true ∧ validI a b p d2 = true ∧ a2 = a ∧ b2 = b ∧ p2 = p ∧ l.all (onB a b) = true
 ·rw [if_pos hc] at h
  obtain ⟨hv1, hv2, rfl, rfl, rfl, hl⟩ := hc
  obtain ⟨rfl, rfl, rfl, rfl⟩ : a2 = r1 ∧ b2 = r2 ∧ p2 = r3 ∧ patchD a2 p2 d2 l d1 = r4 := by simpa using h
  exact patched_go a2 b2 p2 A1 A2 A3 c1 c2 c3 d1 d2 l hv1 hv2 (List.all_eq_true.1 hl) hc1 hc2 w hr1 hr2 hr3
 rw [if_neg hc] at h; cases h
end Go.Proofs.Ytbgohbinonkhfaa.Q
