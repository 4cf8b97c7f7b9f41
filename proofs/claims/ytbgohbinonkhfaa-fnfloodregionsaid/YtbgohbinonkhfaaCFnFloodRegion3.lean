/- A part of the proof that the statement FnFloodRegionSaid holds, under no condition of its own: Floods reach similar pixels: the law FnFloodRegion over lists of numbers alone. -/
import Derived.Test.YtbgohbinonkhfaaCFnFloodRegion2
import Derived.Test.YtbgohbinonkhfaaCFnFloodRegion1
import Derived.OrdersHeld
import Derived.Deep.RegionHeld
import Derived.RegionTactic
/- (impl.grid).part: the pixels of a grid that are connected with one of its pixels. -/
namespace Go.Proofs.Ytbgohbinonkhfaa.Q
open Go.RowKit Go.Proofs.YtbgohbinonkhfaaW.PrintWords Go.Proofs.YtbgohbinonkhfaaW.PrintLast Go.Proofs.YtbgohbinonkhfaaW.PrintMore
attribute [local go_sem] max2_int min2_int max_two min_two max_three min_three max_four min_four
set_option linter.unusedVariables false
set_option linter.unusedSimpArgs false

def posI (q : Int × Int) : Nat := q.2.toNat * 16 + q.1.toNat
def kQ : Kd (Int × Int) := Kd.pair (Kd.int .i64) (Kd.int .i64)
def lenOf : Value → Nat
  | .slice _ n _ => n
  | _ => 0
def outOf (W : World) (B : Nat) (p : Nat) : Bool := match W.cell? ⟨B, p, none⟩ with
  | some (.bool b) => b
  | _ => false
theorem unseen_congr {o o' : Nat → Bool} (h : ∀ p, p < 256 → o p = o' p) : unseen o = unseen o' := by
  unfold unseen
  exact List.countP_congr (fun p hp => by rw [h p (by simpa using hp)])
theorem unseen_out {W : World} {B : Nat} {o : Nat → Bool} (h : GridAt W B o) : unseen (outOf W B) = unseen o := unseen_congr (fun p hp => by unfold outOf; rw [h.cell p hp])
theorem infoQ : (Try.prog.info? 102).map (fun i => (i.zero, i.size, i.bytes)) = some (some (.agg #[.int .i64 0, .int .i64 0]), 2, 16) := by kernel_rfl
theorem kQ_M (W : World) (base : Nat) (ok : Nat → Prop) (a b : Int) : kQ.M W base ok (a, b) [.int .i64 a, .int .i64 b] := ⟨[.int .i64 a], [.int .i64 b], rfl, rfl, rfl⟩
theorem yieldsP_grid {ops : Array Oper} {S : World → Prop} {op : Oper} {a : Act} (hw : Region.wanted op (yielded ops a.tmps) = true) (x : Operand) (ho : op.op = .load 75 x)
    (B : Nat) (hx : a.eval x = .pointer (some ⟨B, 0, none⟩)) (g : Nat → Bool) (hS : ∀ w, S w → GridAt w B g) : YieldsIf Try.prog ops S op (.agg (gc g)) a :=
  .inl ⟨hw, fun w hw' => by
    unfold execOp
    simp only [ho, hx, Instr.loadAt, Instr.sureAddr, Sem.run_bind, Sem.run_pure, Result.andThen_ok, run_loadVar_row w B 75 75 (gc g) (0, 0) (.array 16 73) (hS w hw') underlying66 rfl (by rw [gc_size]; exact info66)]⟩
theorem yieldsP_int {ops : Array Oper} {S : World → Prop} {op : Oper} {a : Act} (hw : Region.wanted op (yielded ops a.tmps) = true) (x : Operand) (ho : op.op = .load 3 x)
    (ad : Addr) (hx : a.eval x = .pointer (some ad)) (v : Int) (hS : ∀ w, S w → w.cell? ad = some (.int .i64 v)) : YieldsIf Try.prog ops S op (.int .i64 v) a :=
  .inl ⟨hw, fun w hw' => by
    have h := hS w hw'
    unfold execOp
    simp only [ho, hx]
    go_simp⟩
theorem yieldsP_bool {ops : Array Oper} {S : World → Prop} {op : Oper} {a : Act} (hw : Region.wanted op (yielded ops a.tmps) = true) (x : Operand) (ho : op.op = .load 4 x)
    (ad : Addr) (hx : a.eval x = .pointer (some ad)) (v : Bool) (hS : ∀ w, S w → w.cell? ad = some (.bool v)) : YieldsIf Try.prog ops S op (.bool v) a :=
  .inl ⟨hw, fun w hw' => by
    have h := hS w hw'
    unfold execOp
    simp only [ho, hx]
    go_simp⟩
theorem setRow_keepP {W : World} {k g : Nat} {o : Obj} (h : W.heap[k]? = some o) (cs : Array Value) (hk : k ≠ g) : (W.setRow g cs).heap[k]? = some o := (setRow_other W g k cs hk).trans h
def nbList (F : Nat → Int × Int) : List (Int × Int) := [F 0, F 1, F 2, F 3]
theorem nbList_drop (F : Nat → Int × Int) (i : Nat) (h : i < 4) : (nbList F).drop i = ((F i).1, (F i).2) :: (nbList F).drop (i + 1) := by
  obtain rfl | rfl | rfl | rfl : i = 0 ∨ i = 1 ∨ i = 2 ∨ i = 3 := by omega
  all_goals rfl
theorem nb_mem (x y : Int) (p r : Nat) (hx : x = ((p % 16 : Nat) : Int)) (hy : y = ((p / 16 : Nat) : Int)) (hp : p < 256) (hr : r < 256) (ha : Adj p r) : (((r % 16 : Nat) : Int), ((r / 16 : Nat) : Int)) ∈ nbList (nbI x y) := by
  have := adj_nb p r hp hr ha
  subst hx hy
  unfold nbList nbI
  simp only [List.mem_cons, Prod.mk.injEq]
  rcases this with h | h | h | h
  · exact .inl h
  · exact .inr (.inl h)
  · exact .inr (.inr (.inl h))
  · exact .inr (.inr (.inr (.inl h)))
theorem nb_near (x y : Int) (p i : Nat) (hx : x = ((p % 16 : Nat) : Int)) (hy : y = ((p / 16 : Nat) : Int)) (hp : p < 256) (hi : i < 4) (h0 : 0 ≤ (nbI x y i).1) (h1 : (nbI x y i).1 < 16) (h2 : 0 ≤ (nbI x y i).2) (h3 : (nbI x y i).2 < 16) :
    Adj p ((nbI x y i).2.toNat * 16 + (nbI x y i).1.toNat) := by
  subst hx hy
  refine nb_adj p hp _ _ h0 h1 h2 h3 ?_
  obtain rfl | rfl | rfl | rfl : i = 0 ∨ i = 1 ∨ i = 2 ∨ i = 3 := by omega
  · exact .inl ⟨rfl, rfl⟩
  · exact .inr (.inl ⟨rfl, rfl⟩)
  · exact .inr (.inr (.inl ⟨rfl, rfl⟩))
  · exact .inr (.inr (.inr ⟨rfl, rfl⟩))

set_option maxHeartbeats 1600000 in
set_option maxRecDepth 100000 in
theorem part_calls (g : Nat → Bool) (x y : Nat) (hx : x < 16) (hy : y < 16) (w : World) :
    Calls Try.prog 70 #[.agg (gc g), .int .i64 (x : Int), .int .i64 (y : Int)] w fun e w' => e = .returned (.agg (gc (comp g (y * 16 + x)))) ∧ Below w.heap.size w w' := by
  have z0 := zero66
  have HSZ := Aside0.mk (fun g g' : Nat → Bool => show (gc g).size = (gc g').size by rw [gc_size, gc_size])
  have HO := Aside0.mk (fun g : Nat → Bool => gc_one g)
  have HI := Aside0.mk (fun g : Nat → Bool => show (Try.prog.info? 75).map (·.size) = some (gc g).size by rw [gc_size]; exact info66)
  go_enter Try.func70, Try.ntmps70
  have hz2 : (((w.alloc (.cells (gc g) 75)).alloc (.cells (gc fun _ => false) 75)).alloc (.cells (gc fun _ => false) 75)).heap[w.heap.size + 2]? = some (.cells (gc fun _ => false) 75 (0, 0)) := by
    have h := GridAt.new ((w.alloc (.cells (gc g) 75)).alloc (.cells (gc fun _ => false) 75)) (fun _ => false)
    simp only [World.size_alloc] at h
    exact h
  have HZ1 := Aside0.mk (GridAt.alloc (GridAt.new (w.alloc (.cells (gc g) 75)) (fun _ => false)) (.cells (gc fun _ => false) 75))
  simp only [World.size_alloc] at HZ1
  have HZG := Aside0.mk (GridAt.alloc (GridAt.alloc (GridAt.new w g) (.cells (gc fun _ => false) 75)) (.cells (gc fun _ => false) 75))
  have HBa := Aside0.mk (below_alloc (below_alloc (below_alloc (Below.refl w.heap.size w) (.cells (gc g) 75)) (.cells (gc fun _ => false) 75)) (.cells (gc fun _ => false) 75))
  have HS := Aside0.mk (GridAt.setRow (g := fun _ => false) hz2 (fun _ => false))
  have hcc := HS.out.cell (y * 16 + x) (by omega)
  have hcf := HS.out.free (y * 16 + x)
  have HS2 := Aside0.mk (HS.out.set_ (y * 16 + x) true)
  have HS1 := Aside0.mk (blk_far (setRow_keepP HZ1.out (gc fun _ => false) (show w.heap.size + 1 ≠ w.heap.size + 2 by omega)) (show w.heap.size + 1 ≠ (⟨w.heap.size + 2, y * 16 + x, none⟩ : Addr).block by simp) (.bool true))
  have HSG := Aside0.mk (blk_far (setRow_keepP HZG.out (gc fun _ => false) (show w.heap.size ≠ w.heap.size + 2 by omega)) (show w.heap.size ≠ (⟨w.heap.size + 2, y * 16 + x, none⟩ : Addr).block by simp) (.bool true))
  have HBs := Aside0.mk (below_set (g := w.heap.size + 2) (j := y * 16 + x) (v := .bool true) (below_setRow (g := w.heap.size + 2) HBa.out (by omega) (gc fun _ => false)) (by omega))
  have HZ2 := Aside0.mk hz2
  clear hz2 HS HZ1 HZG HBa
  go_wp2_with (first
    | ((with_reducible refine wpList_store_row rfl 75 (.tmp 7) (.tmp 12) rfl (w.heap.size + 2) (gc fun _ => false) ?hx ?hy 75 (gc fun _ => false) HZ2.out (HI.out _) (HSZ.out _ _) (HO.out _) ?_); (case hx => rfl); (case hy => rfl))
    | ((with_reducible refine gate_dst (N := 20) rfl ?_); refine Kd.R_lit kQ w.heap.size 102 ?hg (N := 20) ?hd (xs := [((x : Int), (y : Int))]) (inner := [.int .i64 (x : Int), .int .i64 (y : Int)]) (ok := fun _ => True) (okp := fun _ => True) ?hr ?hp (fun _ hk => hk) trivial HBs.out HBs.out.size (by simp) ?_; (case hd => rfl); (case hg => rfl); (case hr => first | (go_simp; done) | (go_simp; rfl)); (case hp => exact Reps.snoc (Reps.none _ _) (kQ_M _ _ _ _ _) rfl); intro v20 W0 ho hb hg_ hnew_; have HQ0 := Aside0.mk (Kd.Q_of_R ho); have HB0 := Aside0.mk hb; have HG0 : Aside0 (GridAt W0 w.heap.size g) := Aside0.mk (blk_grown HSG.out hg_ (by simp)); have HZ0 : Aside0 (GridAt W0 (w.heap.size + 1) (fun _ => false)) := Aside0.mk (blk_grown HS1.out hg_ (by simp)); have HX0 := Aside0.mk (blk_grown HS2.out hg_ (by simp)); clear ho hb hg_ hnew_))
  have hinit : (fun p => if p = y * 16 + x then true else false) = fun q => decide (q = y * 16 + x) := by
    funext p
    by_cases e : p = y * 16 + x
    · rw [if_pos e, decide_eq_true e]
    · rw [if_neg e, decide_eq_false e]
  have HM0 := Aside0.mk (mid_init g (y * 16 + x) (by omega))
  rw [← hinit] at HM0
  have HU0 : unseen (fun p => if p = y * 16 + x then true else false) + 1 = 256 := by
    have h := unseen_set (fun _ => false) (y * 16 + x) (by omega) rfl
    have h2 : unseen (fun _ => false) = 256 := by simp [unseen]
    rw [h2] at h
    exact h
  clear hinit
  go_loopw [8] (fun v8 W => ∃ (out : Nat → Bool) (qs : List (Int × Int)) (p0 : Nat), Aside0 (kQ.Q 102 W w.heap.size (fun _ => True) v8 qs ∧ GridAt W w.heap.size g ∧ GridAt W (w.heap.size + 1) (fun _ => false) ∧ GridAt W (w.heap.size + 2) out ∧ Below w.heap.size w W) ∧ Aside0 (Mid g (y * 16 + x) out (qs.map posI) p0 [] ∧ (∀ q ∈ qs, 0 ≤ q.1 ∧ q.1 < 16 ∧ 0 ≤ q.2 ∧ q.2 < 16) ∧ qs.length + unseen out ≤ 256)) (fun v8 W => 2 * unseen (outOf W (w.heap.size + 2)) + lenOf v8)
  case atStart =>
    refine ⟨_, _, y * 16 + x, ⟨HQ0.out, HG0.out, HZ0.out, HX0.out, HB0.out⟩, ⟨HM0.out, ?_, ?_⟩⟩
    · intro q hq
      rw [List.mem_singleton] at hq
      subst hq
      simp only
      omega
    · simp only [List.length_singleton]; omega
  case round =>
    obtain ⟨out, qs, p0, HW, HM⟩ := hrel
    clear HM0 HU0 HQ0 HB0 HG0 HZ0 HX0 HBs HSG HS1 HS2 HZ2 hcc hcf
    obtain ⟨wo, rfl⟩ : ∃ wo : World, wo = wr := ⟨_, rfl⟩
    have HMS := Aside0.mk (unseen_out HW.out.2.2.2.1)
    obtain ⟨A, c, rfl, hcl, hC⟩ := Kd.Q_reads HW.out.1
    cases qs with
    | nil =>
      have hgo : wo.heap[w.heap.size + 2]? = some (.cells (gc out) 75 (0, 0)) := HW.out.2.2.2.1
      have hgz : wo.heap[w.heap.size + 1]? = some (.cells (gc fun _ => false) 75 (0, 0)) := HW.out.2.2.1
      have hend := mid_end (g := g) (s := y * 16 + x) (by omega) HM.out.1
      have HE := Aside0.mk (gc_congr hend)
      clear hend hC hcl
      go_wp2_with (first
        | ((with_reducible refine gate_dst (N := 64) rfl ?_); refine wpList_load_row rfl 75 (.tmp 7) rfl (w.heap.size + 2) rfl 75 (gc out) (0, 0) (.array 16 73) hgo underlying66 rfl (HI.out _) ?_)
        | ((with_reducible refine wpList_store_row rfl 75 (.tmp 6) (.tmp 64) rfl (w.heap.size + 1) (gc out) ?hx ?hy 75 (gc fun _ => false) hgz (HI.out _) (HSZ.out _ _) (HO.out _) ?_); (case hx => rfl); (case hy => rfl)))
      refine bodyPost_ret (results_cell_row rfl _ _ (w.heap.size + 1) 75 (gc out) (0, 0) (.array 16 73) rfl (GridAt.setRow (g := fun _ => false) hgz out) underlying66 rfl (HI.out _)) rfl ?_
      exact ⟨by rw [HE.out], below_setRow HW.out.2.2.2.2 (Nat.le_succ _) _⟩
    | cons q0 rest =>
      obtain ⟨x0, y0⟩ := q0
      have hr := HM.out.2.1 (x0, y0) (by simp)
      simp only at hr
      obtain ⟨x0, rfl⟩ := Int.eq_ofNat_of_zero_le hr.1
      obtain ⟨y0, rfl⟩ := Int.eq_ofNat_of_zero_le hr.2.2.1
      have hx0 : x0 < 16 := by omega
      have hy0 : y0 < 16 := by omega
      clear hr
      obtain ⟨ad, hA, hrd⟩ := hC.2.2 (by simp)
      subst hA
      obtain ⟨cs, hcs, ⟨c0, c1, hcc, hk0, hk1⟩, hat⟩ := hrd 0 ((x0 : Int), (y0 : Int)) rfl
      have hk0' : c0 = [.int .i64 (x0 : Int)] := hk0
      have hk1' : c1 = [.int .i64 (y0 : Int)] := hk1
      subst hk0' hk1' hcc
      have ha0 := hat 0 _ rfl
      have ha1 := hat 1 _ rfl
      clear hat hrd hC hk0 hk1 hcs
      have hb0 : wo.cell? ad = some (.int .i64 (x0 : Int)) := by
        have e : ad.add (0 * kQ.sz + 0) = ad := by show ad.add 0 = ad; simp [Addr.add]
        rw [e] at ha0; exact ha0
      have hb1 : wo.cell? ⟨ad.block, ad.off + 1, none⟩ = some (.int .i64 (y0 : Int)) := by
        have e : ad.add (0 * kQ.sz + 1) = ⟨ad.block, ad.off + 1, none⟩ := by
          show ad.add 1 = _
          have h := add_field ad 0 1 (by omega)
          rw [Nat.zero_add] at h
          rw [h]; simp [Addr.add]
        rw [e] at ha1; exact ha1
      have hb2 : wo.cell? (ad.add 1) = some (.int .i64 (y0 : Int)) := ha1
      clear ha0 ha1
      obtain ⟨i0, hi0, _, hsz0, _⟩ := info_parts infoQ
      have hcut := cut_from (P := Try.prog) 103 102 .i64 Try.underlying103 hi0 2 hsz0 (some ad) (((x0 : Int), (y0 : Int)) :: rest).length c 1 (by omega) (by simp; omega)
      have hdrop := Kd.Q_drop (k := 1) HW.out.1 (by simp)
      obtain ⟨A1, hA1⟩ : ∃ A1, A1 = (if c = 1 then (some ad : Option Addr) else (some ad : Option Addr).map (·.add (1 * 2))) := ⟨_, rfl⟩
      obtain ⟨c1, hc1⟩ : ∃ c1, c1 = c - 1 := ⟨_, rfl⟩
      rw [show (1 : Int).toNat = 1 from rfl, ← hA1, ← hc1] at hcut
      have hdrop' : kQ.Q 102 wo w.heap.size (fun _ => True) (.slice A1 ((((x0 : Int), (y0 : Int)) :: rest).length - 1) c1) rest := by
        rw [hA1, hc1]; exact hdrop
      have HQ1 := Aside0.mk hdrop'
      clear hdrop hdrop' hA1 hc1 hi0 hsz0
      have hl1 : (((x0 : Int), (y0 : Int)) :: rest).length - 1 = rest.length := by simp
      rw [hl1] at hcut HQ1
      have HN := Aside0.mk (neighbours_calls (x0 : Int) (y0 : Int) (by omega))
      obtain ⟨n, hn⟩ : ∃ n, n = (((x0 : Int), (y0 : Int)) :: rest).length := ⟨_, rfl⟩
      rw [← hn] at hcut hcl ⊢
      have hnr : n = rest.length + 1 := by rw [hn]; simp
      have hnp : decide ((0 : Int) < (n : Int)) = true := by simp; omega
      have hn0 : (0 : Int) < (n : Int) := by omega
      clear hl1 hn
      have HBN := Aside0.mk (below_alloc (Below.refl wo.heap.size wo) (.cells #[.int .i64 (x0 : Int), .int .i64 (y0 : Int)] 102))
      have HCUT := Aside0.mk hcut
      clear hcut
      go_wp2_with (first
        | ((with_reducible refine gate_dst (N := 28) rfl ?_); refine Kd.event_run (v := .slice A1 rest.length c1) (w1 := wo.alloc (.cells #[.int .i64 (x0 : Int), .int .i64 (y0 : Int)] 102)) rfl ?hr ?_; (case hr => (have hc_ := HCUT.out (wo.alloc (.cells #[.int .i64 (x0 : Int), .int .i64 (y0 : Int)] 102)); simp [execOp, Act.eval, Instr.sliceAt, Result.andThen, hc_])))
        | (go_at_call 98; refine (HN.out _).mono ?_; rintro e w1 ⟨rfl, hb1⟩; have HB1 := Aside0.mk (below_then HBN.out HBN.out.size hb1); clear hb1))
      have HW1 := Aside0.mk (show kQ.Q 102 w1 w.heap.size (fun _ => True) (.slice A1 rest.length c1) rest ∧ GridAt w1 w.heap.size g ∧ GridAt w1 (w.heap.size + 1) (fun _ => false) ∧ GridAt w1 (w.heap.size + 2) out ∧ Below w.heap.size w w1 from
        ⟨Kd.Q_below HQ1.out HB1.out, HW.out.2.1.below HB1.out, HW.out.2.2.1.below HB1.out, HW.out.2.2.2.1.below HB1.out, below_then HW.out.2.2.2.2 HW.out.2.2.2.2.size HB1.out⟩)
      have hpe : posI ((x0 : Int), (y0 : Int)) = y0 * 16 + x0 := by simp [posI]
      have hpx : (x0 : Int) = (((y0 * 16 + x0) % 16 : Nat) : Int) := by omega
      have hpy : (y0 : Int) = (((y0 * 16 + x0) / 16 : Nat) : Int) := by omega
      have HM1 := Aside0.mk (show Mid g (y * 16 + x) out (rest.map posI) (y0 * 16 + x0) (nbList (nbI (x0 : Int) (y0 : Int))) from
        mid_pop HM.out.1 (p := y0 * 16 + x0) (by rw [List.map_cons, hpe]; simp) (fun q hq => by rw [List.map_cons, hpe, List.mem_cons] at hq; exact hq) (fun q hq => by rw [List.map_cons]; exact List.mem_cons_of_mem _ hq)
          (fun r hr ha => nb_mem _ _ _ r hpx hpy (by omega) hr ha))
      have HNR := Aside0.mk (fun i (hi : i < 4) => nb_near (x0 : Int) (y0 : Int) (y0 * 16 + x0) i hpx hpy (by omega) hi)
      have HR1 := Aside0.mk (show (∀ q ∈ rest, 0 ≤ q.1 ∧ q.1 < 16 ∧ 0 ≤ q.2 ∧ q.2 < 16) ∧ rest.length + unseen out ≤ 256 from ⟨fun q hq => HM.out.2.1 q (List.mem_cons_of_mem _ hq), by have := HM.out.2.2; rw [List.length_cons] at this; omega⟩)
      clear hpe hpx hpy hb0 hb1 hb2 HQ1 HBN HCUT HN
      obtain ⟨U, hU⟩ : ∃ U, U = 2 * unseen out + n := ⟨_, rfl⟩
      have HUB := Aside0.mk (show 2 * unseen out + rest.length < U by omega)
      have HUE := Aside0.mk hU
      clear hU
      unfold nbv
      go_loopw [8, 34] (fun v8 v34 W => ∃ (out' : Nat → Bool) (qs' : List (Int × Int)) (i : Nat), v34 = .int .i64 i ∧ i ≤ 4 ∧ Aside0 (kQ.Q 102 W w.heap.size (fun _ => True) v8 qs' ∧ GridAt W w.heap.size g ∧ GridAt W (w.heap.size + 1) (fun _ => false) ∧ GridAt W (w.heap.size + 2) out' ∧ Below w.heap.size w W) ∧
        Aside0 (Mid g (y * 16 + x) out' (qs'.map posI) (y0 * 16 + x0) ((nbList (nbI (x0 : Int) (y0 : Int))).drop i) ∧ (∀ q ∈ qs', 0 ≤ q.1 ∧ q.1 < 16 ∧ 0 ≤ q.2 ∧ q.2 < 16) ∧ qs'.length + unseen out' ≤ 256 ∧ 2 * unseen out' + qs'.length < U)) (fun _ v34 _ => 4 - (intOf v34).toNat)
      case atStart => exact ⟨out, rest, 0, rfl, by omega, HW1, ⟨HM1.out, HR1.out.1, HR1.out.2, HUB.out⟩⟩
      case round =>
        obtain ⟨out', qs', i, rfl, hi, HV, HT⟩ := hrel
        clear HW1 HM1 HR1 HUB HB1
        obtain ⟨wi, rfl⟩ : ∃ wi : World, wi = wr := ⟨_, rfl⟩
        by_cases h4 : i < 4
        · have hd : decide ((i : Int) < 4) = true := by simp; omega
          have HNE := Aside0.mk (HNR.out i h4)
          have HDR := Aside0.mk (nbList_drop (nbI (x0 : Int) (y0 : Int)) i h4)
          obtain ⟨nx, hnx⟩ : ∃ z, z = (nbI (x0 : Int) (y0 : Int) i).1 := ⟨_, rfl⟩
          obtain ⟨ny, hny⟩ : ∃ z, z = (nbI (x0 : Int) (y0 : Int) i).2 := ⟨_, rfl⟩
          have HRUN := Aside0.mk hnx
          have HRUN2 := Aside0.mk hny
          rw [← hnx, ← hny] at HDR HNE
          clear hnx hny
          have HM2 := Aside0.mk (show Mid g (y * 16 + x) out' (qs'.map posI) (y0 * 16 + x0) ((nx, ny) :: (nbList (nbI (x0 : Int) (y0 : Int))).drop (i + 1)) from by have h := HT.out.1; rw [HDR.out] at h; exact h)
          have HBL := Aside0.mk (blk_new wi (.cells #[.int .i64 nx, .int .i64 ny] 102))
          have HGG := Aside0.mk (GridAt.alloc HV.out.2.1 (.cells #[.int .i64 nx, .int .i64 ny] 102))
          have HGO := Aside0.mk (GridAt.alloc HV.out.2.2.2.1 (.cells #[.int .i64 nx, .int .i64 ny] 102))
          cases hv : hasP g nx ny with
          | false =>
            have HSK := Aside0.mk (mid_skip HM2.out (.inl hv))
            go_wp2_with (first
              | ((with_reducible refine gate_dst (N := 36) rfl ?_); refine Kd.event_run (v := .agg #[.int .i64 nx, .int .i64 ny]) (w1 := wi) rfl ?hr ?_; (case hr => (rw [HRUN.out, HRUN2.out]; (obtain e | e | e | e : i = 0 ∨ i = 1 ∨ i = 2 ∨ i = 3 := by omega); all_goals (subst e; kernel_rfl)))))
            refine wp_region_held_drew (S := fun W => Aside0 (Below (wi.alloc (.cells #[.int .i64 nx, .int .i64 ny] 102)).heap.size (wi.alloc (.cells #[.int .i64 nx, .int .i64 ny] 102)) W)) (by kernel_rfl) ⟨below_drew (Below.refl _ _)⟩ (fun hH => ?_)
            obtain ⟨W3, hW3⟩ : ∃ W, W = (wi.alloc (.cells #[.int .i64 nx, .int .i64 ny] 102)).drew := ⟨_, rfl⟩
            rw [← hW3] at hH ⊢
            clear hW3
            refine wpAnyH_take (i := 0) rfl (by kernel_rfl) (by kernel_rfl) (by kernel_rfl) (fun _ _ _ h => h) (yieldsP_grid (by kernel_rfl) _ rfl w.heap.size rfl g (fun W hW => GridAt.below HGG.out hW.out)) hH ?_
            simp only [Act.put, List.setIfInBounds_toArray, List.set_cons_zero, List.set_cons_succ, List.getElem_toArray, List.getElem_cons_zero, List.getElem_cons_succ]
            refine wpAnyH_take (i := 1) (v := .pointer (some ⟨wi.heap.size, 0, none⟩)) rfl (by kernel_rfl) (by kernel_rfl) (by kernel_rfl) (fun _ _ _ h => h) (.inl ⟨by kernel_rfl, fun W hW => by first | (go_simp; done) | (go_simp; intro h_; omega)⟩) hH ?_
            simp only [Act.put, List.setIfInBounds_toArray, List.set_cons_zero, List.set_cons_succ, List.getElem_toArray, List.getElem_cons_zero, List.getElem_cons_succ]
            refine wpAnyH_take (i := 2) rfl (by kernel_rfl) (by kernel_rfl) (by kernel_rfl) (fun _ _ _ h => h) (yieldsP_int (by kernel_rfl) _ rfl ⟨wi.heap.size, 0, none⟩ rfl nx (fun W hW => (blk_cell (blk_below HBL.out hW.out) 0).trans rfl)) hH ?_
            simp only [Act.put, List.setIfInBounds_toArray, List.set_cons_zero, List.set_cons_succ, List.getElem_toArray, List.getElem_cons_zero, List.getElem_cons_succ]
            refine wpAnyH_take (i := 3) (v := .pointer (some ⟨wi.heap.size, 1, none⟩)) rfl (by kernel_rfl) (by kernel_rfl) (by kernel_rfl) (fun _ _ _ h => h) (.inl ⟨by kernel_rfl, fun W hW => by first | (go_simp; done) | (go_simp; intro h_; omega)⟩) hH ?_
            simp only [Act.put, List.setIfInBounds_toArray, List.set_cons_zero, List.set_cons_succ, List.getElem_toArray, List.getElem_cons_zero, List.getElem_cons_succ]
            refine wpAnyH_take (i := 4) rfl (by kernel_rfl) (by kernel_rfl) (by kernel_rfl) (fun _ _ _ h => h) (yieldsP_int (by kernel_rfl) _ rfl ⟨wi.heap.size, 1, none⟩ rfl ny (fun W hW => (blk_cell (blk_below HBL.out hW.out) 1).trans rfl)) hH ?_
            simp only [Act.put, List.setIfInBounds_toArray, List.set_cons_zero, List.set_cons_succ, List.getElem_toArray, List.getElem_cons_zero, List.getElem_cons_succ]
            refine wpAnyH_ready (rs := [5]) (by kernel_rfl) (by simp) ?_
            refine AllReadyH.cons (i := 5) rfl ?_ AllReadyH.nil
            intro K hK
            rw [if_pos (by rfl)]
            go_simp
            go_wp2_with (first | (go_at_call 58; refine (has_calls _ _ _ _).mono ?_; rintro e W4 ⟨rfl, hb⟩))
            refine hK.out _ _ ⟨below_then hH.out hH.out.size hb⟩ (fun hH1 => ?_)
            clear hK K hb hH
            have hH := hH1
            clear hH1
            try rw [hv]
            try simp only [Act.put, List.setIfInBounds_toArray, List.set_cons_zero, List.set_cons_succ, List.getElem_toArray, List.getElem_cons_zero, List.getElem_cons_succ]
            refine wpAnyH_take (i := 6) (v := .bool false) rfl (by kernel_rfl) (by kernel_rfl) (by kernel_rfl) (fun _ _ _ h => h) (.inl ⟨by kernel_rfl, fun W hW => by first | (go_simp; done) | (go_simp; intro h_; omega)⟩) hH ?_
            simp only [Act.put, List.setIfInBounds_toArray, List.set_cons_zero, List.set_cons_succ, List.getElem_toArray, List.getElem_cons_zero, List.getElem_cons_succ]
            refine wpAnyH_take (i := 7) (v := undef) rfl (by kernel_rfl) (by kernel_rfl) (by kernel_rfl) (fun _ _ _ h => h) (.inr ⟨by kernel_rfl, rfl⟩) hH ?_
            simp only [Act.put, List.setIfInBounds_toArray, List.set_cons_zero, List.set_cons_succ, List.getElem_toArray, List.getElem_cons_zero, List.getElem_cons_succ]
            refine wpAnyH_take (i := 8) (v := undef) rfl (by kernel_rfl) (by kernel_rfl) (by kernel_rfl) (fun _ _ _ h => h) (.inr ⟨by kernel_rfl, rfl⟩) hH ?_
            simp only [Act.put, List.setIfInBounds_toArray, List.set_cons_zero, List.set_cons_succ, List.getElem_toArray, List.getElem_cons_zero, List.getElem_cons_succ]
            refine wpAnyH_take (i := 9) (v := undef) rfl (by kernel_rfl) (by kernel_rfl) (by kernel_rfl) (fun _ _ _ h => h) (.inr ⟨by kernel_rfl, rfl⟩) hH ?_
            simp only [Act.put, List.setIfInBounds_toArray, List.set_cons_zero, List.set_cons_succ, List.getElem_toArray, List.getElem_cons_zero, List.getElem_cons_succ]
            refine wpAnyH_take (i := 10) (v := undef) rfl (by kernel_rfl) (by kernel_rfl) (by kernel_rfl) (fun _ _ _ h => h) (.inr ⟨by kernel_rfl, rfl⟩) hH ?_
            simp only [Act.put, List.setIfInBounds_toArray, List.set_cons_zero, List.set_cons_succ, List.getElem_toArray, List.getElem_cons_zero, List.getElem_cons_succ]
            refine wpAnyH_take (i := 11) (v := undef) rfl (by kernel_rfl) (by kernel_rfl) (by kernel_rfl) (fun _ _ _ h => h) (.inr ⟨by kernel_rfl, rfl⟩) hH ?_
            simp only [Act.put, List.setIfInBounds_toArray, List.set_cons_zero, List.set_cons_succ, List.getElem_toArray, List.getElem_cons_zero, List.getElem_cons_succ]
            refine wpAnyH_take (i := 12) (v := undef) rfl (by kernel_rfl) (by kernel_rfl) (by kernel_rfl) (fun _ _ _ h => h) (.inr ⟨by kernel_rfl, rfl⟩) hH ?_
            simp only [Act.put, List.setIfInBounds_toArray, List.set_cons_zero, List.set_cons_succ, List.getElem_toArray, List.getElem_cons_zero, List.getElem_cons_succ]
            refine wpAnyH_take (i := 13) (v := undef) rfl (by kernel_rfl) (by kernel_rfl) (by kernel_rfl) (fun _ _ _ h => h) (.inr ⟨by kernel_rfl, rfl⟩) hH ?_
            simp only [Act.put, List.setIfInBounds_toArray, List.set_cons_zero, List.set_cons_succ, List.getElem_toArray, List.getElem_cons_zero, List.getElem_cons_succ]
            refine wpAnyH_take (i := 14) (v := undef) rfl (by kernel_rfl) (by kernel_rfl) (by kernel_rfl) (fun _ _ _ h => h) (.inr ⟨by kernel_rfl, rfl⟩) hH ?_
            simp only [Act.put, List.setIfInBounds_toArray, List.set_cons_zero, List.set_cons_succ, List.getElem_toArray, List.getElem_cons_zero, List.getElem_cons_succ]
            refine wpAnyH_take (i := 15) (v := .bool false) rfl (by kernel_rfl) (by kernel_rfl) (by kernel_rfl) (fun _ _ _ h => h) (.inl ⟨by kernel_rfl, fun W hW => by first | (go_simp; done) | (go_simp; intro h_; omega)⟩) hH ?_
            simp only [Act.put, List.setIfInBounds_toArray, List.set_cons_zero, List.set_cons_succ, List.getElem_toArray, List.getElem_cons_zero, List.getElem_cons_succ]
            refine wpAnyH_done (by kernel_rfl) ?_ _
            go_wp2
            go_roundw
            case rel => exact ⟨out', qs', i + 1, by go_num, by omega, ⟨Kd.Q_below (Kd.Q_alloc HV.out.1 _) hH.out, (HV.out.2.1.alloc _).below hH.out, (HV.out.2.2.1.alloc _).below hH.out, (HV.out.2.2.2.1.alloc _).below hH.out, below_then (below_alloc HV.out.2.2.2.2 _) (below_alloc HV.out.2.2.2.2 _).size hH.out⟩, ⟨HSK.out, HT.out.2.1, HT.out.2.2.1, HT.out.2.2.2⟩⟩
            case measure => simp [intOf]; omega
          | true =>
            have hq := (hasP_iff g nx ny).1 hv
            obtain ⟨mx_, rfl⟩ := Int.eq_ofNat_of_zero_le hq.1
            obtain ⟨my, rfl⟩ := Int.eq_ofNat_of_zero_le hq.2.2.1
            have hmx : mx_ < 16 := by omega
            have hmy : my < 16 := by omega
            have HAD := Aside0.mk (HNE.out (by omega) (by omega) (by omega) (by omega))
            rw [Int.toNat_natCast, Int.toNat_natCast] at HAD
            clear hq
            cases ho : out' (my * 16 + mx_) with
            | true =>
              have HSK := Aside0.mk (mid_skip HM2.out (.inr (by rw [Int.toNat_natCast, Int.toNat_natCast]; exact ho)))
              go_wp2_with (first
                | ((with_reducible refine gate_dst (N := 36) rfl ?_); refine Kd.event_run (v := .agg #[.int .i64 (mx_ : Int), .int .i64 (my : Int)]) (w1 := wi) rfl ?hr ?_; (case hr => (rw [HRUN.out, HRUN2.out]; (obtain e | e | e | e : i = 0 ∨ i = 1 ∨ i = 2 ∨ i = 3 := by omega); all_goals (subst e; kernel_rfl)))))
              refine wp_region_held_drew (S := fun W => Aside0 (Below (wi.alloc (.cells #[.int .i64 (mx_ : Int), .int .i64 (my : Int)] 102)).heap.size (wi.alloc (.cells #[.int .i64 (mx_ : Int), .int .i64 (my : Int)] 102)) W)) (by kernel_rfl) ⟨below_drew (Below.refl _ _)⟩ (fun hH => ?_)
              obtain ⟨W3, hW3⟩ : ∃ W, W = (wi.alloc (.cells #[.int .i64 (mx_ : Int), .int .i64 (my : Int)] 102)).drew := ⟨_, rfl⟩
              rw [← hW3] at hH ⊢
              clear hW3
              refine wpAnyH_take (i := 0) rfl (by kernel_rfl) (by kernel_rfl) (by kernel_rfl) (fun _ _ _ h => h) (yieldsP_grid (by kernel_rfl) _ rfl w.heap.size rfl g (fun W hW => GridAt.below HGG.out hW.out)) hH ?_
              simp only [Act.put, List.setIfInBounds_toArray, List.set_cons_zero, List.set_cons_succ, List.getElem_toArray, List.getElem_cons_zero, List.getElem_cons_succ]
              refine wpAnyH_take (i := 1) (v := .pointer (some ⟨wi.heap.size, 0, none⟩)) rfl (by kernel_rfl) (by kernel_rfl) (by kernel_rfl) (fun _ _ _ h => h) (.inl ⟨by kernel_rfl, fun W hW => by first | (go_simp; done) | (go_simp; intro h_; omega)⟩) hH ?_
              simp only [Act.put, List.setIfInBounds_toArray, List.set_cons_zero, List.set_cons_succ, List.getElem_toArray, List.getElem_cons_zero, List.getElem_cons_succ]
              refine wpAnyH_take (i := 2) rfl (by kernel_rfl) (by kernel_rfl) (by kernel_rfl) (fun _ _ _ h => h) (yieldsP_int (by kernel_rfl) _ rfl ⟨wi.heap.size, 0, none⟩ rfl (mx_ : Int) (fun W hW => (blk_cell (blk_below HBL.out hW.out) 0).trans rfl)) hH ?_
              simp only [Act.put, List.setIfInBounds_toArray, List.set_cons_zero, List.set_cons_succ, List.getElem_toArray, List.getElem_cons_zero, List.getElem_cons_succ]
              refine wpAnyH_take (i := 3) (v := .pointer (some ⟨wi.heap.size, 1, none⟩)) rfl (by kernel_rfl) (by kernel_rfl) (by kernel_rfl) (fun _ _ _ h => h) (.inl ⟨by kernel_rfl, fun W hW => by first | (go_simp; done) | (go_simp; intro h_; omega)⟩) hH ?_
              simp only [Act.put, List.setIfInBounds_toArray, List.set_cons_zero, List.set_cons_succ, List.getElem_toArray, List.getElem_cons_zero, List.getElem_cons_succ]
              refine wpAnyH_take (i := 4) rfl (by kernel_rfl) (by kernel_rfl) (by kernel_rfl) (fun _ _ _ h => h) (yieldsP_int (by kernel_rfl) _ rfl ⟨wi.heap.size, 1, none⟩ rfl (my : Int) (fun W hW => (blk_cell (blk_below HBL.out hW.out) 1).trans rfl)) hH ?_
              simp only [Act.put, List.setIfInBounds_toArray, List.set_cons_zero, List.set_cons_succ, List.getElem_toArray, List.getElem_cons_zero, List.getElem_cons_succ]
              refine wpAnyH_ready (rs := [5]) (by kernel_rfl) (by simp) ?_
              refine AllReadyH.cons (i := 5) rfl ?_ AllReadyH.nil
              intro K hK
              rw [if_pos (by rfl)]
              go_simp
              go_wp2_with (first | (go_at_call 58; refine (has_calls _ _ _ _).mono ?_; rintro e W4 ⟨rfl, hb⟩))
              refine hK.out _ _ ⟨below_then hH.out hH.out.size hb⟩ (fun hH1 => ?_)
              clear hK K hb hH
              have hH := hH1
              clear hH1
              try rw [hv]
              try simp only [Act.put, List.setIfInBounds_toArray, List.set_cons_zero, List.set_cons_succ, List.getElem_toArray, List.getElem_cons_zero, List.getElem_cons_succ]
              refine wpAnyH_take (i := 6) (v := .bool true) rfl (by kernel_rfl) (by kernel_rfl) (by kernel_rfl) (fun _ _ _ h => h) (.inl ⟨by kernel_rfl, fun W hW => by first | (go_simp; done) | (go_simp; intro h_; omega)⟩) hH ?_
              simp only [Act.put, List.setIfInBounds_toArray, List.set_cons_zero, List.set_cons_succ, List.getElem_toArray, List.getElem_cons_zero, List.getElem_cons_succ]
              refine wpAnyH_take (i := 7) (v := .pointer (some ⟨wi.heap.size, 1, none⟩)) rfl (by kernel_rfl) (by kernel_rfl) (by kernel_rfl) (fun _ _ _ h => h) (.inl ⟨by kernel_rfl, fun W hW => by first | (go_simp; done) | (go_simp; intro h_; omega)⟩) hH ?_
              simp only [Act.put, List.setIfInBounds_toArray, List.set_cons_zero, List.set_cons_succ, List.getElem_toArray, List.getElem_cons_zero, List.getElem_cons_succ]
              refine wpAnyH_take (i := 8) rfl (by kernel_rfl) (by kernel_rfl) (by kernel_rfl) (fun _ _ _ h => h) (yieldsP_int (by kernel_rfl) _ rfl ⟨wi.heap.size, 1, none⟩ rfl (my : Int) (fun W hW => (blk_cell (blk_below HBL.out hW.out) 1).trans rfl)) hH ?_
              simp only [Act.put, List.setIfInBounds_toArray, List.set_cons_zero, List.set_cons_succ, List.getElem_toArray, List.getElem_cons_zero, List.getElem_cons_succ]
              refine wpAnyH_take (i := 9) (v := .pointer (some ⟨wi.heap.size, 0, none⟩)) rfl (by kernel_rfl) (by kernel_rfl) (by kernel_rfl) (fun _ _ _ h => h) (.inl ⟨by kernel_rfl, fun W hW => by first | (go_simp; done) | (go_simp; intro h_; omega)⟩) hH ?_
              simp only [Act.put, List.setIfInBounds_toArray, List.set_cons_zero, List.set_cons_succ, List.getElem_toArray, List.getElem_cons_zero, List.getElem_cons_succ]
              refine wpAnyH_take (i := 10) rfl (by kernel_rfl) (by kernel_rfl) (by kernel_rfl) (fun _ _ _ h => h) (yieldsP_int (by kernel_rfl) _ rfl ⟨wi.heap.size, 0, none⟩ rfl (mx_ : Int) (fun W hW => (blk_cell (blk_below HBL.out hW.out) 0).trans rfl)) hH ?_
              simp only [Act.put, List.setIfInBounds_toArray, List.set_cons_zero, List.set_cons_succ, List.getElem_toArray, List.getElem_cons_zero, List.getElem_cons_succ]
              refine wpAnyH_take (i := 11) (v := .pointer (some ⟨w.heap.size + 1 + 1, my * 16, none⟩)) rfl (by kernel_rfl) (by kernel_rfl) (by kernel_rfl) (fun _ _ _ h => h) (.inl ⟨by kernel_rfl, fun W hW => by first | (go_simp; done) | (go_simp; intro h_; omega)⟩) hH ?_
              simp only [Act.put, List.setIfInBounds_toArray, List.set_cons_zero, List.set_cons_succ, List.getElem_toArray, List.getElem_cons_zero, List.getElem_cons_succ]
              refine wpAnyH_take (i := 12) (v := .pointer (some ⟨w.heap.size + 1 + 1, my * 16 + mx_, none⟩)) rfl (by kernel_rfl) (by kernel_rfl) (by kernel_rfl) (fun _ _ _ h => h) (.inl ⟨by kernel_rfl, fun W hW => by first | (go_simp; done) | (go_simp; intro h_; omega)⟩) hH ?_
              simp only [Act.put, List.setIfInBounds_toArray, List.set_cons_zero, List.set_cons_succ, List.getElem_toArray, List.getElem_cons_zero, List.getElem_cons_succ]
              refine wpAnyH_take (i := 13) rfl (by kernel_rfl) (by kernel_rfl) (by kernel_rfl) (fun _ _ _ h => h) (yieldsP_bool (by kernel_rfl) _ rfl ⟨w.heap.size + 1 + 1, my * 16 + mx_, none⟩ rfl true (fun W hW => (GridAt.cell (GridAt.below HGO.out hW.out) (my * 16 + mx_) (by omega)).trans (by rw [ho]))) hH ?_
              simp only [Act.put, List.setIfInBounds_toArray, List.set_cons_zero, List.set_cons_succ, List.getElem_toArray, List.getElem_cons_zero, List.getElem_cons_succ]
              refine wpAnyH_take (i := 14) (v := .bool (!true)) rfl (by kernel_rfl) (by kernel_rfl) (by kernel_rfl) (fun _ _ _ h => h) (.inl ⟨by kernel_rfl, fun W hW => by first | (go_simp; done) | (go_simp; intro h_; omega)⟩) hH ?_
              simp only [Act.put, List.setIfInBounds_toArray, List.set_cons_zero, List.set_cons_succ, List.getElem_toArray, List.getElem_cons_zero, List.getElem_cons_succ]
              refine wpAnyH_take (i := 15) (v := .bool (!true)) rfl (by kernel_rfl) (by kernel_rfl) (by kernel_rfl) (fun _ _ _ h => h) (.inl ⟨by kernel_rfl, fun W hW => by first | (go_simp; done) | (go_simp; intro h_; omega)⟩) hH ?_
              simp only [Act.put, List.setIfInBounds_toArray, List.set_cons_zero, List.set_cons_succ, List.getElem_toArray, List.getElem_cons_zero, List.getElem_cons_succ]
              refine wpAnyH_done (by kernel_rfl) ?_ _
              go_wp2
              go_roundw
              case rel => exact ⟨out', qs', i + 1, by go_num, by omega, ⟨Kd.Q_below (Kd.Q_alloc HV.out.1 _) hH.out, (HV.out.2.1.alloc _).below hH.out, (HV.out.2.2.1.alloc _).below hH.out, (HV.out.2.2.2.1.alloc _).below hH.out, below_then (below_alloc HV.out.2.2.2.2 _) (below_alloc HV.out.2.2.2.2 _).size hH.out⟩, ⟨HSK.out, HT.out.2.1, HT.out.2.2.1, HT.out.2.2.2⟩⟩
              case measure => simp [intOf]; omega
            | false =>
              go_wp2_with (first
                | ((with_reducible refine gate_dst (N := 36) rfl ?_); refine Kd.event_run (v := .agg #[.int .i64 (mx_ : Int), .int .i64 (my : Int)]) (w1 := wi) rfl ?hr ?_; (case hr => (rw [HRUN.out, HRUN2.out]; (obtain e | e | e | e : i = 0 ∨ i = 1 ∨ i = 2 ∨ i = 3 := by omega); all_goals (subst e; kernel_rfl)))))
              refine wp_region_held_drew (S := fun W => Aside0 (Below (wi.alloc (.cells #[.int .i64 (mx_ : Int), .int .i64 (my : Int)] 102)).heap.size (wi.alloc (.cells #[.int .i64 (mx_ : Int), .int .i64 (my : Int)] 102)) W)) (by kernel_rfl) ⟨below_drew (Below.refl _ _)⟩ (fun hH => ?_)
              obtain ⟨W3, hW3⟩ : ∃ W, W = (wi.alloc (.cells #[.int .i64 (mx_ : Int), .int .i64 (my : Int)] 102)).drew := ⟨_, rfl⟩
              rw [← hW3] at hH ⊢
              clear hW3
              refine wpAnyH_take (i := 0) rfl (by kernel_rfl) (by kernel_rfl) (by kernel_rfl) (fun _ _ _ h => h) (yieldsP_grid (by kernel_rfl) _ rfl w.heap.size rfl g (fun W hW => GridAt.below HGG.out hW.out)) hH ?_
              simp only [Act.put, List.setIfInBounds_toArray, List.set_cons_zero, List.set_cons_succ, List.getElem_toArray, List.getElem_cons_zero, List.getElem_cons_succ]
              refine wpAnyH_take (i := 1) (v := .pointer (some ⟨wi.heap.size, 0, none⟩)) rfl (by kernel_rfl) (by kernel_rfl) (by kernel_rfl) (fun _ _ _ h => h) (.inl ⟨by kernel_rfl, fun W hW => by first | (go_simp; done) | (go_simp; intro h_; omega)⟩) hH ?_
              simp only [Act.put, List.setIfInBounds_toArray, List.set_cons_zero, List.set_cons_succ, List.getElem_toArray, List.getElem_cons_zero, List.getElem_cons_succ]
              refine wpAnyH_take (i := 2) rfl (by kernel_rfl) (by kernel_rfl) (by kernel_rfl) (fun _ _ _ h => h) (yieldsP_int (by kernel_rfl) _ rfl ⟨wi.heap.size, 0, none⟩ rfl (mx_ : Int) (fun W hW => (blk_cell (blk_below HBL.out hW.out) 0).trans rfl)) hH ?_
              simp only [Act.put, List.setIfInBounds_toArray, List.set_cons_zero, List.set_cons_succ, List.getElem_toArray, List.getElem_cons_zero, List.getElem_cons_succ]
              refine wpAnyH_take (i := 3) (v := .pointer (some ⟨wi.heap.size, 1, none⟩)) rfl (by kernel_rfl) (by kernel_rfl) (by kernel_rfl) (fun _ _ _ h => h) (.inl ⟨by kernel_rfl, fun W hW => by first | (go_simp; done) | (go_simp; intro h_; omega)⟩) hH ?_
              simp only [Act.put, List.setIfInBounds_toArray, List.set_cons_zero, List.set_cons_succ, List.getElem_toArray, List.getElem_cons_zero, List.getElem_cons_succ]
              refine wpAnyH_take (i := 4) rfl (by kernel_rfl) (by kernel_rfl) (by kernel_rfl) (fun _ _ _ h => h) (yieldsP_int (by kernel_rfl) _ rfl ⟨wi.heap.size, 1, none⟩ rfl (my : Int) (fun W hW => (blk_cell (blk_below HBL.out hW.out) 1).trans rfl)) hH ?_
              simp only [Act.put, List.setIfInBounds_toArray, List.set_cons_zero, List.set_cons_succ, List.getElem_toArray, List.getElem_cons_zero, List.getElem_cons_succ]
              refine wpAnyH_ready (rs := [5]) (by kernel_rfl) (by simp) ?_
              refine AllReadyH.cons (i := 5) rfl ?_ AllReadyH.nil
              intro K hK
              rw [if_pos (by rfl)]
              go_simp
              go_wp2_with (first | (go_at_call 58; refine (has_calls _ _ _ _).mono ?_; rintro e W4 ⟨rfl, hb⟩))
              refine hK.out _ _ ⟨below_then hH.out hH.out.size hb⟩ (fun hH1 => ?_)
              clear hK K hb hH
              have hH := hH1
              clear hH1
              try rw [hv]
              try simp only [Act.put, List.setIfInBounds_toArray, List.set_cons_zero, List.set_cons_succ, List.getElem_toArray, List.getElem_cons_zero, List.getElem_cons_succ]
              refine wpAnyH_take (i := 6) (v := .bool true) rfl (by kernel_rfl) (by kernel_rfl) (by kernel_rfl) (fun _ _ _ h => h) (.inl ⟨by kernel_rfl, fun W hW => by first | (go_simp; done) | (go_simp; intro h_; omega)⟩) hH ?_
              simp only [Act.put, List.setIfInBounds_toArray, List.set_cons_zero, List.set_cons_succ, List.getElem_toArray, List.getElem_cons_zero, List.getElem_cons_succ]
              refine wpAnyH_take (i := 7) (v := .pointer (some ⟨wi.heap.size, 1, none⟩)) rfl (by kernel_rfl) (by kernel_rfl) (by kernel_rfl) (fun _ _ _ h => h) (.inl ⟨by kernel_rfl, fun W hW => by first | (go_simp; done) | (go_simp; intro h_; omega)⟩) hH ?_
              simp only [Act.put, List.setIfInBounds_toArray, List.set_cons_zero, List.set_cons_succ, List.getElem_toArray, List.getElem_cons_zero, List.getElem_cons_succ]
              refine wpAnyH_take (i := 8) rfl (by kernel_rfl) (by kernel_rfl) (by kernel_rfl) (fun _ _ _ h => h) (yieldsP_int (by kernel_rfl) _ rfl ⟨wi.heap.size, 1, none⟩ rfl (my : Int) (fun W hW => (blk_cell (blk_below HBL.out hW.out) 1).trans rfl)) hH ?_
              simp only [Act.put, List.setIfInBounds_toArray, List.set_cons_zero, List.set_cons_succ, List.getElem_toArray, List.getElem_cons_zero, List.getElem_cons_succ]
              refine wpAnyH_take (i := 9) (v := .pointer (some ⟨wi.heap.size, 0, none⟩)) rfl (by kernel_rfl) (by kernel_rfl) (by kernel_rfl) (fun _ _ _ h => h) (.inl ⟨by kernel_rfl, fun W hW => by first | (go_simp; done) | (go_simp; intro h_; omega)⟩) hH ?_
              simp only [Act.put, List.setIfInBounds_toArray, List.set_cons_zero, List.set_cons_succ, List.getElem_toArray, List.getElem_cons_zero, List.getElem_cons_succ]
              refine wpAnyH_take (i := 10) rfl (by kernel_rfl) (by kernel_rfl) (by kernel_rfl) (fun _ _ _ h => h) (yieldsP_int (by kernel_rfl) _ rfl ⟨wi.heap.size, 0, none⟩ rfl (mx_ : Int) (fun W hW => (blk_cell (blk_below HBL.out hW.out) 0).trans rfl)) hH ?_
              simp only [Act.put, List.setIfInBounds_toArray, List.set_cons_zero, List.set_cons_succ, List.getElem_toArray, List.getElem_cons_zero, List.getElem_cons_succ]
              refine wpAnyH_take (i := 11) (v := .pointer (some ⟨w.heap.size + 1 + 1, my * 16, none⟩)) rfl (by kernel_rfl) (by kernel_rfl) (by kernel_rfl) (fun _ _ _ h => h) (.inl ⟨by kernel_rfl, fun W hW => by first | (go_simp; done) | (go_simp; intro h_; omega)⟩) hH ?_
              simp only [Act.put, List.setIfInBounds_toArray, List.set_cons_zero, List.set_cons_succ, List.getElem_toArray, List.getElem_cons_zero, List.getElem_cons_succ]
              refine wpAnyH_take (i := 12) (v := .pointer (some ⟨w.heap.size + 1 + 1, my * 16 + mx_, none⟩)) rfl (by kernel_rfl) (by kernel_rfl) (by kernel_rfl) (fun _ _ _ h => h) (.inl ⟨by kernel_rfl, fun W hW => by first | (go_simp; done) | (go_simp; intro h_; omega)⟩) hH ?_
              simp only [Act.put, List.setIfInBounds_toArray, List.set_cons_zero, List.set_cons_succ, List.getElem_toArray, List.getElem_cons_zero, List.getElem_cons_succ]
              refine wpAnyH_take (i := 13) rfl (by kernel_rfl) (by kernel_rfl) (by kernel_rfl) (fun _ _ _ h => h) (yieldsP_bool (by kernel_rfl) _ rfl ⟨w.heap.size + 1 + 1, my * 16 + mx_, none⟩ rfl false (fun W hW => (GridAt.cell (GridAt.below HGO.out hW.out) (my * 16 + mx_) (by omega)).trans (by rw [ho]))) hH ?_
              simp only [Act.put, List.setIfInBounds_toArray, List.set_cons_zero, List.set_cons_succ, List.getElem_toArray, List.getElem_cons_zero, List.getElem_cons_succ]
              refine wpAnyH_take (i := 14) (v := .bool (!false)) rfl (by kernel_rfl) (by kernel_rfl) (by kernel_rfl) (fun _ _ _ h => h) (.inl ⟨by kernel_rfl, fun W hW => by first | (go_simp; done) | (go_simp; intro h_; omega)⟩) hH ?_
              simp only [Act.put, List.setIfInBounds_toArray, List.set_cons_zero, List.set_cons_succ, List.getElem_toArray, List.getElem_cons_zero, List.getElem_cons_succ]
              refine wpAnyH_take (i := 15) (v := .bool (!false)) rfl (by kernel_rfl) (by kernel_rfl) (by kernel_rfl) (fun _ _ _ h => h) (.inl ⟨by kernel_rfl, fun W hW => by first | (go_simp; done) | (go_simp; intro h_; omega)⟩) hH ?_
              simp only [Act.put, List.setIfInBounds_toArray, List.set_cons_zero, List.set_cons_succ, List.getElem_toArray, List.getElem_cons_zero, List.getElem_cons_succ]
              refine wpAnyH_done (by kernel_rfl) ?_ _
              go_upto_region 11 with (fail)
              have hq1 := (blk_cell (blk_below HBL.out hH.out) 0).trans (show (#[.int .i64 (mx_ : Int), .int .i64 (my : Int)] : Array Value)[0]? = some (.int .i64 (mx_ : Int)) from rfl)
              have hq2 := (blk_cell (blk_below HBL.out hH.out) 1).trans (show (#[.int .i64 (mx_ : Int), .int .i64 (my : Int)] : Array Value)[1]? = some (.int .i64 (my : Int)) from rfl)
              have HQ4 := Aside0.mk (Kd.Q_below (Kd.Q_alloc HV.out.1 (.cells #[.int .i64 (mx_ : Int), .int .i64 (my : Int)] 102)) hH.out)
              have HG4 := Aside0.mk (GridAt.below HGG.out hH.out)
              have HO4 := Aside0.mk (GridAt.below HGO.out hH.out)
              have HZ4 := Aside0.mk (GridAt.below (GridAt.alloc HV.out.2.2.1 (.cells #[.int .i64 (mx_ : Int), .int .i64 (my : Int)] 102)) hH.out)
              have HB4 := Aside0.mk (below_then (below_alloc HV.out.2.2.2.2 (.cells #[.int .i64 (mx_ : Int), .int .i64 (my : Int)] 102)) (below_alloc HV.out.2.2.2.2 _).size hH.out)
              have hwi : w.heap.size + 2 < wi.heap.size := GridAt.lt HV.out.2.2.2.1
              clear hH
              refine wp_region_held_drew (S := fun W => Aside0 (W.cell? ⟨wi.heap.size, 0, none⟩ = some (.int .i64 (mx_ : Int)) ∧ W.cell? ⟨wi.heap.size, 1, none⟩ = some (.int .i64 (my : Int)))) (by kernel_rfl) ⟨hq1, hq2⟩ (fun hH => ?_)
              obtain ⟨W5, hW5⟩ : ∃ W, W = W4.drew := ⟨_, rfl⟩
              rw [← hW5] at hH ⊢
              have HQ5 : Aside0 (kQ.Q 102 W5 w.heap.size (fun _ => True) u8 qs') := Aside0.mk (by rw [hW5]; exact Kd.Q_drew HQ4.out)
              have HG5 : Aside0 (W5.heap[w.heap.size]? = some (.cells (gc g) 75 (0, 0))) := Aside0.mk (by rw [hW5]; exact HG4.out)
              have HZ5 : Aside0 (W5.heap[w.heap.size + 1]? = some (.cells (gc fun _ => false) 75 (0, 0))) := Aside0.mk (by rw [hW5]; exact HZ4.out)
              have HO5 : Aside0 (GridAt W5 (w.heap.size + 2) out') := Aside0.mk (by rw [hW5]; exact HO4.out)
              have HB5 : Aside0 (Below w.heap.size w W5) := Aside0.mk (by rw [hW5]; exact below_drew HB4.out)
              clear hW5 hq1 hq2 HQ4 HG4 HZ4 HO4 HB4
              refine wpAnyH_take (i := 0) (v := .pointer (some ⟨wi.heap.size, 1, none⟩)) rfl (by kernel_rfl) (by kernel_rfl) (by kernel_rfl) (fun _ _ _ h => h) (.inl ⟨by kernel_rfl, fun W hW => by first | (go_simp; done) | (go_simp; intro h_; omega)⟩) hH ?_
              simp only [Act.put, List.setIfInBounds_toArray, List.set_cons_zero, List.set_cons_succ, List.getElem_toArray, List.getElem_cons_zero, List.getElem_cons_succ]
              refine wpAnyH_take (i := 1) rfl (by kernel_rfl) (by kernel_rfl) (by kernel_rfl) (fun _ _ _ h => h) (yieldsP_int (by kernel_rfl) _ rfl ⟨wi.heap.size, 1, none⟩ rfl (my : Int) (fun W hW => hW.out.2)) hH ?_
              simp only [Act.put, List.setIfInBounds_toArray, List.set_cons_zero, List.set_cons_succ, List.getElem_toArray, List.getElem_cons_zero, List.getElem_cons_succ]
              refine wpAnyH_take (i := 2) (v := .pointer (some ⟨wi.heap.size, 0, none⟩)) rfl (by kernel_rfl) (by kernel_rfl) (by kernel_rfl) (fun _ _ _ h => h) (.inl ⟨by kernel_rfl, fun W hW => by first | (go_simp; done) | (go_simp; intro h_; omega)⟩) hH ?_
              simp only [Act.put, List.setIfInBounds_toArray, List.set_cons_zero, List.set_cons_succ, List.getElem_toArray, List.getElem_cons_zero, List.getElem_cons_succ]
              refine wpAnyH_take (i := 3) rfl (by kernel_rfl) (by kernel_rfl) (by kernel_rfl) (fun _ _ _ h => h) (yieldsP_int (by kernel_rfl) _ rfl ⟨wi.heap.size, 0, none⟩ rfl (mx_ : Int) (fun W hW => hW.out.1)) hH ?_
              simp only [Act.put, List.setIfInBounds_toArray, List.set_cons_zero, List.set_cons_succ, List.getElem_toArray, List.getElem_cons_zero, List.getElem_cons_succ]
              refine wpAnyH_take (i := 4) (v := .pointer (some ⟨w.heap.size + 1 + 1, my * 16, none⟩)) rfl (by kernel_rfl) (by kernel_rfl) (by kernel_rfl) (fun _ _ _ h => h) (.inl ⟨by kernel_rfl, fun W hW => by first | (go_simp; done) | (go_simp; intro h_; omega)⟩) hH ?_
              simp only [Act.put, List.setIfInBounds_toArray, List.set_cons_zero, List.set_cons_succ, List.getElem_toArray, List.getElem_cons_zero, List.getElem_cons_succ]
              refine wpAnyH_take (i := 5) (v := .pointer (some ⟨w.heap.size + 1 + 1, my * 16 + mx_, none⟩)) rfl (by kernel_rfl) (by kernel_rfl) (by kernel_rfl) (fun _ _ _ h => h) (.inl ⟨by kernel_rfl, fun W hW => by first | (go_simp; done) | (go_simp; intro h_; omega)⟩) hH ?_
              simp only [Act.put, List.setIfInBounds_toArray, List.set_cons_zero, List.set_cons_succ, List.getElem_toArray, List.getElem_cons_zero, List.getElem_cons_succ]
              have hco := HO5.out.cell (my * 16 + mx_) (by omega)
              have hcf := HO5.out.free (my * 16 + mx_)
              refine wpAnyH_ready (rs := [6]) (by kernel_rfl) (by simp) ?_
              refine AllReadyH.cons (i := 6) rfl ?_ AllReadyH.nil
              intro K hK
              rw [if_pos (by rfl)]
              go_simp
              have HQ6 := Aside0.mk (Kd.Q_set HQ5.out HO5.out (by decide) (my * 16 + mx_) (.bool true))
              have HG6 := Aside0.mk (blk_far HG5.out (show w.heap.size ≠ (⟨w.heap.size + 2, my * 16 + mx_, none⟩ : Addr).block by simp) (.bool true))
              have HZ6 := Aside0.mk (blk_far HZ5.out (show w.heap.size + 1 ≠ (⟨w.heap.size + 2, my * 16 + mx_, none⟩ : Addr).block by simp) (.bool true))
              have HO6 : Aside0 ((W5.setCell ⟨w.heap.size + 2, my * 16 + mx_, none⟩ (.bool true)).heap[w.heap.size + 2]? = some (.cells (gc fun p => if p = my * 16 + mx_ then true else out' p) 75 (0, 0))) := Aside0.mk (HO5.out.set_ (my * 16 + mx_) true)
              have HB6 := Aside0.mk (below_set (g := w.heap.size + 2) (j := my * 16 + mx_) (v := .bool true) HB5.out (by omega))
              have hH1 : Aside0 ((W5.setCell ⟨w.heap.size + 2, my * 16 + mx_, none⟩ (.bool true)).cell? ⟨wi.heap.size, 0, none⟩ = some (.int .i64 (mx_ : Int)) ∧ (W5.setCell ⟨w.heap.size + 2, my * 16 + mx_, none⟩ (.bool true)).cell? ⟨wi.heap.size, 1, none⟩ = some (.int .i64 (my : Int))) := ⟨(World.cell?_setCell_far W5 _ _ _ (by show w.heap.size + 2 ≠ wi.heap.size; omega)).trans hH.out.1, (World.cell?_setCell_far W5 _ _ _ (by show w.heap.size + 2 ≠ wi.heap.size; omega)).trans hH.out.2⟩
              refine hK.out _ _ hH1 (fun _ => ?_)
              clear hK K hH hco hcf
              obtain ⟨W6, hW6⟩ : ∃ W, W = W5.setCell ⟨w.heap.size + 2, my * 16 + mx_, none⟩ (.bool true) := ⟨_, rfl⟩
              have hW6' : W5.setCell ⟨w.heap.size + 1 + 1, my * 16 + mx_, none⟩ (.bool true) = W6 := hW6.symm
              rw [← hW6] at HQ6 HG6 HZ6 HO6 HB6 hH1
              (first | rw [hW6'] | rw [← hW6])
              clear hW6 hW6'
              have hq1 := hH1.out.1
              have hq2 := hH1.out.2
              try simp only [Act.put, List.setIfInBounds_toArray, List.set_cons_zero, List.set_cons_succ, List.getElem_toArray, List.getElem_cons_zero, List.getElem_cons_succ]
              refine wpAnyH_done (by kernel_rfl) ?_ _
              have hpz : my * 16 + mx_ < 256 := by omega
              have HPU := Aside0.mk (mid_push (todo' := (qs' ++ [((mx_ : Int), (my : Int))]).map posI) HM2.out hv (by rw [Int.toNat_natCast, Int.toNat_natCast]; exact HAD.out) (fun q hq => by rw [List.map_append, List.mem_append] at hq; rcases hq with hq | hq; exact .inr hq; left; simpa [posI] using hq) (fun q hq => by rw [List.map_append, List.mem_append]; exact .inl hq) (by rw [List.map_append, List.mem_append]; right; simp [posI]))
              rw [Int.toNat_natCast, Int.toNat_natCast] at HPU
              have HUN := Aside0.mk (unseen_set out' (my * 16 + mx_) hpz ho)
              clear hpz ho
              go_wp2_with (first
                | ((with_reducible refine gate_builtin (b := .append) (xs := #[.tmp 59, .tmp 61]) rfl ?_); at_builtin; refine Kd.Q_append kQ (w0 := w) w.heap.size rfl (.tmp 59) (.tmp 61) 103 102 (.agg #[.int .i64 0, .int .i64 0]) 16 rfl Try.underlying103 infoQ rfl (by decide) (by omega) u8 qs' ((mx_ : Int), (my : Int)) [.int .i64 (mx_ : Int), .int .i64 (my : Int)] (fun _ => True) (fun _ => False) rfl ?aX ?aP (fun _ hk => hk.elim) (fun _ _ => trivial) HQ6.out HB6.out HB6.out.size ?aL ?_; (case aX => rfl); (case aP => exact kQ_M _ _ _ _ _); (case aL => (have hl_ := HT.out.2.2.1; omega)); intro v7 W7 ho hb hg hat; have HQ7 := Aside0.mk ho; have HB7 := Aside0.mk hb; have HG7 : Aside0 (GridAt W7 w.heap.size g) := Aside0.mk (blk_grown HG6.out hg (Kd.Q_ne HQ6.out HG6.out (by decide))); have HZ7 : Aside0 (GridAt W7 (w.heap.size + 1) (fun _ => false)) := Aside0.mk (blk_grown HZ6.out hg (Kd.Q_ne HQ6.out HZ6.out (by decide))); have HO7 : Aside0 (GridAt W7 (w.heap.size + 2) (fun p => if p = my * 16 + mx_ then true else out' p)) := Aside0.mk (blk_grown HO6.out hg (Kd.Q_ne HQ6.out HO6.out (by decide))); clear ho hb hg hat))
              go_roundw
              case rel => exact ⟨_, qs' ++ [((mx_ : Int), (my : Int))], i + 1, by go_num, by omega, ⟨HQ7.out, HG7.out, HZ7.out, HO7.out, HB7.out⟩, ⟨HPU.out, fun q hq => by
                rcases List.mem_append.1 hq with hq | hq
                · exact HT.out.2.1 q hq
                · rw [List.mem_singleton] at hq; subst hq; simp only; omega, by have h1 := HUN.out; have h2 := HT.out.2.2.1; rw [List.length_append, List.length_singleton]; omega, by have h1 := HUN.out; have h2 := HT.out.2.2.2; rw [List.length_append, List.length_singleton]; omega⟩⟩
              case measure => simp [intOf]; omega
        · have hi4 : i = 4 := by omega
          subst hi4
          go_wp2
          go_roundw
          case rel => exact ⟨out', qs', y0 * 16 + x0, HV, ⟨HT.out.1, HT.out.2.1, HT.out.2.2.1⟩⟩
          case measure =>
            obtain ⟨A2, c2, e2, _⟩ := Kd.Q_slice HV.out.1
            have h1 := unseen_out HV.out.2.2.2.1
            have h2 := HMS.out
            have h3 := HT.out.2.2.2
            have h5 := HUE.out
            subst e2
            show 2 * unseen (outOf wi (w.heap.size + 2)) + qs'.length < 2 * unseen (outOf wo (w.heap.size + 2)) + n
            rw [h1, h2]
            omega
end Go.Proofs.Ytbgohbinonkhfaa.Q

namespace Go.Proofs.Ytbgohbinonkhfaa.Q
open Go.RowKit Go.Proofs.YtbgohbinonkhfaaW.PrintWords Go.Proofs.YtbgohbinonkhfaaW.PrintLast Go.Proofs.YtbgohbinonkhfaaW.PrintMore
attribute [local go_sem] max2_int min2_int max_two min_two max_three min_three max_four min_four
set_option linter.unusedVariables false
set_option linter.unusedSimpArgs false
/-! ### impl_size: function 69 -/
def impl_size.f (a0 : Int) : Option (Int) := some (mx a0 (wrap64 (-a0)))
set_option maxHeartbeats 8000000 in
set_option maxRecDepth 100000 in
theorem impl_size.calls (a0 : Int) (r : Int) (w : World) (h : impl_size.f a0 = some r) :
    Calls Try.prog 69 #[.int .i64 a0] w fun e w' => e = .returned (.int .i64 r) ∧ Below w.heap.size w w' := by
  have HB := Aside0.mk (Below.refl w.heap.size w)
  have H : (some (mx a0 (wrap64 (-a0)))) = some r := h
  clear h
  obtain ⟨ji2, hji2⟩ : ∃ j_ : Int, (mx a0 (wrap64 (-a0))) = j_ := ⟨_, rfl⟩
  replace H : (some ji2) = some r := by first | (rw [hji2] at H; exact H) | (simp only [hji2] at H ⊢; exact H)
  have hji2_ : (if a0 < (wrap64 (-a0)) then (wrap64 (-a0)) else a0) = ji2 := hji2
  obtain rfl := Option.some.inj H
  go_enter Try.func69, Try.ntmps69
  go_wp2
  go_ret
  exact ⟨by first | rfl | (simp [errW_none, errW_some] <;> rfl) | (simp only [← hji2]; first | rfl | (simp [errW_none, errW_some] <;> rfl)) | (simp [*, errW_none, errW_some] <;> rfl), by repeat (first | (with_reducible first | exact HB.out | apply below_alloc | apply pw_below_drewN | apply below_drew1) | exact HB.out)⟩

end Go.Proofs.Ytbgohbinonkhfaa.Q

/- impl.FloodRegion: the region of similar pixels that are connected with one. -/
namespace Go.Proofs.Ytbgohbinonkhfaa.Q
open Go.RowKit Go.Proofs.YtbgohbinonkhfaaW.PrintWords Go.Proofs.YtbgohbinonkhfaaW.PrintLast Go.Proofs.YtbgohbinonkhfaaW.PrintMore
attribute [local go_sem] max2_int min2_int max_two min_two max_three min_three max_four min_four
set_option linter.unusedVariables false
set_option linter.unusedSimpArgs false
open Go.Proofs.Ytbgohbinonkhfaa.Pure

theorem yieldsF_slice {ops : Array Oper} {S : World → Prop} {op : Oper} {a : Act} (hw : Region.wanted op (yielded ops a.tmps) = true) (x : Operand) (ho : op.op = .load 22 x)
    (B : Nat) (hx : a.eval x = .pointer (some ⟨B, 0, none⟩)) (v : Value) (hS : ∀ w, S w → w.cell? ⟨B, 0, none⟩ = some v) : YieldsIf Try.prog ops S op v a :=
  .inl ⟨hw, fun w hw' => by
    have h := hS w hw'
    have hu := Try.underlying22
    unfold execOp
    simp only [ho, hx]
    go_simp⟩
/-- number k of two pixels is similar -/
def okAt (pix seed : List Int) (tol : Int) (k : Nat) : Bool := !(decide (tol < mx (wrap64 (rd pix (k : Int) - rd seed (k : Int))) (wrap64 (-(wrap64 (rd pix (k : Int) - rd seed (k : Int)))))))
def okAll (pix seed : List Int) (tol : Int) (n : Nat) : Bool := (List.range n).all (okAt pix seed tol)
theorem okAll_succ (pix seed : List Int) (tol : Int) (n : Nat) : okAll pix seed tol (n + 1) = (okAll pix seed tol n && okAt pix seed tol n) := by
  unfold okAll; rw [List.range_succ, List.all_append]; simp
theorem okAll_stop (pix seed : List Int) (tol : Int) (k : Nat) (h : okAt pix seed tol k = false) : ∀ n, k < n → okAll pix seed tol n = false := by
  intro n hn
  unfold okAll
  rw [List.all_eq_false]
  exact ⟨k, by simpa using hn, by rw [h]; simp⟩
/-- whether a pixel is similar -/
def likeP (a b p : Int) (d seed : List Int) (tol : Int) (x y : Nat) : Bool := decide ((x : Int) < a) && (decide ((y : Int) < b) && okAll (pixT d (pixJ a p x y) p) seed tol (pixT d (pixJ a p x y) p).length)
theorem likeP_in (a b p : Int) (d seed : List Int) (tol : Int) (x y : Nat) (hx : (x : Int) < a) (hy : (y : Int) < b) : likeP a b p d seed tol x y = okAll (pixT d (pixJ a p x y) p) seed tol (pixT d (pixJ a p x y) p).length := by
  unfold likeP; rw [decide_eq_true hx, decide_eq_true hy, Bool.true_and, Bool.true_and]

set_option maxHeartbeats 4000000 in
set_option maxRecDepth 100000 in
theorem flood1_calls (a b p tol : Int) (A As : Option Addr) (c cs : Nat) (d seed : List Int) (hv : validI a b p d = true) (hc : d.length ≤ c) (hsl : (p : Int) ≤ seed.length) (x y : Nat) (hx : x < 16) (hy : y < 16) (B1 B2 B3 : Nat) (w : World)
    (h1 : w.heap[B1]? = some (.cells #[.int .i64 a, .int .i64 b, .int .i64 p, .slice A d.length c] 28 (0, 0))) (h2 : w.heap[B2]? = some (.cells #[.slice As seed.length cs] 22 (0, 0))) (h3 : w.heap[B3]? = some (.cells #[.int .i64 tol] 3 (0, 0)))
    (hr : Kd.C (Kd.int .i64) w A d.length d) (hrs : Kd.C (Kd.int .i64) w As seed.length seed) :
    Calls Try.prog 68 #[.int .i64 (x : Int), .int .i64 (y : Int), .pointer (some ⟨B1, 0, none⟩), .pointer (some ⟨B2, 0, none⟩), .pointer (some ⟨B3, 0, none⟩)] w fun e w' => e = .returned (.bool (likeP a b p d seed tol x y)) ∧ Below w.heap.size w w' := by
  have HB2 := Aside0.mk h2
  have HB3 := Aside0.mk h3
  have HR := Aside0.mk hr
  have HRS := Aside0.mk hrs
  have hu := Try.underlying28
  have f0 : w.cell? ⟨B1, 0, none⟩ = some (.int .i64 a) := (blk_cell h1 0).trans rfl
  have f1 : w.cell? ⟨B1, 1, none⟩ = some (.int .i64 b) := (blk_cell h1 1).trans rfl
  have f2 : w.cell? ⟨B1, 2, none⟩ = some (.int .i64 p) := (blk_cell h1 2).trans rfl
  have f3 : w.cell? ⟨B1, 3, none⟩ = some (.slice A d.length c) := (blk_cell h1 3).trans rfl
  by_cases cx : (x : Int) < a
  · have dx : decide (a ≤ (x : Int)) = false := decide_eq_false (by omega)
    by_cases cy : (y : Int) < b
    · have dy : decide (b ≤ (y : Int)) = false := decide_eq_false (by omega)
      have hb1 := pixJ_is hv cx cy
      have hpp := ((validI_iff a b p d).1 hv).1
      rw [likeP_in a b p d seed tol x y cx cy]
      obtain ⟨j, hj⟩ : ∃ j, pixJ a p x y = j := ⟨_, rfl⟩
      rw [hj] at hb1 ⊢
      have hw : wrap64 (j + p) = j + p := w64 (by omega) (by omega)
      obtain ⟨P1, q1, hq1, HA⟩ := at_calls a b p A c d (x : Int) (y : Int) j hc hj (by omega) (by omega) (by omega)
      have HP := Aside0.mk (HA w hr).1
      replace HA := Aside0.mk HA
      have hln : (pixT d j p).length = p.toNat := by
        unfold pixT
        rw [List.length_drop, List.length_take]
        omega
      have HN := Aside0.mk (show (pixT d j p).length ≤ 4 ∧ 1 ≤ (pixT d j p).length ∧ (pixT d j p).length ≤ seed.length from by omega)
      have hn4 : (pixT d j p).length ≤ 4 := HN.out.1
      clear hb1 hpp hw hq1 hln hv hj cx cy h1 h2 h3 hr hrs hc hsl
      generalize pixT d j p = pix at HP HA HN hn4 ⊢
      obtain ⟨adp, hadp, _⟩ := Kd.at_int HP.out 0 (by omega) (by have := HN.out; omega)
      subst hadp
      obtain ⟨ads, hads, _⟩ := Kd.at_int HRS.out 0 (by omega) (by have := HN.out; omega)
      subst hads
      have HPC := Aside0.mk (fun (W : World) (hb : Below w.heap.size w W) (k : Nat) (hk : k < pix.length) => show W.cell? (adp.add k) = some (.int .i64 (rd pix (k : Int))) from by
        obtain ⟨ad', e, h⟩ := Kd.at_int (Kd.C_below HP.out hb) (k : Int) (by omega) (by omega)
        cases e
        rw [Int.toNat_natCast] at h
        exact h)
      have HSC := Aside0.mk (fun (W : World) (hb : Below w.heap.size w W) (k : Nat) (hk : k < seed.length) => show W.cell? (ads.add k) = some (.int .i64 (rd seed (k : Int))) from by
        obtain ⟨ad', e, h⟩ := Kd.at_int (Kd.C_below HRS.out hb) (k : Int) (by omega) (by omega)
        cases e
        rw [Int.toNat_natCast] at h
        exact h)
      go_enter Try.func68, Try.ntmps68
      go_wp2_with (first
        | (go_at_call 59; (with_reducible refine ((HA.out w HR.out).2).mono ?_); rintro e w1 ⟨rfl, hb_⟩; have HB1 := Aside0.mk hb_; clear hb_))
      go_loopw [25] (fun v25 W => ∃ k : Nat, v25 = .int .i64 k ∧ k ≤ pix.length ∧ Aside0 (okAll pix seed tol k = true) ∧ Aside0 (Below w.heap.size w W)) (fun v25 _ => pix.length - (intOf v25).toNat)
      case atStart => exact ⟨0, rfl, by omega, ⟨rfl⟩, HB1⟩
      case round =>
        obtain ⟨k, rfl, hk, HO, HBo⟩ := hrel
        obtain ⟨wo, rfl⟩ : ∃ wo : World, wo = wr := ⟨_, rfl⟩
        by_cases hlt : k < pix.length
        · have q1 : decide ((k : Int) < (pix.length : Int)) = true := decide_eq_true (by omega)
          have hcp := HPC.out wo HBo.out k hlt
          have HKS := Aside0.mk (show k < seed.length from by have := HN.out; omega)
          have hks : k < seed.length := HKS.out
          cases hok : okAt pix seed tol k with
          | true =>
            have dk : decide (tol < mx (wrap64 (rd pix (k : Int) - rd seed (k : Int))) (wrap64 (-(wrap64 (rd pix (k : Int) - rd seed (k : Int)))))) = false := by simpa [okAt] using hok
            have HO2 := Aside0.mk (show okAll pix seed tol (k + 1) = true from by rw [okAll_succ, HO.out, hok]; rfl)
            clear hok
            go_wp2
            refine wp_region_held_drew (S := fun W => Aside0 (Below w.heap.size w W)) (by kernel_rfl) ⟨below_drew HBo.out⟩ (fun hH => ?_)
            obtain ⟨W0, hW0⟩ : ∃ W, W = wo.drew := ⟨_, rfl⟩
            rw [← hW0] at hH ⊢
            clear hW0
            refine wpAnyH_take (i := 0) (v := .int .i64 (rd pix (k : Int))) rfl (by kernel_rfl) (by kernel_rfl) (by kernel_rfl) (fun _ _ _ h => h) (.inl ⟨by kernel_rfl, fun W hW => by first | (go_simp; done) | (go_simp; intro h_; omega)⟩) hH ?_
            simp only [Act.put, List.setIfInBounds_toArray, List.set_cons_zero, List.set_cons_succ, List.getElem_toArray, List.getElem_cons_zero, List.getElem_cons_succ]
            refine wpAnyH_take (i := 1) rfl (by kernel_rfl) (by kernel_rfl) (by kernel_rfl) (fun _ _ _ h => h) (yieldsF_slice (by kernel_rfl) _ rfl B2 rfl (.slice (some ads) seed.length cs) (fun W hW => (blk_cell (blk_below HB2.out hW.out) 0).trans rfl)) hH ?_
            simp only [Act.put, List.setIfInBounds_toArray, List.set_cons_zero, List.set_cons_succ, List.getElem_toArray, List.getElem_cons_zero, List.getElem_cons_succ]
            refine wpAnyH_take (i := 2) (v := .int .i64 (k : Int)) rfl (by kernel_rfl) (by kernel_rfl) (by kernel_rfl) (fun _ _ _ h => h) (.inl ⟨by kernel_rfl, fun W hW => by first | (go_simp; done) | (go_simp; intro h_; omega)⟩) hH ?_
            simp only [Act.put, List.setIfInBounds_toArray, List.set_cons_zero, List.set_cons_succ, List.getElem_toArray, List.getElem_cons_zero, List.getElem_cons_succ]
            refine wpAnyH_take (i := 3) (v := .pointer (some (ads.add k))) rfl (by kernel_rfl) (by kernel_rfl) (by kernel_rfl) (fun _ _ _ h => h) (.inl ⟨by kernel_rfl, fun W hW => by first | (go_simp; done) | (go_simp; intro h_; omega)⟩) hH ?_
            simp only [Act.put, List.setIfInBounds_toArray, List.set_cons_zero, List.set_cons_succ, List.getElem_toArray, List.getElem_cons_zero, List.getElem_cons_succ]
            refine wpAnyH_take (i := 4) rfl (by kernel_rfl) (by kernel_rfl) (by kernel_rfl) (fun _ _ _ h => h) (yieldsC_int (by kernel_rfl) _ rfl (ads.add k) rfl (rd seed (k : Int)) (fun W hW => HSC.out W hW.out k HKS.out)) hH ?_
            simp only [Act.put, List.setIfInBounds_toArray, List.set_cons_zero, List.set_cons_succ, List.getElem_toArray, List.getElem_cons_zero, List.getElem_cons_succ]
            refine wpAnyH_take (i := 5) (v := .int .i64 (wrap64 (rd pix (k : Int) - rd seed (k : Int)))) rfl (by kernel_rfl) (by kernel_rfl) (by kernel_rfl) (fun _ _ _ h => h) (.inl ⟨by kernel_rfl, fun W hW => by go_simp; exact i64_w _⟩) hH ?_
            simp only [Act.put, List.setIfInBounds_toArray, List.set_cons_zero, List.set_cons_succ, List.getElem_toArray, List.getElem_cons_zero, List.getElem_cons_succ]
            refine wpAnyH_take (i := 7) rfl (by kernel_rfl) (by kernel_rfl) (by kernel_rfl) (fun _ _ _ h => h) (yieldsC_int (by kernel_rfl) _ rfl ⟨B3, 0, none⟩ rfl tol (fun W hW => (blk_cell (blk_below HB3.out hW.out) 0).trans rfl)) hH ?_
            simp only [Act.put, List.setIfInBounds_toArray, List.set_cons_zero, List.set_cons_succ, List.getElem_toArray, List.getElem_cons_zero, List.getElem_cons_succ]
            refine wpAnyH_ready (rs := [6]) (by kernel_rfl) (by simp) ?_
            refine AllReadyH.cons (i := 6) rfl ?_ AllReadyH.nil
            intro K hK
            rw [if_pos (by rfl)]
            go_simp
            go_wp2_with (first | (go_at_call 69; (with_reducible refine (impl_size.calls (wrap64 (rd pix (k : Int) - rd seed (k : Int))) _ _ rfl).mono ?_); rintro e W1 ⟨rfl, hb⟩))
            refine hK.out _ _ ⟨below_then hH.out hH.out.size hb⟩ (fun hH1 => ?_)
            clear hK K hb hH
            have hH := hH1
            clear hH1
            try simp only [Act.put, List.setIfInBounds_toArray, List.set_cons_zero, List.set_cons_succ, List.getElem_toArray, List.getElem_cons_zero, List.getElem_cons_succ]
            refine wpAnyH_take (i := 8) (v := .bool false) rfl (by kernel_rfl) (by kernel_rfl) (by kernel_rfl) (fun _ _ _ h => h) (.inl ⟨by kernel_rfl, fun W hW => by first | (go_simp; done) | (go_simp; rw [dk]) | (simp [execOp, Act.eval, Instr.binOp, dk]; done)⟩) hH ?_
            simp only [Act.put, List.setIfInBounds_toArray, List.set_cons_zero, List.set_cons_succ, List.getElem_toArray, List.getElem_cons_zero, List.getElem_cons_succ]
            refine wpAnyH_done (by kernel_rfl) ?_ _
            go_wp2
            go_roundw
            case rel => exact ⟨k + 1, by go_num, by omega, HO2, ⟨hH.out⟩⟩
            case measure => simp [intOf]; omega
          | false =>
            have dk : decide (tol < mx (wrap64 (rd pix (k : Int) - rd seed (k : Int))) (wrap64 (-(wrap64 (rd pix (k : Int) - rd seed (k : Int)))))) = true := by simpa [okAt] using hok
            have HO2 := Aside0.mk (okAll_stop pix seed tol k hok pix.length hlt)
            clear hok
            go_wp2
            refine wp_region_held_drew (S := fun W => Aside0 (Below w.heap.size w W)) (by kernel_rfl) ⟨below_drew HBo.out⟩ (fun hH => ?_)
            obtain ⟨W0, hW0⟩ : ∃ W, W = wo.drew := ⟨_, rfl⟩
            rw [← hW0] at hH ⊢
            clear hW0
            refine wpAnyH_take (i := 0) (v := .int .i64 (rd pix (k : Int))) rfl (by kernel_rfl) (by kernel_rfl) (by kernel_rfl) (fun _ _ _ h => h) (.inl ⟨by kernel_rfl, fun W hW => by first | (go_simp; done) | (go_simp; intro h_; omega)⟩) hH ?_
            simp only [Act.put, List.setIfInBounds_toArray, List.set_cons_zero, List.set_cons_succ, List.getElem_toArray, List.getElem_cons_zero, List.getElem_cons_succ]
            refine wpAnyH_take (i := 1) rfl (by kernel_rfl) (by kernel_rfl) (by kernel_rfl) (fun _ _ _ h => h) (yieldsF_slice (by kernel_rfl) _ rfl B2 rfl (.slice (some ads) seed.length cs) (fun W hW => (blk_cell (blk_below HB2.out hW.out) 0).trans rfl)) hH ?_
            simp only [Act.put, List.setIfInBounds_toArray, List.set_cons_zero, List.set_cons_succ, List.getElem_toArray, List.getElem_cons_zero, List.getElem_cons_succ]
            refine wpAnyH_take (i := 2) (v := .int .i64 (k : Int)) rfl (by kernel_rfl) (by kernel_rfl) (by kernel_rfl) (fun _ _ _ h => h) (.inl ⟨by kernel_rfl, fun W hW => by first | (go_simp; done) | (go_simp; intro h_; omega)⟩) hH ?_
            simp only [Act.put, List.setIfInBounds_toArray, List.set_cons_zero, List.set_cons_succ, List.getElem_toArray, List.getElem_cons_zero, List.getElem_cons_succ]
            refine wpAnyH_take (i := 3) (v := .pointer (some (ads.add k))) rfl (by kernel_rfl) (by kernel_rfl) (by kernel_rfl) (fun _ _ _ h => h) (.inl ⟨by kernel_rfl, fun W hW => by first | (go_simp; done) | (go_simp; intro h_; omega)⟩) hH ?_
            simp only [Act.put, List.setIfInBounds_toArray, List.set_cons_zero, List.set_cons_succ, List.getElem_toArray, List.getElem_cons_zero, List.getElem_cons_succ]
            refine wpAnyH_take (i := 4) rfl (by kernel_rfl) (by kernel_rfl) (by kernel_rfl) (fun _ _ _ h => h) (yieldsC_int (by kernel_rfl) _ rfl (ads.add k) rfl (rd seed (k : Int)) (fun W hW => HSC.out W hW.out k HKS.out)) hH ?_
            simp only [Act.put, List.setIfInBounds_toArray, List.set_cons_zero, List.set_cons_succ, List.getElem_toArray, List.getElem_cons_zero, List.getElem_cons_succ]
            refine wpAnyH_take (i := 5) (v := .int .i64 (wrap64 (rd pix (k : Int) - rd seed (k : Int)))) rfl (by kernel_rfl) (by kernel_rfl) (by kernel_rfl) (fun _ _ _ h => h) (.inl ⟨by kernel_rfl, fun W hW => by go_simp; exact i64_w _⟩) hH ?_
            simp only [Act.put, List.setIfInBounds_toArray, List.set_cons_zero, List.set_cons_succ, List.getElem_toArray, List.getElem_cons_zero, List.getElem_cons_succ]
            refine wpAnyH_take (i := 7) rfl (by kernel_rfl) (by kernel_rfl) (by kernel_rfl) (fun _ _ _ h => h) (yieldsC_int (by kernel_rfl) _ rfl ⟨B3, 0, none⟩ rfl tol (fun W hW => (blk_cell (blk_below HB3.out hW.out) 0).trans rfl)) hH ?_
            simp only [Act.put, List.setIfInBounds_toArray, List.set_cons_zero, List.set_cons_succ, List.getElem_toArray, List.getElem_cons_zero, List.getElem_cons_succ]
            refine wpAnyH_ready (rs := [6]) (by kernel_rfl) (by simp) ?_
            refine AllReadyH.cons (i := 6) rfl ?_ AllReadyH.nil
            intro K hK
            rw [if_pos (by rfl)]
            go_simp
            go_wp2_with (first | (go_at_call 69; (with_reducible refine (impl_size.calls (wrap64 (rd pix (k : Int) - rd seed (k : Int))) _ _ rfl).mono ?_); rintro e W1 ⟨rfl, hb⟩))
            refine hK.out _ _ ⟨below_then hH.out hH.out.size hb⟩ (fun hH1 => ?_)
            clear hK K hb hH
            have hH := hH1
            clear hH1
            try simp only [Act.put, List.setIfInBounds_toArray, List.set_cons_zero, List.set_cons_succ, List.getElem_toArray, List.getElem_cons_zero, List.getElem_cons_succ]
            refine wpAnyH_take (i := 8) (v := .bool true) rfl (by kernel_rfl) (by kernel_rfl) (by kernel_rfl) (fun _ _ _ h => h) (.inl ⟨by kernel_rfl, fun W hW => by first | (go_simp; done) | (go_simp; rw [dk]) | (simp [execOp, Act.eval, Instr.binOp, dk]; done)⟩) hH ?_
            simp only [Act.put, List.setIfInBounds_toArray, List.set_cons_zero, List.set_cons_succ, List.getElem_toArray, List.getElem_cons_zero, List.getElem_cons_succ]
            refine wpAnyH_done (by kernel_rfl) ?_ _
            go_wp2
            go_ret
            exact ⟨by rw [HO2.out]; rfl, hH.out⟩
        · have q1 : decide ((k : Int) < (pix.length : Int)) = false := decide_eq_false (by omega)
          have hkn : k = pix.length := by omega
          subst hkn
          go_wp2
          go_ret
          exact ⟨by rw [HO.out]; rfl, HBo.out⟩
    · have dy : decide (b ≤ (y : Int)) = true := decide_eq_true (by omega)
      have e : likeP a b p d seed tol x y = false := by unfold likeP; rw [decide_eq_false cy, Bool.false_and, Bool.and_false]
      rw [e]
      clear hv cx cy h1 h2 h3 hr hrs e
      go_enter Try.func68, Try.ntmps68
      go_wp2
      go_ret
      exact ⟨rfl, Below.refl _ _⟩
  · have dx : decide (a ≤ (x : Int)) = true := decide_eq_true (by omega)
    have e : likeP a b p d seed tol x y = false := by unfold likeP; rw [decide_eq_false cx, Bool.false_and]
    rw [e]
    clear hv cx h1 h2 h3 hr hrs e
    go_enter Try.func68, Try.ntmps68
    go_wp2
    go_ret
    exact ⟨rfl, Below.refl _ _⟩
/-- what FloodRegion returns -/
noncomputable def floodV (a b p : Int) (d : List Int) (x y tol : Int) : List S47 :=
  if validI a b p d = true ∧ 0 ≤ x ∧ x < a ∧ 0 ≤ y ∧ y < b ∧ 0 ≤ tol ∧ tol ≤ 255 then runsL (comp (gso (likeP a b p d (pixT d (pixJ a p x.toNat y.toNat) p) tol) 256) (y.toNat * 16 + x.toNat)) else []
noncomputable def impl_FloodRegion.f (a b p : Int) (d : List Int) (x y tol : Int) : Option (List S47) := some (floodV a b p d x y tol)

set_option maxHeartbeats 2000000 in
set_option maxRecDepth 100000 in
theorem impl_FloodRegion.calls (a b p : Int) (A : Option Addr) (c : Nat) (d : List Int) (x y tol : Int) (r : List S47) (w : World) (hr0_3 : Kd.C (Kd.int .i64) w A d.length d) (hc0_3 : d.length ≤ c) (h : impl_FloodRegion.f a b p d x y tol = some r) :
    Calls Try.prog 26 #[.agg #[.int .i64 a, .int .i64 b, .int .i64 p, .slice A d.length c], .int .i64 x, .int .i64 y, .int .i64 tol] w fun e w' => ∃ v0_ : Value, e = .returned (v0_) ∧ Kd.R k47 47 w' w.heap.size (fun _ => True) v0_ r ∧ Below w.heap.size w w' := by
  obtain rfl := Option.some.inj h
  clear h
  unfold floodV
  have HC := Aside0.mk hc0_3
  have HR := Aside0.mk hr0_3
  have HB0 := Aside0.mk (Below.refl w.heap.size w)
  have E1 := Aside0.mk (impl_isImage_eq a b p d)
  clear hr0_3 hc0_3
  have hu := Try.underlying28
  have hui := Try.underlying22
  cases hv : validI a b p d with
  | false =>
    rw [hv] at E1
    rw [if_neg (by rintro ⟨e, _⟩; cases e)]
    go_enter Try.func26, Try.ntmps26
    go_wp2_with (first
      | ((with_reducible refine gate_dst (N := 4) rfl ?_); refine box_event ?hg (N := 4) ?hd (cs := #[.int .i64 a, .int .i64 b, .int .i64 p, .slice A d.length c]) (t := 28) ?hr ?_; (case hd => rfl); (case hg => rfl); (case hr => first | (go_simp; done) | (go_simp; rfl)); intro g1 hg_ w1 hbox hb; have HB1 := Aside0.mk (below_then HB0.out HB0.out.size hb); have K1 := Aside0.mk hbox; have G1 := Aside0.mk (show w.heap.size ≤ g1 from by rw [hg_]; exact HB0.out.size); clear hbox hb hg_)
      | ((with_reducible refine gate_dst (N := 7) rfl ?_); refine box_event ?hg (N := 7) ?hd (cs := #[.int .i64 tol]) (t := 3) ?hr ?_; (case hd => rfl); (case hg => rfl); (case hr => first | (go_simp; done) | (go_simp; rfl)); intro g2 hg_ w2 hbox hb; have HB2 := Aside0.mk (below_then HB1.out HB1.out.size hb); have K2 := Aside0.mk hbox; have K1b := Aside0.mk (blk_below K1.out hb); have G2 := Aside0.mk (show w.heap.size ≤ g2 from by rw [hg_]; exact HB1.out.size); have fa0 : w2.cell? ⟨g1, 0, none⟩ = some (.int .i64 a) := (blk_cell K1b.out 0).trans rfl; have fa1 : w2.cell? ⟨g1, 1, none⟩ = some (.int .i64 b) := (blk_cell K1b.out 1).trans rfl; have fa2 : w2.cell? ⟨g1, 2, none⟩ = some (.int .i64 p) := (blk_cell K1b.out 2).trans rfl; have fa3 : w2.cell? ⟨g1, 3, none⟩ = some (.slice A d.length c) := (blk_cell K1b.out 3).trans rfl; have ta : w2.cell? ⟨g2, 0, none⟩ = some (.int .i64 tol) := (blk_cell K2.out 0).trans rfl; clear hbox hb hg_)
      | (go_at_call 48; (with_reducible refine (impl_isImage.calls a b p A c d _ w2 (Kd.C_below HR.out HB2.out) HC.out E1.out).mono ?_); rintro e w3 ⟨rfl, hb_⟩; have HB3 := Aside0.mk (below_then HB2.out HB2.out.size hb_); have M1 := Aside0.mk (blk_below K1b.out hb_); have M2 := Aside0.mk (blk_below K2.out hb_); have fb0 : w3.cell? ⟨g1, 0, none⟩ = some (.int .i64 a) := (blk_cell M1.out 0).trans rfl; have fb1 : w3.cell? ⟨g1, 1, none⟩ = some (.int .i64 b) := (blk_cell M1.out 1).trans rfl; have fb2 : w3.cell? ⟨g1, 2, none⟩ = some (.int .i64 p) := (blk_cell M1.out 2).trans rfl; have fb3 : w3.cell? ⟨g1, 3, none⟩ = some (.slice A d.length c) := (blk_cell M1.out 3).trans rfl; have tb : w3.cell? ⟨g2, 0, none⟩ = some (.int .i64 tol) := (blk_cell M2.out 0).trans rfl; clear hb_))
    go_ret
    exact ⟨_, rfl, Kd.R_nil _ _ _ _ _, HB3.out⟩
  | true =>
    rw [hv] at E1
    by_cases q1_ : x < 0
    · have k1_ : decide (x < 0) = true := decide_eq_true q1_
      rw [if_neg (by omega)]
      go_enter Try.func26, Try.ntmps26
      go_wp2_with (first
        | ((with_reducible refine gate_dst (N := 4) rfl ?_); refine box_event ?hg (N := 4) ?hd (cs := #[.int .i64 a, .int .i64 b, .int .i64 p, .slice A d.length c]) (t := 28) ?hr ?_; (case hd => rfl); (case hg => rfl); (case hr => first | (go_simp; done) | (go_simp; rfl)); intro g1 hg_ w1 hbox hb; have HB1 := Aside0.mk (below_then HB0.out HB0.out.size hb); have K1 := Aside0.mk hbox; have G1 := Aside0.mk (show w.heap.size ≤ g1 from by rw [hg_]; exact HB0.out.size); clear hbox hb hg_)
        | ((with_reducible refine gate_dst (N := 7) rfl ?_); refine box_event ?hg (N := 7) ?hd (cs := #[.int .i64 tol]) (t := 3) ?hr ?_; (case hd => rfl); (case hg => rfl); (case hr => first | (go_simp; done) | (go_simp; rfl)); intro g2 hg_ w2 hbox hb; have HB2 := Aside0.mk (below_then HB1.out HB1.out.size hb); have K2 := Aside0.mk hbox; have K1b := Aside0.mk (blk_below K1.out hb); have G2 := Aside0.mk (show w.heap.size ≤ g2 from by rw [hg_]; exact HB1.out.size); have fa0 : w2.cell? ⟨g1, 0, none⟩ = some (.int .i64 a) := (blk_cell K1b.out 0).trans rfl; have fa1 : w2.cell? ⟨g1, 1, none⟩ = some (.int .i64 b) := (blk_cell K1b.out 1).trans rfl; have fa2 : w2.cell? ⟨g1, 2, none⟩ = some (.int .i64 p) := (blk_cell K1b.out 2).trans rfl; have fa3 : w2.cell? ⟨g1, 3, none⟩ = some (.slice A d.length c) := (blk_cell K1b.out 3).trans rfl; have ta : w2.cell? ⟨g2, 0, none⟩ = some (.int .i64 tol) := (blk_cell K2.out 0).trans rfl; clear hbox hb hg_)
        | (go_at_call 48; (with_reducible refine (impl_isImage.calls a b p A c d _ w2 (Kd.C_below HR.out HB2.out) HC.out E1.out).mono ?_); rintro e w3 ⟨rfl, hb_⟩; have HB3 := Aside0.mk (below_then HB2.out HB2.out.size hb_); have M1 := Aside0.mk (blk_below K1b.out hb_); have M2 := Aside0.mk (blk_below K2.out hb_); have fb0 : w3.cell? ⟨g1, 0, none⟩ = some (.int .i64 a) := (blk_cell M1.out 0).trans rfl; have fb1 : w3.cell? ⟨g1, 1, none⟩ = some (.int .i64 b) := (blk_cell M1.out 1).trans rfl; have fb2 : w3.cell? ⟨g1, 2, none⟩ = some (.int .i64 p) := (blk_cell M1.out 2).trans rfl; have fb3 : w3.cell? ⟨g1, 3, none⟩ = some (.slice A d.length c) := (blk_cell M1.out 3).trans rfl; have tb : w3.cell? ⟨g2, 0, none⟩ = some (.int .i64 tol) := (blk_cell M2.out 0).trans rfl; clear hb_))
      go_ret
      exact ⟨_, rfl, Kd.R_nil _ _ _ _ _, HB3.out⟩
    have k1_ : decide (x < 0) = false := decide_eq_false q1_
    by_cases q2_ : a ≤ x
    · have k2_ : decide (a ≤ x) = true := decide_eq_true q2_
      rw [if_neg (by omega)]
      go_enter Try.func26, Try.ntmps26
      go_wp2_with (first
        | ((with_reducible refine gate_dst (N := 4) rfl ?_); refine box_event ?hg (N := 4) ?hd (cs := #[.int .i64 a, .int .i64 b, .int .i64 p, .slice A d.length c]) (t := 28) ?hr ?_; (case hd => rfl); (case hg => rfl); (case hr => first | (go_simp; done) | (go_simp; rfl)); intro g1 hg_ w1 hbox hb; have HB1 := Aside0.mk (below_then HB0.out HB0.out.size hb); have K1 := Aside0.mk hbox; have G1 := Aside0.mk (show w.heap.size ≤ g1 from by rw [hg_]; exact HB0.out.size); clear hbox hb hg_)
        | ((with_reducible refine gate_dst (N := 7) rfl ?_); refine box_event ?hg (N := 7) ?hd (cs := #[.int .i64 tol]) (t := 3) ?hr ?_; (case hd => rfl); (case hg => rfl); (case hr => first | (go_simp; done) | (go_simp; rfl)); intro g2 hg_ w2 hbox hb; have HB2 := Aside0.mk (below_then HB1.out HB1.out.size hb); have K2 := Aside0.mk hbox; have K1b := Aside0.mk (blk_below K1.out hb); have G2 := Aside0.mk (show w.heap.size ≤ g2 from by rw [hg_]; exact HB1.out.size); have fa0 : w2.cell? ⟨g1, 0, none⟩ = some (.int .i64 a) := (blk_cell K1b.out 0).trans rfl; have fa1 : w2.cell? ⟨g1, 1, none⟩ = some (.int .i64 b) := (blk_cell K1b.out 1).trans rfl; have fa2 : w2.cell? ⟨g1, 2, none⟩ = some (.int .i64 p) := (blk_cell K1b.out 2).trans rfl; have fa3 : w2.cell? ⟨g1, 3, none⟩ = some (.slice A d.length c) := (blk_cell K1b.out 3).trans rfl; have ta : w2.cell? ⟨g2, 0, none⟩ = some (.int .i64 tol) := (blk_cell K2.out 0).trans rfl; clear hbox hb hg_)
        | (go_at_call 48; (with_reducible refine (impl_isImage.calls a b p A c d _ w2 (Kd.C_below HR.out HB2.out) HC.out E1.out).mono ?_); rintro e w3 ⟨rfl, hb_⟩; have HB3 := Aside0.mk (below_then HB2.out HB2.out.size hb_); have M1 := Aside0.mk (blk_below K1b.out hb_); have M2 := Aside0.mk (blk_below K2.out hb_); have fb0 : w3.cell? ⟨g1, 0, none⟩ = some (.int .i64 a) := (blk_cell M1.out 0).trans rfl; have fb1 : w3.cell? ⟨g1, 1, none⟩ = some (.int .i64 b) := (blk_cell M1.out 1).trans rfl; have fb2 : w3.cell? ⟨g1, 2, none⟩ = some (.int .i64 p) := (blk_cell M1.out 2).trans rfl; have fb3 : w3.cell? ⟨g1, 3, none⟩ = some (.slice A d.length c) := (blk_cell M1.out 3).trans rfl; have tb : w3.cell? ⟨g2, 0, none⟩ = some (.int .i64 tol) := (blk_cell M2.out 0).trans rfl; clear hb_))
      go_ret
      exact ⟨_, rfl, Kd.R_nil _ _ _ _ _, HB3.out⟩
    have k2_ : decide (a ≤ x) = false := decide_eq_false q2_
    by_cases q3_ : y < 0
    · have k3_ : decide (y < 0) = true := decide_eq_true q3_
      rw [if_neg (by omega)]
      go_enter Try.func26, Try.ntmps26
      go_wp2_with (first
        | ((with_reducible refine gate_dst (N := 4) rfl ?_); refine box_event ?hg (N := 4) ?hd (cs := #[.int .i64 a, .int .i64 b, .int .i64 p, .slice A d.length c]) (t := 28) ?hr ?_; (case hd => rfl); (case hg => rfl); (case hr => first | (go_simp; done) | (go_simp; rfl)); intro g1 hg_ w1 hbox hb; have HB1 := Aside0.mk (below_then HB0.out HB0.out.size hb); have K1 := Aside0.mk hbox; have G1 := Aside0.mk (show w.heap.size ≤ g1 from by rw [hg_]; exact HB0.out.size); clear hbox hb hg_)
        | ((with_reducible refine gate_dst (N := 7) rfl ?_); refine box_event ?hg (N := 7) ?hd (cs := #[.int .i64 tol]) (t := 3) ?hr ?_; (case hd => rfl); (case hg => rfl); (case hr => first | (go_simp; done) | (go_simp; rfl)); intro g2 hg_ w2 hbox hb; have HB2 := Aside0.mk (below_then HB1.out HB1.out.size hb); have K2 := Aside0.mk hbox; have K1b := Aside0.mk (blk_below K1.out hb); have G2 := Aside0.mk (show w.heap.size ≤ g2 from by rw [hg_]; exact HB1.out.size); have fa0 : w2.cell? ⟨g1, 0, none⟩ = some (.int .i64 a) := (blk_cell K1b.out 0).trans rfl; have fa1 : w2.cell? ⟨g1, 1, none⟩ = some (.int .i64 b) := (blk_cell K1b.out 1).trans rfl; have fa2 : w2.cell? ⟨g1, 2, none⟩ = some (.int .i64 p) := (blk_cell K1b.out 2).trans rfl; have fa3 : w2.cell? ⟨g1, 3, none⟩ = some (.slice A d.length c) := (blk_cell K1b.out 3).trans rfl; have ta : w2.cell? ⟨g2, 0, none⟩ = some (.int .i64 tol) := (blk_cell K2.out 0).trans rfl; clear hbox hb hg_)
        | (go_at_call 48; (with_reducible refine (impl_isImage.calls a b p A c d _ w2 (Kd.C_below HR.out HB2.out) HC.out E1.out).mono ?_); rintro e w3 ⟨rfl, hb_⟩; have HB3 := Aside0.mk (below_then HB2.out HB2.out.size hb_); have M1 := Aside0.mk (blk_below K1b.out hb_); have M2 := Aside0.mk (blk_below K2.out hb_); have fb0 : w3.cell? ⟨g1, 0, none⟩ = some (.int .i64 a) := (blk_cell M1.out 0).trans rfl; have fb1 : w3.cell? ⟨g1, 1, none⟩ = some (.int .i64 b) := (blk_cell M1.out 1).trans rfl; have fb2 : w3.cell? ⟨g1, 2, none⟩ = some (.int .i64 p) := (blk_cell M1.out 2).trans rfl; have fb3 : w3.cell? ⟨g1, 3, none⟩ = some (.slice A d.length c) := (blk_cell M1.out 3).trans rfl; have tb : w3.cell? ⟨g2, 0, none⟩ = some (.int .i64 tol) := (blk_cell M2.out 0).trans rfl; clear hb_))
      go_ret
      exact ⟨_, rfl, Kd.R_nil _ _ _ _ _, HB3.out⟩
    have k3_ : decide (y < 0) = false := decide_eq_false q3_
    by_cases q4_ : b ≤ y
    · have k4_ : decide (b ≤ y) = true := decide_eq_true q4_
      rw [if_neg (by omega)]
      go_enter Try.func26, Try.ntmps26
      go_wp2_with (first
        | ((with_reducible refine gate_dst (N := 4) rfl ?_); refine box_event ?hg (N := 4) ?hd (cs := #[.int .i64 a, .int .i64 b, .int .i64 p, .slice A d.length c]) (t := 28) ?hr ?_; (case hd => rfl); (case hg => rfl); (case hr => first | (go_simp; done) | (go_simp; rfl)); intro g1 hg_ w1 hbox hb; have HB1 := Aside0.mk (below_then HB0.out HB0.out.size hb); have K1 := Aside0.mk hbox; have G1 := Aside0.mk (show w.heap.size ≤ g1 from by rw [hg_]; exact HB0.out.size); clear hbox hb hg_)
        | ((with_reducible refine gate_dst (N := 7) rfl ?_); refine box_event ?hg (N := 7) ?hd (cs := #[.int .i64 tol]) (t := 3) ?hr ?_; (case hd => rfl); (case hg => rfl); (case hr => first | (go_simp; done) | (go_simp; rfl)); intro g2 hg_ w2 hbox hb; have HB2 := Aside0.mk (below_then HB1.out HB1.out.size hb); have K2 := Aside0.mk hbox; have K1b := Aside0.mk (blk_below K1.out hb); have G2 := Aside0.mk (show w.heap.size ≤ g2 from by rw [hg_]; exact HB1.out.size); have fa0 : w2.cell? ⟨g1, 0, none⟩ = some (.int .i64 a) := (blk_cell K1b.out 0).trans rfl; have fa1 : w2.cell? ⟨g1, 1, none⟩ = some (.int .i64 b) := (blk_cell K1b.out 1).trans rfl; have fa2 : w2.cell? ⟨g1, 2, none⟩ = some (.int .i64 p) := (blk_cell K1b.out 2).trans rfl; have fa3 : w2.cell? ⟨g1, 3, none⟩ = some (.slice A d.length c) := (blk_cell K1b.out 3).trans rfl; have ta : w2.cell? ⟨g2, 0, none⟩ = some (.int .i64 tol) := (blk_cell K2.out 0).trans rfl; clear hbox hb hg_)
        | (go_at_call 48; (with_reducible refine (impl_isImage.calls a b p A c d _ w2 (Kd.C_below HR.out HB2.out) HC.out E1.out).mono ?_); rintro e w3 ⟨rfl, hb_⟩; have HB3 := Aside0.mk (below_then HB2.out HB2.out.size hb_); have M1 := Aside0.mk (blk_below K1b.out hb_); have M2 := Aside0.mk (blk_below K2.out hb_); have fb0 : w3.cell? ⟨g1, 0, none⟩ = some (.int .i64 a) := (blk_cell M1.out 0).trans rfl; have fb1 : w3.cell? ⟨g1, 1, none⟩ = some (.int .i64 b) := (blk_cell M1.out 1).trans rfl; have fb2 : w3.cell? ⟨g1, 2, none⟩ = some (.int .i64 p) := (blk_cell M1.out 2).trans rfl; have fb3 : w3.cell? ⟨g1, 3, none⟩ = some (.slice A d.length c) := (blk_cell M1.out 3).trans rfl; have tb : w3.cell? ⟨g2, 0, none⟩ = some (.int .i64 tol) := (blk_cell M2.out 0).trans rfl; clear hb_))
      go_ret
      exact ⟨_, rfl, Kd.R_nil _ _ _ _ _, HB3.out⟩
    have k4_ : decide (b ≤ y) = false := decide_eq_false q4_
    by_cases q5_ : tol < 0
    · have k5_ : decide (tol < 0) = true := decide_eq_true q5_
      rw [if_neg (by omega)]
      go_enter Try.func26, Try.ntmps26
      go_wp2_with (first
        | ((with_reducible refine gate_dst (N := 4) rfl ?_); refine box_event ?hg (N := 4) ?hd (cs := #[.int .i64 a, .int .i64 b, .int .i64 p, .slice A d.length c]) (t := 28) ?hr ?_; (case hd => rfl); (case hg => rfl); (case hr => first | (go_simp; done) | (go_simp; rfl)); intro g1 hg_ w1 hbox hb; have HB1 := Aside0.mk (below_then HB0.out HB0.out.size hb); have K1 := Aside0.mk hbox; have G1 := Aside0.mk (show w.heap.size ≤ g1 from by rw [hg_]; exact HB0.out.size); clear hbox hb hg_)
        | ((with_reducible refine gate_dst (N := 7) rfl ?_); refine box_event ?hg (N := 7) ?hd (cs := #[.int .i64 tol]) (t := 3) ?hr ?_; (case hd => rfl); (case hg => rfl); (case hr => first | (go_simp; done) | (go_simp; rfl)); intro g2 hg_ w2 hbox hb; have HB2 := Aside0.mk (below_then HB1.out HB1.out.size hb); have K2 := Aside0.mk hbox; have K1b := Aside0.mk (blk_below K1.out hb); have G2 := Aside0.mk (show w.heap.size ≤ g2 from by rw [hg_]; exact HB1.out.size); have fa0 : w2.cell? ⟨g1, 0, none⟩ = some (.int .i64 a) := (blk_cell K1b.out 0).trans rfl; have fa1 : w2.cell? ⟨g1, 1, none⟩ = some (.int .i64 b) := (blk_cell K1b.out 1).trans rfl; have fa2 : w2.cell? ⟨g1, 2, none⟩ = some (.int .i64 p) := (blk_cell K1b.out 2).trans rfl; have fa3 : w2.cell? ⟨g1, 3, none⟩ = some (.slice A d.length c) := (blk_cell K1b.out 3).trans rfl; have ta : w2.cell? ⟨g2, 0, none⟩ = some (.int .i64 tol) := (blk_cell K2.out 0).trans rfl; clear hbox hb hg_)
        | (go_at_call 48; (with_reducible refine (impl_isImage.calls a b p A c d _ w2 (Kd.C_below HR.out HB2.out) HC.out E1.out).mono ?_); rintro e w3 ⟨rfl, hb_⟩; have HB3 := Aside0.mk (below_then HB2.out HB2.out.size hb_); have M1 := Aside0.mk (blk_below K1b.out hb_); have M2 := Aside0.mk (blk_below K2.out hb_); have fb0 : w3.cell? ⟨g1, 0, none⟩ = some (.int .i64 a) := (blk_cell M1.out 0).trans rfl; have fb1 : w3.cell? ⟨g1, 1, none⟩ = some (.int .i64 b) := (blk_cell M1.out 1).trans rfl; have fb2 : w3.cell? ⟨g1, 2, none⟩ = some (.int .i64 p) := (blk_cell M1.out 2).trans rfl; have fb3 : w3.cell? ⟨g1, 3, none⟩ = some (.slice A d.length c) := (blk_cell M1.out 3).trans rfl; have tb : w3.cell? ⟨g2, 0, none⟩ = some (.int .i64 tol) := (blk_cell M2.out 0).trans rfl; clear hb_))
      go_ret
      exact ⟨_, rfl, Kd.R_nil _ _ _ _ _, HB3.out⟩
    have k5_ : decide (tol < 0) = false := decide_eq_false q5_
    by_cases q6_ : 255 < tol
    · have k6_ : decide (255 < tol) = true := decide_eq_true q6_
      rw [if_neg (by omega)]
      go_enter Try.func26, Try.ntmps26
      go_wp2_with (first
        | ((with_reducible refine gate_dst (N := 4) rfl ?_); refine box_event ?hg (N := 4) ?hd (cs := #[.int .i64 a, .int .i64 b, .int .i64 p, .slice A d.length c]) (t := 28) ?hr ?_; (case hd => rfl); (case hg => rfl); (case hr => first | (go_simp; done) | (go_simp; rfl)); intro g1 hg_ w1 hbox hb; have HB1 := Aside0.mk (below_then HB0.out HB0.out.size hb); have K1 := Aside0.mk hbox; have G1 := Aside0.mk (show w.heap.size ≤ g1 from by rw [hg_]; exact HB0.out.size); clear hbox hb hg_)
        | ((with_reducible refine gate_dst (N := 7) rfl ?_); refine box_event ?hg (N := 7) ?hd (cs := #[.int .i64 tol]) (t := 3) ?hr ?_; (case hd => rfl); (case hg => rfl); (case hr => first | (go_simp; done) | (go_simp; rfl)); intro g2 hg_ w2 hbox hb; have HB2 := Aside0.mk (below_then HB1.out HB1.out.size hb); have K2 := Aside0.mk hbox; have K1b := Aside0.mk (blk_below K1.out hb); have G2 := Aside0.mk (show w.heap.size ≤ g2 from by rw [hg_]; exact HB1.out.size); have fa0 : w2.cell? ⟨g1, 0, none⟩ = some (.int .i64 a) := (blk_cell K1b.out 0).trans rfl; have fa1 : w2.cell? ⟨g1, 1, none⟩ = some (.int .i64 b) := (blk_cell K1b.out 1).trans rfl; have fa2 : w2.cell? ⟨g1, 2, none⟩ = some (.int .i64 p) := (blk_cell K1b.out 2).trans rfl; have fa3 : w2.cell? ⟨g1, 3, none⟩ = some (.slice A d.length c) := (blk_cell K1b.out 3).trans rfl; have ta : w2.cell? ⟨g2, 0, none⟩ = some (.int .i64 tol) := (blk_cell K2.out 0).trans rfl; clear hbox hb hg_)
        | (go_at_call 48; (with_reducible refine (impl_isImage.calls a b p A c d _ w2 (Kd.C_below HR.out HB2.out) HC.out E1.out).mono ?_); rintro e w3 ⟨rfl, hb_⟩; have HB3 := Aside0.mk (below_then HB2.out HB2.out.size hb_); have M1 := Aside0.mk (blk_below K1b.out hb_); have M2 := Aside0.mk (blk_below K2.out hb_); have fb0 : w3.cell? ⟨g1, 0, none⟩ = some (.int .i64 a) := (blk_cell M1.out 0).trans rfl; have fb1 : w3.cell? ⟨g1, 1, none⟩ = some (.int .i64 b) := (blk_cell M1.out 1).trans rfl; have fb2 : w3.cell? ⟨g1, 2, none⟩ = some (.int .i64 p) := (blk_cell M1.out 2).trans rfl; have fb3 : w3.cell? ⟨g1, 3, none⟩ = some (.slice A d.length c) := (blk_cell M1.out 3).trans rfl; have tb : w3.cell? ⟨g2, 0, none⟩ = some (.int .i64 tol) := (blk_cell M2.out 0).trans rfl; clear hb_))
      go_ret
      exact ⟨_, rfl, Kd.R_nil _ _ _ _ _, HB3.out⟩
    have k6_ : decide (255 < tol) = false := decide_eq_false q6_
    rw [if_pos ⟨rfl, by omega, by omega, by omega, by omega, by omega, by omega⟩]
    obtain ⟨X, rfl⟩ := Int.eq_ofNat_of_zero_le (show 0 ≤ x by omega)
    obtain ⟨Y, rfl⟩ := Int.eq_ofNat_of_zero_le (show 0 ≤ y by omega)
    rw [Int.toNat_natCast, Int.toNat_natCast]
    have hb := pixJ_is hv (x := X) (y := Y) (by omega) (by omega)
    have hh := (validI_iff a b p d).1 hv
    have hw : wrap64 (pixJ a p X Y + p) = pixJ a p X Y + p := w64 (by omega) (by omega)
    obtain ⟨P1, q1, hq1, HA⟩ := at_calls a b p A c d (X : Int) (Y : Int) (pixJ a p X Y) HC.out rfl (by omega) (by omega) (by omega)
    replace HA := Aside0.mk HA
    have HSL := Aside0.mk (show p ≤ ((pixT d (pixJ a p X Y) p).length : Int) from by
      unfold pixT
      rw [List.length_drop, List.length_take]
      omega)
    have HXY := Aside0.mk (show X < 16 ∧ Y < 16 from by omega)
    have HV := Aside0.mk hv
    have z0 := zero66
    have HSZ := Aside0.mk (fun g : Nat → Bool => show (gc fun _ => false).size = (gc g).size by rw [gc_size, gc_size])
    have HO := Aside0.mk (fun g : Nat → Bool => gc_one g)
    have HI := Aside0.mk (fun g : Nat → Bool => show (Try.prog.info? 75).map (·.size) = some (gc g).size by rw [gc_size]; exact info66)
    generalize pixT d (pixJ a p X Y) p = seed at HA HSL ⊢
    clear hb hh hw hq1 q1_ q2_ q3_ q4_ q5_ q6_ hv
    go_enter Try.func26, Try.ntmps26
    go_wp2_with (first
      | ((with_reducible refine gate_dst (N := 4) rfl ?_); refine box_event ?hg (N := 4) ?hd (cs := #[.int .i64 a, .int .i64 b, .int .i64 p, .slice A d.length c]) (t := 28) ?hr ?_; (case hd => rfl); (case hg => rfl); (case hr => first | (go_simp; done) | (go_simp; rfl)); intro g1 hg_ w1 hbox hb; have HB1 := Aside0.mk (below_then HB0.out HB0.out.size hb); have K1 := Aside0.mk hbox; have G1 := Aside0.mk (show w.heap.size ≤ g1 from by rw [hg_]; exact HB0.out.size); clear hbox hb hg_)
      | ((with_reducible refine gate_dst (N := 7) rfl ?_); refine box_event ?hg (N := 7) ?hd (cs := #[.int .i64 tol]) (t := 3) ?hr ?_; (case hd => rfl); (case hg => rfl); (case hr => first | (go_simp; done) | (go_simp; rfl)); intro g2 hg_ w2 hbox hb; have HB2 := Aside0.mk (below_then HB1.out HB1.out.size hb); have K2 := Aside0.mk hbox; have K1b := Aside0.mk (blk_below K1.out hb); have G2 := Aside0.mk (show w.heap.size ≤ g2 from by rw [hg_]; exact HB1.out.size); have fa0 : w2.cell? ⟨g1, 0, none⟩ = some (.int .i64 a) := (blk_cell K1b.out 0).trans rfl; have fa1 : w2.cell? ⟨g1, 1, none⟩ = some (.int .i64 b) := (blk_cell K1b.out 1).trans rfl; have fa2 : w2.cell? ⟨g1, 2, none⟩ = some (.int .i64 p) := (blk_cell K1b.out 2).trans rfl; have fa3 : w2.cell? ⟨g1, 3, none⟩ = some (.slice A d.length c) := (blk_cell K1b.out 3).trans rfl; have ta : w2.cell? ⟨g2, 0, none⟩ = some (.int .i64 tol) := (blk_cell K2.out 0).trans rfl; clear hbox hb hg_)
      | (go_at_call 48; (with_reducible refine (impl_isImage.calls a b p A c d _ w2 (Kd.C_below HR.out HB2.out) HC.out E1.out).mono ?_); rintro e w3 ⟨rfl, hb_⟩; have HB3 := Aside0.mk (below_then HB2.out HB2.out.size hb_); have M1 := Aside0.mk (blk_below K1b.out hb_); have M2 := Aside0.mk (blk_below K2.out hb_); have fb0 : w3.cell? ⟨g1, 0, none⟩ = some (.int .i64 a) := (blk_cell M1.out 0).trans rfl; have fb1 : w3.cell? ⟨g1, 1, none⟩ = some (.int .i64 b) := (blk_cell M1.out 1).trans rfl; have fb2 : w3.cell? ⟨g1, 2, none⟩ = some (.int .i64 p) := (blk_cell M1.out 2).trans rfl; have fb3 : w3.cell? ⟨g1, 3, none⟩ = some (.slice A d.length c) := (blk_cell M1.out 3).trans rfl; have tb : w3.cell? ⟨g2, 0, none⟩ = some (.int .i64 tol) := (blk_cell M2.out 0).trans rfl; clear hb_)
      | (go_at_call 59; (with_reducible refine ((HA.out w3 (Kd.C_below HR.out HB3.out)).2).mono ?_); rintro e w4 ⟨rfl, hb_⟩; have HB4 := Aside0.mk (below_then HB3.out HB3.out.size hb_); have N1 := Aside0.mk (blk_below M1.out hb_); have N2 := Aside0.mk (blk_below M2.out hb_); clear hb_)
      | ((with_reducible refine gate_dst (N := 9) rfl ?_); refine box_event ?hg (N := 9) ?hd (cs := #[.slice none 0 0]) (t := 22) ?hr ?_; (case hd => rfl); (case hg => rfl); (case hr => first | (go_simp; done) | (go_simp; rfl)); intro g3 hg_ w5 hbox hb; have HB5 := Aside0.mk (below_then HB4.out HB4.out.size hb); have K3 := Aside0.mk hbox; have O1 := Aside0.mk (blk_below N1.out hb); have O2 := Aside0.mk (blk_below N2.out hb); have NE1 := Aside0.mk (show g1 ≠ g3 from by rw [hg_]; exact Nat.ne_of_lt (blk_lt N1.out)); have NE2 := Aside0.mk (show g2 ≠ g3 from by rw [hg_]; exact Nat.ne_of_lt (blk_lt N2.out)); have G3 := Aside0.mk (show w.heap.size ≤ g3 from by rw [hg_]; exact HB4.out.size); have z3 : w5.cell? ⟨g3, 0, none⟩ = some (.slice none 0 0) := (blk_cell K3.out 0).trans rfl; have y3 := blk_frozen K3.out 0; clear hbox hb hg_)
      | (go_at_call 67; obtain ⟨w6, hw_⟩ : ∃ w6, w6 = w5.setCell ⟨g3, 0, none⟩ (.slice P1 seed.length q1) := ⟨_, rfl⟩; rw [← hw_]; have HB6 := Aside0.mk (show Below w.heap.size w w6 from by rw [hw_]; exact below_set HB5.out G3.out); have R3 := Aside0.mk (show w6.heap[g3]? = some (.cells #[.slice P1 seed.length q1] 22 (0, 0)) from by rw [hw_]; exact blk_put K3.out 0 _ rfl); have R1 := Aside0.mk (show w6.heap[g1]? = some (.cells #[.int .i64 a, .int .i64 b, .int .i64 p, .slice A d.length c] 28 (0, 0)) from by rw [hw_]; exact blk_far O1.out NE1.out _); have R2 := Aside0.mk (show w6.heap[g2]? = some (.cells #[.int .i64 tol] 3 (0, 0)) from by rw [hw_]; exact blk_far O2.out NE2.out _); clear hw_; refine (gridBy_calls 68 #[.pointer (some ⟨g1, 0, none⟩), .pointer (some ⟨g3, 0, none⟩), .pointer (some ⟨g2, 0, none⟩)] (likeP a b p d seed tol) w6 (enters_of Try.func68 (by kernel_rfl) rfl) (fun W x y hx hy hW => flood1_calls a b p tol A P1 c q1 d seed HV.out HC.out HSL.out x y hx hy g1 g3 g2 W (blk_below R1.out hW) (blk_below R3.out hW) (blk_below R2.out hW) (Kd.C_below (Kd.C_below HR.out HB6.out) hW) (Kd.C_below (HA.out w6 (Kd.C_below HR.out HB6.out)).1 hW))).mono ?_; rintro e w7 ⟨rfl, hb7⟩; have HB7 := Aside0.mk (below_then HB6.out HB6.out.size hb7); have HA7 : Aside0 ((w7.alloc (.cells (gc fun _ => false) 75)).heap[w7.heap.size]? = some (.cells (gc fun _ => false) 75 (0, 0))) := Aside0.mk (blk_new w7 (.cells (gc fun _ => false) 75)); have HA8 : Aside0 (((w7.alloc (.cells (gc fun _ => false) 75)).setRow w7.heap.size (gc (gso (likeP a b p d seed tol) 256))).heap[w7.heap.size]? = some (.cells (gc (gso (likeP a b p d seed tol) 256)) 75 (0, 0))) := Aside0.mk (GridAt.setRow (g := fun _ => false) HA7.out (gso (likeP a b p d seed tol) 256)); have HB8 := Aside0.mk (below_setRow (below_alloc HB7.out (.cells (gc fun _ => false) 75)) HB7.out.size (gc (gso (likeP a b p d seed tol) 256))); clear hb7)
      | ((with_reducible refine wpList_store_row rfl 75 (.tmp 10) (.tmp 47) rfl w7.heap.size (gc (gso (likeP a b p d seed tol) 256)) ?hx ?hy 75 (gc fun _ => false) HA7.out (HI.out _) (HSZ.out _) (HO.out _) ?_); (case hx => rfl); (case hy => rfl))
      | ((with_reducible refine gate_dst (N := 48) rfl ?_); refine wpList_load_row rfl 75 (.tmp 10) rfl w7.heap.size rfl 75 (gc (gso (likeP a b p d seed tol) 256)) (0, 0) (.array 16 73) HA8.out underlying66 rfl (HI.out _) ?_)
      | (go_at_call 70; refine (part_calls (gso (likeP a b p d seed tol) 256) X Y HXY.out.1 HXY.out.2 _).mono ?_; rintro e w9 ⟨rfl, hb9⟩; have HB9 := Aside0.mk (below_then HB8.out HB8.out.size hb9); clear hb9)
      | (go_at_call 71; refine (runs_calls _ _).mono ?_; rintro e w10 ⟨v10, rfl, hr10, hb10⟩; have HR10 := Aside0.mk (Kd.R_lower hr10 HB9.out.size); have HB10 := Aside0.mk (below_then HB9.out HB9.out.size hb10); clear hb10 hr10))
    go_ret
    exact ⟨v10, rfl, HR10.out, HB10.out⟩
end Go.Proofs.Ytbgohbinonkhfaa.Q

namespace Go.Proofs.Ytbgohbinonkhfaa.Q
open Go.RowKit Go.Proofs.YtbgohbinonkhfaaW.PrintWords Go.Proofs.YtbgohbinonkhfaaW.PrintLast Go.Proofs.YtbgohbinonkhfaaW.PrintMore
attribute [local go_sem] max2_int min2_int max_two min_two max_three min_three max_four min_four
set_option linter.unusedVariables false
set_option linter.unusedSimpArgs false
/-- A state of type 100 at block g of W; what its slices lead to came in by w0. -/
def IsS100 (w0 W : World) (g : Nat) (f0 : List Int) (f1 : Int) : Prop := ∃ A0 c0, W.heap[g]? = some (.cells #[.slice A0 f0.length c0, .int .i64 f1] 100 (0, 0)) ∧ w0.heap.size ≤ g ∧ Kd.C (Kd.int .u8) w0 A0 f0.length f0
theorem IsS100.grown {w0 W : World} {g : Nat} {f0 : List Int} {f1 : Int} {W1 : World} {row : Option Nat} (h : IsS100 w0 W g f0 f1) (hw : W.grownBy W1 row) (hne : some g ≠ row) : IsS100 w0 W1 g f0 f1 := by
  obtain ⟨A0, c0, hb, hg, hr0⟩ := h
  exact ⟨A0, c0, blk_grown hb hw hne, hg, hr0⟩
theorem IsS100.own_neN {w0 W : World} {g : Nat} {f0 : List Int} {f1 : Int} {α : Type} {d : Kd α} {e : Nat} {base : Nat} {ok : Nat → Prop} {v : Value} {xs : List α} (h : IsS100 w0 W g f0 f1) (ho : Kd.N d e W base ok v xs) (ht : e ≠ 100) : some g ≠ v.ownBlock := by
  obtain ⟨A0, c0, hb, hg, hr0⟩ := h
  exact Kd.N_ne ho hb ht
theorem IsS100.fresh {w0 W : World} {g : Nat} {f0 : List Int} {f1 : Int} (h : IsS100 w0 W g f0 f1) : ∀ k, W.heap.size ≤ k → k ≠ g := by
  obtain ⟨A0, c0, hb, hg, hr0⟩ := h
  exact Kd.freshB hb
theorem IsS100.kept {w0 W : World} {g : Nat} {f0 : List Int} {f1 : Int} {W1 : World} {S : Nat → Prop} (h : IsS100 w0 W g f0 f1) (hk : Kept W W1 S) (hne : ¬ S g) : IsS100 w0 W1 g f0 f1 := by
  obtain ⟨A0, c0, hb, hg, hr0⟩ := h
  exact ⟨A0, c0, blk_kept hb hk hne, hg, hr0⟩
theorem IsS100.below {w0 W : World} {g : Nat} {f0 : List Int} {f1 : Int} {W1 : World} (h : IsS100 w0 W g f0 f1) (hw : Below W.heap.size W W1) : IsS100 w0 W1 g f0 f1 := h.grown (grown_of_below hw none) (by simp)
theorem IsS100.alloc {w0 W : World} {g : Nat} {f0 : List Int} {f1 : Int} (h : IsS100 w0 W g f0 f1) (o : Obj) : IsS100 w0 (W.alloc o) g f0 f1 := h.below (below_alloc (Below.refl _ _) o)
theorem IsS100.drewN {w0 W : World} {g : Nat} {f0 : List Int} {f1 : Int} (h : IsS100 w0 W g f0 f1) (m : Nat) : IsS100 w0 (W.drewN m) g f0 f1 := h
theorem IsS100.drew {w0 W : World} {g : Nat} {f0 : List Int} {f1 : Int} (h : IsS100 w0 W g f0 f1) : IsS100 w0 W.drew g f0 f1 := h
theorem IsS100.at_ {w0 W : World} {g : Nat} {f0 : List Int} {f1 : Int} {w' : World} {m : Nat} (hq : W.drewN m = w') (h : IsS100 w0 W g f0 f1) : IsS100 w0 w' g f0 f1 := by subst hq; exact IsS100.drewN h m
theorem IsS100.apart {w0 W : World} {g : Nat} {f0 : List Int} {f1 : Int} {α : Type} {d : Kd α} {e : Nat} {base : Nat} {ok : Nat → Prop} {v : Value} {xs : List α} (h : IsS100 w0 W g f0 f1) (ho : d.R e W base ok v xs) (ht : ∀ q, q ∈ e :: d.E → q ≠ 100) : d.R e W base (fun k => ok k ∧ k ≠ g) v xs := by
  obtain ⟨A0, c0, hb, hg, hr0⟩ := h
  exact Kd.R_types ho hb ht
theorem IsS100.own_ne {w0 W : World} {g : Nat} {f0 : List Int} {f1 : Int} {α : Type} {d : Kd α} {e : Nat} {base : Nat} {ok : Nat → Prop} {v : Value} {xs : List α} (h : IsS100 w0 W g f0 f1) (ho : d.R e W base ok v xs) (ht : e ≠ 100) : some g ≠ v.ownBlock := by
  obtain ⟨A0, c0, hb, hg, hr0⟩ := h
  exact Kd.R_ne ho hb ht
theorem IsS100.apartQ {w0 W : World} {g : Nat} {f0 : List Int} {f1 : Int} {α : Type} {d : Kd α} {e : Nat} {base : Nat} {ok : Nat → Prop} {v : Value} {xs : List α} (h : IsS100 w0 W g f0 f1) (ho : d.Q e W base ok v xs) (ht : ∀ q, q ∈ e :: d.E → q ≠ 100) : d.Q e W base (fun k => ok k ∧ k ≠ g) v xs := by
  obtain ⟨A0, c0, hb, hg, hr0⟩ := h
  exact Kd.Q_types ho hb ht
theorem IsS100.own_neQ {w0 W : World} {g : Nat} {f0 : List Int} {f1 : Int} {α : Type} {d : Kd α} {e : Nat} {base : Nat} {ok : Nat → Prop} {v : Value} {xs : List α} (h : IsS100 w0 W g f0 f1) (ho : d.Q e W base ok v xs) (ht : e ≠ 100) : some g ≠ v.ownBlock := by
  obtain ⟨A0, c0, hb, hg, hr0⟩ := h
  exact Kd.Q_ne ho hb ht
theorem IsS100.apartS {w0 W : World} {g : Nat} {f0 : List Int} {f1 : Int} {α : Type} {d : Kd α} {e : Nat} {base : Nat} {ok : Nat → Prop} {v : Value} {xs : List α} (h : IsS100 w0 W g f0 f1) (ho : d.S e W base ok v xs) (ht : ∀ q, q ∈ e :: d.E → q ≠ 100) : d.S e W base (fun k => ok k ∧ k ≠ g) v xs := by
  obtain ⟨A0, c0, hb, hg, hr0⟩ := h
  exact Kd.S_types ho hb ht
theorem IsS100.own_neS {w0 W : World} {g : Nat} {f0 : List Int} {f1 : Int} {α : Type} {d : Kd α} {e : Nat} {base : Nat} {ok : Nat → Prop} {v : Value} {xs : List α} (h : IsS100 w0 W g f0 f1) (ho : d.S e W base ok v xs) (ht : e ≠ 100) : some g ≠ v.ownBlock := by
  obtain ⟨A0, c0, hb, hg, hr0⟩ := h
  exact Kd.S_ne ho hb ht
theorem IsS100.lt {w0 W : World} {g : Nat} {f0 : List Int} {f1 : Int} (h : IsS100 w0 W g f0 f1) : g < W.heap.size := by
  obtain ⟨A0, c0, hb, hg, hr0⟩ := h
  exact blk_lt hb
theorem IsS100.ge {w0 W : World} {g : Nat} {f0 : List Int} {f1 : Int} (h : IsS100 w0 W g f0 f1) : w0.heap.size ≤ g := by
  obtain ⟨A0, c0, hb, hg, hr0⟩ := h
  exact hg
theorem IsS100.ne_blk {w0 W : World} {g : Nat} {f0 : List Int} {f1 : Int} {a : Nat} {cs : Array Value} {t : TypeId} {fr : Nat × Nat} (h : IsS100 w0 W g f0 f1) (hb2 : W.heap[a]? = some (.cells cs t fr)) (ht : t ≠ 100) : g ≠ a := by
  obtain ⟨A0, c0, hb, hg, hr0⟩ := h
  rintro rfl
  rw [hb] at hb2
  injection hb2 with hb2
  injection hb2 with _ ht2
  exact ht ht2.symm
theorem IsS100.far {w0 W : World} {g : Nat} {f0 : List Int} {f1 : Int} {p : Addr} (h : IsS100 w0 W g f0 f1) (hne : g ≠ p.block) (u : Value) : IsS100 w0 (W.setCell p u) g f0 f1 := by
  obtain ⟨A0, c0, hb, hg, hr0⟩ := h
  exact ⟨A0, c0, blk_far hb hne u, hg, hr0⟩
theorem cellS100_0 {W : World} {g : Nat} {A0 : Option Addr} {c0 : Nat} {f0 : List Int} {f1 : Int} (h : W.heap[g]? = some (.cells #[.slice A0 f0.length c0, .int .i64 f1] 100 (0, 0))) : W.cell? ⟨g, 0, none⟩ = some (.slice A0 f0.length c0) := (blk_cell h 0).trans rfl
theorem cellS100_1 {W : World} {g : Nat} {A0 : Option Addr} {c0 : Nat} {f0 : List Int} {f1 : Int} (h : W.heap[g]? = some (.cells #[.slice A0 f0.length c0, .int .i64 f1] 100 (0, 0))) : W.cell? ⟨g, 1, none⟩ = some (.int .i64 f1) := (blk_cell h 1).trans rfl
theorem IsS100.set_1 {w0 W : World} {g : Nat} {f0 : List Int} {f1 : Int} (h : IsS100 w0 W g f0 f1) (x : Int) : IsS100 w0 (W.setCell ⟨g, 1, none⟩ (.int .i64 x)) g f0 x := by
  obtain ⟨A0, c0, hb, hg, hr0⟩ := h
  exact ⟨A0, c0, by simpa using blk_set hb 1 (.int .i64 x), hg, hr0⟩
theorem IsS100.new (w0 W : World) (A0 : Option Addr) (c0 : Nat) (f0 : List Int) (f1 : Int) (hB : Below w0.heap.size w0 W) (hr0 : Kd.C (Kd.int .u8) w0 A0 f0.length f0) : IsS100 w0 (W.alloc (.cells #[.slice A0 f0.length c0, .int .i64 f1] 100)) W.heap.size f0 f1 := ⟨A0, c0, by simpa using heap_alloc_new W _, hB.size, hr0⟩

/-! ### spec_reader_pick: function 82 -/
def spec_reader_pick.j0 : Nat → Int → Bool → List Int → Int → Option (Int × Int)
  | 0, _, _, _, _ => none
  | k + 1, x1, x24, x1000, x1001 => if x24 = true then (some (0, x1001)) else (if (wrap64 (x1001 - 1)) < (x1000.length : Int) then (if 0 ≤ (wrap64 (x1001 - 1)) then (if x1 = 0 then (none) else (some (Int.tmod (wrap64 (rd x1000 (wrap64 (x1001 - 1)))) x1, x1001))) else (none)) else (if (x1000.length : Int) = 0 then (none) else (if 0 ≤ (Int.tmod (wrap64 (x1001 - 1)) (x1000.length : Int)) then (if (Int.tmod (wrap64 (x1001 - 1)) (x1000.length : Int)) < (x1000.length : Int) then (if 0 ≤ (Int.tmod (wrap64 ((wrap64 ((wrap64 (x1001 - 1)) * 7)) + 3)) (x1000.length : Int)) then (if (Int.tmod (wrap64 ((wrap64 ((wrap64 (x1001 - 1)) * 7)) + 3)) (x1000.length : Int)) < (x1000.length : Int) then (if x1 = 0 then (none) else (some (Int.tmod (Go.bits .xor .i64 (wrap64 ((wrap64 ((wrap64 ((wrap64 ((wrap64 (rd x1000 (Int.tmod (wrap64 (x1001 - 1)) (x1000.length : Int)))) * 131)) + (wrap64 ((wrap64 (rd x1000 (Int.tmod (wrap64 ((wrap64 ((wrap64 (x1001 - 1)) * 7)) + 3)) (x1000.length : Int)))) * 1117)))) + (wrap64 ((wrap64 (x1001 - 1)) * 29)))) + (wrap64 ((wrap64 (Int.tdiv (wrap64 (x1001 - 1)) (x1000.length : Int))) * 53)))) (wrap64 (Int.tdiv (wrap64 ((wrap64 ((wrap64 ((wrap64 ((wrap64 (rd x1000 (Int.tmod (wrap64 (x1001 - 1)) (x1000.length : Int)))) * 131)) + (wrap64 ((wrap64 (rd x1000 (Int.tmod (wrap64 ((wrap64 ((wrap64 (x1001 - 1)) * 7)) + 3)) (x1000.length : Int)))) * 1117)))) + (wrap64 ((wrap64 (x1001 - 1)) * 29)))) + (wrap64 ((wrap64 (Int.tdiv (wrap64 (x1001 - 1)) (x1000.length : Int))) * 53)))) 64))) x1, x1001))) else (none)) else (none)) else (none)) else (none))))
def spec_reader_pick.f (k : Nat) (s0_0 : List Int) (s0_1 : Int) (a1 : Int) : Option (Int × Int) := if a1 < 1 then (spec_reader_pick.j0 k a1 true s0_0 (wrap64 (s0_1 + 1))) else (spec_reader_pick.j0 k a1 ((s0_0.length : Int) == 0) s0_0 (wrap64 (s0_1 + 1)))
theorem spec_reader_pick.mono_l : ∀ k, (∀ y0 y1 y2 y3, LeO (spec_reader_pick.j0 k y0 y1 y2 y3) (spec_reader_pick.j0 (k + 1) y0 y1 y2 y3))
  | 0 => fun _ _ _ _ r h => by simp [spec_reader_pick.j0] at h
  | k + 1 => by
    have ih0 := spec_reader_pick.mono_l k
    · intro y0 y1 y2 y3
      unfold spec_reader_pick.j0
      repeat' first
      | (with_reducible exact ih0 _ _ _ _)
      | (with_reducible exact LeO.refl _)
      | (with_reducible exact LeO.none _)
      | (with_reducible refine LeO.ite ?_ ?_)
      | (with_reducible refine LeO.bind ?_ (fun _ => ?_))
      | exact ih0 _ _ _ _
      | exact LeO.none _
      | refine LeO.ite ?_ ?_
      | refine LeO.bind ?_ (fun _ => ?_)
theorem spec_reader_pick.mono : ∀ a0 a1 a2 k, LeO (spec_reader_pick.f k a0 a1 a2) (spec_reader_pick.f (k + 1) a0 a1 a2) := by
  intro a0 a1 a2 k
  have ih0 := spec_reader_pick.mono_l k
  unfold spec_reader_pick.f
  repeat' first
      | (with_reducible exact ih0 _ _ _ _)
      | (with_reducible exact LeO.refl _)
      | (with_reducible exact LeO.none _)
      | (with_reducible refine LeO.ite ?_ ?_)
      | (with_reducible refine LeO.bind ?_ (fun _ => ?_))
      | exact ih0 _ _ _ _
      | exact LeO.none _
      | refine LeO.ite ?_ ?_
      | refine LeO.bind ?_ (fun _ => ?_)
set_option maxHeartbeats 8000000 in
set_option maxRecDepth 100000 in
theorem spec_reader_pick.calls (k : Nat) (g : Nat) (s0_0 : List Int) (s0_1 : Int) (a1 : Int) (r1 : Int) (r2 : Int) (w0 w : World) (hI : IsS100 w0 w g s0_0 s0_1) (hB : Below w0.heap.size w0 w) (h : spec_reader_pick.f k s0_0 s0_1 a1 = some (r1, r2)) :
    Calls Try.prog 82 #[.pointer (some ⟨g, 0, none⟩), .int .i64 a1] w fun e w' => e = .returned (.int .i64 r1) ∧ IsS100 w0 w' g s0_0 r2 ∧ Below w0.heap.size w0 w' ∧ KeepBut w w' g none := by
  have HI0 := Aside0.mk hI
  have HK := Aside0.mk (KeepBut.refl w g none)
  have HL := Aside0.mk hB.size
  clear hI
  have HW0 := Aside0.mk hB.size
  have HB := Aside0.mk hB
  clear hB
  have H : (if a1 < 1 then (spec_reader_pick.j0 k a1 true s0_0 (wrap64 (s0_1 + 1))) else (spec_reader_pick.j0 k a1 ((s0_0.length : Int) == 0) s0_0 (wrap64 (s0_1 + 1)))) = some (r1, r2) := h
  clear h
  have HC3 := Aside0.mk H
  clear H
  obtain ⟨ASz4_0, cSz4_0, HGz4, hgz4, HSz4_0⟩ := HI0.out
  have hcz4_0 := cellS100_0 HGz4
  have hcz4_1 := cellS100_1 HGz4
  have hfz4_1 := blk_frozen HGz4 1
  clear HGz4 hgz4
  go_enter Try.func82, Try.ntmps82
  go_upto_region 2 with (fail)
  repeat (go_quiet (fail); go_upto_region 2 with (fail))
  go_cut [24] (fun v24 wc => ∃ (kq : Nat) (x24_2 : Bool), v24 = .bool x24_2 ∧ Aside0 (spec_reader_pick.j0 kq a1 x24_2 s0_0 (wrap64 (s0_1 + 1)) = some (r1, r2)) ∧ Aside0 (kq ≤ k) ∧ Aside0 (IsS100 w0 wc g s0_0 (wrap64 (s0_1 + 1))) ∧ Aside0 (KeepBut w wc g none) ∧ Aside0 (Below w0.heap.size w0 wc))
  case first =>
    have H := HC3.out
    clear HC3
    by_cases c5 : a1 < 1
    · rw [if_pos c5] at H
      have c5b0 : decide (a1 < 1) = true := decide_eq_true c5
      clear c5
      (first | rw [c5b0] | (simp only [i64_w, i32_w]; rw [c5b0]) | skip)
      have H' := Aside0.mk H
      clear H
      go_wp2
      repeat (go_quiet (fail); try go_wp2)
      go_meet
      case rel => exact ⟨_, (true), (by first | rfl | (simp; done) | (simp [*]; done)), H', ⟨by first | omega | exact Nat.le_refl _⟩, ⟨by repeat (first | (with_reducible first | exact HI0.out | apply IsS100.alloc | apply IsS100.drewN | apply IsS100.drew | apply IsS100.set_1) | exact HI0.out)⟩, ⟨by repeat (first | (with_reducible first | exact HK.out | apply KeepBut.set_ | apply keep_drewN | apply keep_drew | apply keep_alloc) | exact HK.out)⟩, ⟨by repeat (first | (with_reducible first | exact HB.out | apply below_alloc | apply pw_below_drewN | apply below_drew1 | refine below_set ?_ (IsS100.ge HI0.out)) | exact HB.out)⟩⟩
    · rw [if_neg c5] at H
      have c5b0 : decide (a1 < 1) = false := decide_eq_false c5
      clear c5
      (first | rw [c5b0] | (simp only [i64_w, i32_w]; rw [c5b0]) | skip)
      have H' := Aside0.mk H
      clear H
      obtain ⟨ASz6_0, cSz6_0, HGz6, hgz6, HSz6_0⟩ := HI0.out
      have hcz6_0 := cellS100_0 HGz6
      have hcz6_1 := cellS100_1 HGz6
      have hfz6_1 := blk_frozen HGz6 1
      clear HGz6 hgz6
      go_wp2
      repeat (go_quiet (fail); try go_wp2)
      go_meet
      case rel => exact ⟨_, (((s0_0.length : Int) == 0)), (by first | rfl | (simp; done) | (simp [*]; done)), H', ⟨by first | omega | exact Nat.le_refl _⟩, ⟨by repeat (first | (with_reducible first | exact HI0.out | apply IsS100.alloc | apply IsS100.drewN | apply IsS100.drew | apply IsS100.set_1) | exact HI0.out)⟩, ⟨by repeat (first | (with_reducible first | exact HK.out | apply KeepBut.set_ | apply keep_drewN | apply keep_drew | apply keep_alloc) | exact HK.out)⟩, ⟨by repeat (first | (with_reducible first | exact HB.out | apply below_alloc | apply pw_below_drewN | apply below_drew1 | refine below_set ?_ (IsS100.ge HI0.out)) | exact HB.out)⟩⟩
  case rest =>
    clear HC3
    try clear p2
    try clear c5
    try clear c5b0
    try clear p6
    try clear hcz4_0
    try clear hcz4_1
    try clear hcz6_0
    try clear hcz6_1
    try clear hfz4_1
    try clear hfz6_1
    obtain ⟨kq, x24_2, rfl, HA, HJ2, HI0, HK, HB⟩ := hcut
    cases kq with
    | zero => exact absurd HA.out (by simp [spec_reader_pick.j0])
    | succ kj2 =>
      have H := HA.out
      clear HA
      simp only [spec_reader_pick.j0] at H
      by_cases c7 : x24_2 = true
      · subst c7
        have H1 : (some (0, (wrap64 (s0_1 + 1)))) = some (r1, r2) := by rw [if_pos rfl] at H; exact H
        clear H
        have H := H1
        clear H1
        simp only [Option.some.injEq, Prod.mk.injEq] at H
        obtain ⟨rfl, rfl⟩ := H
        go_wp2
        repeat (go_quiet (fail); try go_wp2)
        go_ret
        exact ⟨by first | rfl | (simp [errW_none, errW_some] <;> rfl) | (simp [*, errW_none, errW_some] <;> rfl), by repeat (first | (with_reducible first | exact HI0.out | apply IsS100.alloc | apply IsS100.drewN | apply IsS100.drew | apply IsS100.set_1) | exact HI0.out), by repeat (first | (with_reducible first | exact HB.out | apply below_alloc | apply pw_below_drewN | apply below_drew1 | refine below_set ?_ (IsS100.ge HI0.out)) | exact HB.out), by repeat (first | (with_reducible first | exact HK.out | apply KeepBut.set_ | apply keep_drewN | apply keep_drew | apply keep_alloc) | exact HK.out)⟩
      · replace c7 := Bool.eq_false_iff.mpr c7
        subst c7
        have H1 : (if (wrap64 ((wrap64 (s0_1 + 1)) - 1)) < (s0_0.length : Int) then (if 0 ≤ (wrap64 ((wrap64 (s0_1 + 1)) - 1)) then (if a1 = 0 then (none) else (some (Int.tmod (wrap64 (rd s0_0 (wrap64 ((wrap64 (s0_1 + 1)) - 1)))) a1, (wrap64 (s0_1 + 1))))) else (none)) else (if (s0_0.length : Int) = 0 then (none) else (if 0 ≤ (Int.tmod (wrap64 ((wrap64 (s0_1 + 1)) - 1)) (s0_0.length : Int)) then (if (Int.tmod (wrap64 ((wrap64 (s0_1 + 1)) - 1)) (s0_0.length : Int)) < (s0_0.length : Int) then (if 0 ≤ (Int.tmod (wrap64 ((wrap64 ((wrap64 ((wrap64 (s0_1 + 1)) - 1)) * 7)) + 3)) (s0_0.length : Int)) then (if (Int.tmod (wrap64 ((wrap64 ((wrap64 ((wrap64 (s0_1 + 1)) - 1)) * 7)) + 3)) (s0_0.length : Int)) < (s0_0.length : Int) then (if a1 = 0 then (none) else (some (Int.tmod (Go.bits .xor .i64 (wrap64 ((wrap64 ((wrap64 ((wrap64 ((wrap64 (rd s0_0 (Int.tmod (wrap64 ((wrap64 (s0_1 + 1)) - 1)) (s0_0.length : Int)))) * 131)) + (wrap64 ((wrap64 (rd s0_0 (Int.tmod (wrap64 ((wrap64 ((wrap64 ((wrap64 (s0_1 + 1)) - 1)) * 7)) + 3)) (s0_0.length : Int)))) * 1117)))) + (wrap64 ((wrap64 ((wrap64 (s0_1 + 1)) - 1)) * 29)))) + (wrap64 ((wrap64 (Int.tdiv (wrap64 ((wrap64 (s0_1 + 1)) - 1)) (s0_0.length : Int))) * 53)))) (wrap64 (Int.tdiv (wrap64 ((wrap64 ((wrap64 ((wrap64 ((wrap64 (rd s0_0 (Int.tmod (wrap64 ((wrap64 (s0_1 + 1)) - 1)) (s0_0.length : Int)))) * 131)) + (wrap64 ((wrap64 (rd s0_0 (Int.tmod (wrap64 ((wrap64 ((wrap64 ((wrap64 (s0_1 + 1)) - 1)) * 7)) + 3)) (s0_0.length : Int)))) * 1117)))) + (wrap64 ((wrap64 ((wrap64 (s0_1 + 1)) - 1)) * 29)))) + (wrap64 ((wrap64 (Int.tdiv (wrap64 ((wrap64 (s0_1 + 1)) - 1)) (s0_0.length : Int))) * 53)))) 64))) a1, (wrap64 (s0_1 + 1))))) else (none)) else (none)) else (none)) else (none)))) = some (r1, r2) := by rw [if_neg (show ¬ (false = true) by decide)] at H; exact H
        clear H
        have H := H1
        clear H1
        by_cases c8 : (wrap64 ((wrap64 (s0_1 + 1)) - 1)) < (s0_0.length : Int)
        · rw [if_pos c8] at H
          have c8b0 : decide ((wrap64 ((wrap64 (s0_1 + 1)) - 1)) < (s0_0.length : Int)) = true := decide_eq_true c8
          clear c8
          obtain ⟨ji9, hji9⟩ : ∃ j_ : Int, (wrap64 ((wrap64 (s0_1 + 1)) - 1)) = j_ := ⟨_, rfl⟩
          replace H : (if 0 ≤ (ji9) then (if a1 = 0 then (none) else (some (Int.tmod (wrap64 (rd s0_0 (ji9))) a1, (wrap64 (s0_1 + 1))))) else (none)) = some (r1, r2) := by first | (rw [hji9] at H; exact H) | (simp only [hji9] at H ⊢; exact H)
          (try rw [hji9] at c8b0)
          have hji9w : (IntKind.i64.wrap ((wrap64 (s0_1 + 1)) - 1)) = ji9 := (i64_w _).trans hji9
          by_cases c10 : 0 ≤ (ji9)
          · rw [if_pos c10] at H
            have c10b0 : decide (0 ≤ (ji9)) = true := decide_eq_true c10
            clear c10
            by_cases c11 : a1 = 0
            · rw [if_pos c11] at H
              exact absurd H (by simp)
            · rw [if_neg c11] at H
              have c11b0 : (a1 == 0) = false := beq_eq_false_iff_ne.mpr c11
              have c11b1 : (a1 != 0) = true := bne_iff_ne.mpr c11
              simp only [Option.some.injEq, Prod.mk.injEq] at H
              obtain ⟨rfl, rfl⟩ := H
              obtain ⟨ASz12_0, cSz12_0, HGz12, hgz12, HSz12_0⟩ := HI0.out
              have hcz12_0 := cellS100_0 HGz12
              have hcz12_1 := cellS100_1 HGz12
              have hfz12_1 := blk_frozen HGz12 1
              clear HGz12 hgz12
              have p83001 : 0 ≤ ((ji9) : Int) := of_decide_eq_true (by first | (with_reducible assumption) | assumption)
              have q83001 : (ji9) < (s0_0.length : Int) := of_decide_eq_true (by first | (with_reducible assumption) | assumption)
              obtain ⟨ad83001, e83001, hx83001_0⟩ := Kd.at_int HSz12_0 (ji9) p83001 q83001
              cases e83001
              replace hx83001_0 := pw_cell_below HB.out hx83001_0
              replace p83001 := eq_true p83001
              replace q83001 := eq_true q83001
              go_wp2
              repeat (go_quiet (fail); try go_wp2)
              go_ret
              exact ⟨by first | rfl | (simp [errW_none, errW_some] <;> rfl) | (simp only [← hji9]; first | rfl | (simp [errW_none, errW_some] <;> rfl)) | (simp [*, errW_none, errW_some] <;> rfl), by repeat (first | (with_reducible first | exact HI0.out | apply IsS100.alloc | apply IsS100.drewN | apply IsS100.drew | apply IsS100.set_1) | exact HI0.out), by repeat (first | (with_reducible first | exact HB.out | apply below_alloc | apply pw_below_drewN | apply below_drew1 | refine below_set ?_ (IsS100.ge HI0.out)) | exact HB.out), by repeat (first | (with_reducible first | exact HK.out | apply KeepBut.set_ | apply keep_drewN | apply keep_drew | apply keep_alloc) | exact HK.out)⟩
          · rw [if_neg c10] at H
            exact absurd H (by simp)
        · rw [if_neg c8] at H
          have c8b0 : decide ((wrap64 ((wrap64 (s0_1 + 1)) - 1)) < (s0_0.length : Int)) = false := decide_eq_false c8
          clear c8
          by_cases c13 : (s0_0.length : Int) = 0
          · rw [if_pos c13] at H
            exact absurd H (by simp)
          · rw [if_neg c13] at H
            have c13b0 : ((s0_0.length : Int) == 0) = false := beq_eq_false_iff_ne.mpr c13
            have c13b1 : ((s0_0.length : Int) != 0) = true := bne_iff_ne.mpr c13
            have c13b2 : ¬ (s0_0 = []) := fun h_ => c13 (by rw [h_]; rfl)
            obtain ⟨ji14, hji14⟩ : ∃ j_ : Int, (Int.tmod (wrap64 ((wrap64 (s0_1 + 1)) - 1)) (s0_0.length : Int)) = j_ := ⟨_, rfl⟩
            replace H : (if 0 ≤ (ji14) then (if (ji14) < (s0_0.length : Int) then (if 0 ≤ (Int.tmod (wrap64 ((wrap64 ((wrap64 ((wrap64 (s0_1 + 1)) - 1)) * 7)) + 3)) (s0_0.length : Int)) then (if (Int.tmod (wrap64 ((wrap64 ((wrap64 ((wrap64 (s0_1 + 1)) - 1)) * 7)) + 3)) (s0_0.length : Int)) < (s0_0.length : Int) then (if a1 = 0 then (none) else (some (Int.tmod (Go.bits .xor .i64 (wrap64 ((wrap64 ((wrap64 ((wrap64 ((wrap64 (rd s0_0 (ji14))) * 131)) + (wrap64 ((wrap64 (rd s0_0 (Int.tmod (wrap64 ((wrap64 ((wrap64 ((wrap64 (s0_1 + 1)) - 1)) * 7)) + 3)) (s0_0.length : Int)))) * 1117)))) + (wrap64 ((wrap64 ((wrap64 (s0_1 + 1)) - 1)) * 29)))) + (wrap64 ((wrap64 (Int.tdiv (wrap64 ((wrap64 (s0_1 + 1)) - 1)) (s0_0.length : Int))) * 53)))) (wrap64 (Int.tdiv (wrap64 ((wrap64 ((wrap64 ((wrap64 ((wrap64 (rd s0_0 (ji14))) * 131)) + (wrap64 ((wrap64 (rd s0_0 (Int.tmod (wrap64 ((wrap64 ((wrap64 ((wrap64 (s0_1 + 1)) - 1)) * 7)) + 3)) (s0_0.length : Int)))) * 1117)))) + (wrap64 ((wrap64 ((wrap64 (s0_1 + 1)) - 1)) * 29)))) + (wrap64 ((wrap64 (Int.tdiv (wrap64 ((wrap64 (s0_1 + 1)) - 1)) (s0_0.length : Int))) * 53)))) 64))) a1, (wrap64 (s0_1 + 1))))) else (none)) else (none)) else (none)) else (none)) = some (r1, r2) := by first | (rw [hji14] at H; exact H) | (simp only [hji14] at H ⊢; exact H)
            by_cases c15 : 0 ≤ (ji14)
            · rw [if_pos c15] at H
              have c15b0 : decide (0 ≤ (ji14)) = true := decide_eq_true c15
              clear c15
              by_cases c16 : (ji14) < (s0_0.length : Int)
              · rw [if_pos c16] at H
                have c16b0 : decide ((ji14) < (s0_0.length : Int)) = true := decide_eq_true c16
                clear c16
                obtain ⟨ji17, hji17⟩ : ∃ j_ : Int, (Int.tmod (wrap64 ((wrap64 ((wrap64 ((wrap64 (s0_1 + 1)) - 1)) * 7)) + 3)) (s0_0.length : Int)) = j_ := ⟨_, rfl⟩
                replace H : (if 0 ≤ (ji17) then (if (ji17) < (s0_0.length : Int) then (if a1 = 0 then (none) else (some (Int.tmod (Go.bits .xor .i64 (wrap64 ((wrap64 ((wrap64 ((wrap64 ((wrap64 (rd s0_0 (ji14))) * 131)) + (wrap64 ((wrap64 (rd s0_0 (ji17))) * 1117)))) + (wrap64 ((wrap64 ((wrap64 (s0_1 + 1)) - 1)) * 29)))) + (wrap64 ((wrap64 (Int.tdiv (wrap64 ((wrap64 (s0_1 + 1)) - 1)) (s0_0.length : Int))) * 53)))) (wrap64 (Int.tdiv (wrap64 ((wrap64 ((wrap64 ((wrap64 ((wrap64 (rd s0_0 (ji14))) * 131)) + (wrap64 ((wrap64 (rd s0_0 (ji17))) * 1117)))) + (wrap64 ((wrap64 ((wrap64 (s0_1 + 1)) - 1)) * 29)))) + (wrap64 ((wrap64 (Int.tdiv (wrap64 ((wrap64 (s0_1 + 1)) - 1)) (s0_0.length : Int))) * 53)))) 64))) a1, (wrap64 (s0_1 + 1))))) else (none)) else (none)) = some (r1, r2) := by first | (rw [hji17] at H; exact H) | (simp only [hji17] at H ⊢; exact H)
                by_cases c18 : 0 ≤ (ji17)
                · rw [if_pos c18] at H
                  have c18b0 : decide (0 ≤ (ji17)) = true := decide_eq_true c18
                  clear c18
                  by_cases c19 : (ji17) < (s0_0.length : Int)
                  · rw [if_pos c19] at H
                    have c19b0 : decide ((ji17) < (s0_0.length : Int)) = true := decide_eq_true c19
                    clear c19
                    by_cases c20 : a1 = 0
                    · rw [if_pos c20] at H
                      exact absurd H (by simp)
                    · rw [if_neg c20] at H
                      have c20b0 : (a1 == 0) = false := beq_eq_false_iff_ne.mpr c20
                      have c20b1 : (a1 != 0) = true := bne_iff_ne.mpr c20
                      simp only [Option.some.injEq, Prod.mk.injEq] at H
                      obtain ⟨rfl, rfl⟩ := H
                      obtain ⟨ASz21_0, cSz21_0, HGz21, hgz21, HSz21_0⟩ := HI0.out
                      have hcz21_0 := cellS100_0 HGz21
                      have hcz21_1 := cellS100_1 HGz21
                      have hfz21_1 := blk_frozen HGz21 1
                      clear HGz21 hgz21
                      have p83002 : 0 ≤ ((ji14) : Int) := of_decide_eq_true (by first | (with_reducible assumption) | assumption)
                      have q83002 : (ji14) < (s0_0.length : Int) := of_decide_eq_true (by first | (with_reducible assumption) | assumption)
                      obtain ⟨ad83002, e83002, hx83002_0⟩ := Kd.at_int HSz21_0 (ji14) p83002 q83002
                      cases e83002
                      replace hx83002_0 := pw_cell_below HB.out hx83002_0
                      replace p83002 := eq_true p83002
                      replace q83002 := eq_true q83002
                      have p83003 : 0 ≤ ((ji17) : Int) := of_decide_eq_true (by first | (with_reducible assumption) | assumption)
                      have q83003 : (ji17) < (s0_0.length : Int) := of_decide_eq_true (by first | (with_reducible assumption) | assumption)
                      obtain ⟨ad83003, e83003, hx83003_0⟩ := Kd.at_int HSz21_0 (ji17) p83003 q83003
                      obtain rfl : ad83002 = ad83003 := (by injection e83003)
                      replace hx83003_0 := pw_cell_below HB.out hx83003_0
                      replace p83003 := eq_true p83003
                      replace q83003 := eq_true q83003
                      go_wp2
                      repeat (go_quiet (fail); try go_wp2)
                      go_ret
                      exact ⟨by first | rfl | (simp [errW_none, errW_some] <;> rfl) | (simp only [← hji14, ← hji17]; first | rfl | (simp [errW_none, errW_some] <;> rfl)) | (simp [*, errW_none, errW_some] <;> rfl), by repeat (first | (with_reducible first | exact HI0.out | apply IsS100.alloc | apply IsS100.drewN | apply IsS100.drew | apply IsS100.set_1) | exact HI0.out), by repeat (first | (with_reducible first | exact HB.out | apply below_alloc | apply pw_below_drewN | apply below_drew1 | refine below_set ?_ (IsS100.ge HI0.out)) | exact HB.out), by repeat (first | (with_reducible first | exact HK.out | apply KeepBut.set_ | apply keep_drewN | apply keep_drew | apply keep_alloc) | exact HK.out)⟩
                  · rw [if_neg c19] at H
                    exact absurd H (by simp)
                · rw [if_neg c18] at H
                  exact absurd H (by simp)
              · rw [if_neg c16] at H
                exact absurd H (by simp)
            · rw [if_neg c15] at H
              exact absurd H (by simp)

end Go.Proofs.Ytbgohbinonkhfaa.Q

namespace Go.Proofs.Ytbgohbinonkhfaa.Q
open Go.RowKit Go.Proofs.YtbgohbinonkhfaaW.PrintWords Go.Proofs.YtbgohbinonkhfaaW.PrintLast Go.Proofs.YtbgohbinonkhfaaW.PrintMore
attribute [local go_sem] max2_int min2_int max_two min_two max_three min_three max_four min_four
set_option linter.unusedVariables false
set_option linter.unusedSimpArgs false
/-! ### spec_newReader: function 55 -/
def spec_newReader.f (l0 : List Int) : Option (List Int × Int) := if (l0.length : Int) > 2000 then (if 2000 ≤ (l0.length : Int) then (some (l0.take 2000, 0)) else (none)) else (some (l0, 0))
set_option maxHeartbeats 8000000 in
set_option maxRecDepth 100000 in
theorem spec_newReader.calls (A0 : Option Addr) (c0 : Nat) (l0 : List Int) (r1 : List Int) (r2 : Int) (w0 w : World) (hB : Below w0.heap.size w0 w) (hr0 : Kd.C (Kd.int .u8) w0 A0 l0.length l0) (hc0 : l0.length ≤ c0) (h : spec_newReader.f l0 = some (r1, r2)) :
    Calls Try.prog 55 #[.slice A0 l0.length c0] w fun e w' => ∃ g_ : Nat, e = .returned (.pointer (some ⟨g_, 0, none⟩)) ∧ IsS100 w0 w' g_ r1 r2 ∧ Below w0.heap.size w0 w' ∧ Below w.heap.size w w' := by
  have hu100 := Try.underlying100
  have HR0 := Aside0.mk hr0
  have HC0 := Aside0.mk hc0
  clear hr0 hc0
  have HBW := Aside0.mk (Below.refl w.heap.size w)
  have HW0 := Aside0.mk hB.size
  have HB := Aside0.mk hB
  clear hB
  have H : (if (l0.length : Int) > 2000 then (if 2000 ≤ (l0.length : Int) then (some (l0.take 2000, 0)) else (none)) else (some (l0, 0))) = some (r1, r2) := h
  clear h
  by_cases c2 : (l0.length : Int) > 2000
  · rw [if_pos c2] at H
    have c2b0 : decide (2000 < (l0.length : Int)) = true := decide_eq_true c2
    have c2b1 : decide (2000 < l0.length) = true := decide_eq_true (by omega)
    clear c2
    by_cases c3 : 2000 ≤ (l0.length : Int)
    · rw [if_pos c3] at H
      have c3b0 := eq_true c3
      have c3b1 : decide (2000 ≤ (l0.length : Int)) = true := decide_eq_true c3
      clear c3
      simp only [Option.some.injEq, Prod.mk.injEq] at H
      obtain ⟨rfl, rfl⟩ := H
      obtain ⟨i04, hi04, _, hsz4, _⟩ := info_parts info5
      obtain ⟨hcut4, hA4, hC4⟩ := print_take_of (P := Try.prog) (Value.int .u8) 0 35 5 .i64 Try.underlying35 hi04 hsz4 A0 c0 l0 2000 (by omega) (of_decide_eq_true (by first | (with_reducible assumption) | assumption)) HC0.out
      have HR56001 := Aside0.mk (Kd.C_of_reads (h1 := fun _ => rfl) (hA4 _ (Kd.reads_of_C HR0.out)))
      have HC56001 := Aside0.mk hC4
      clear hA4 hC4 hi04 hsz4
      go_enter Try.func55, Try.ntmps55
      go_wp2_with (first | ((with_reducible refine gate_dst (N := 10) rfl ?_); refine box_event ?hg (N := 10) ?hd (cs := #[.slice A0 (l0.take 2000).length c0, .int .i64 0]) (t := 100) ?hr ?_; (case hd => rfl); (case hg => rfl); (case hr => first | (go_simp; done) | (go_simp; rfl)); intro gb56002 hg w5 hbox hb; have n0_ := Aside0.mk (below_step HBW.out hb); have n1_ := Aside0.mk (below_step (by repeat (first | (with_reducible first | exact HB.out | apply below_alloc | apply pw_below_drewN | apply below_drew1) | exact HB.out)) hb); have n2_ := Aside0.mk (hbox); have n3_ := Aside0.mk ((by rw [hg]; exact (below_size (by repeat (first | (with_reducible first | exact HBW.out | apply below_alloc | apply pw_below_drewN | apply below_drew1) | exact HBW.out))) : w.heap.size ≤ gb56002)); have n4_ := Aside0.mk ((Nat.le_trans HW0.out (by rw [hg]; exact (below_size (by repeat (first | (with_reducible first | exact HBW.out | apply below_alloc | apply pw_below_drewN | apply below_drew1) | exact HBW.out))) : w.heap.size ≤ gb56002) : w0.heap.size ≤ gb56002)); clear HBW; clear HB; have HBW := n0_; have HB := n1_; have BK56002 := n2_; have GW56002 := n3_; have GE56002 := n4_; clear n0_ n1_ n2_ n3_ n4_; clear hb hbox hg))
      go_ret
      exact ⟨_, rfl, (show IsS100 w0 _ gb56002 (l0.take 2000) 0 from ⟨_, _, by (with_reducible repeat (first | refine blk_drewN ?_ _ | refine blk_drew ?_ | refine blk_alloc ?_ _)); exact BK56002.out, GE56002.out, HR56001.out⟩), by repeat (first | (with_reducible first | exact HB.out | apply below_alloc | apply pw_below_drewN | apply below_drew1 | refine below_set ?_ GE56002.out) | exact HB.out), by repeat (first | (with_reducible first | exact HBW.out | apply below_alloc | apply pw_below_drewN | apply below_drew1 | refine below_set ?_ GW56002.out) | exact HBW.out)⟩
    · rw [if_neg c3] at H
      exact absurd H (by simp)
  · rw [if_neg c2] at H
    have c2b0 : decide (2000 < (l0.length : Int)) = false := decide_eq_false c2
    have c2b1 : decide (2000 < l0.length) = false := decide_eq_false (by omega)
    clear c2
    simp only [Option.some.injEq, Prod.mk.injEq] at H
    obtain ⟨rfl, rfl⟩ := H
    go_enter Try.func55, Try.ntmps55
    go_wp2_with (first | ((with_reducible refine gate_dst (N := 10) rfl ?_); refine box_event ?hg (N := 10) ?hd (cs := #[.slice A0 l0.length c0, .int .i64 0]) (t := 100) ?hr ?_; (case hd => rfl); (case hg => rfl); (case hr => first | (go_simp; done) | (go_simp; rfl)); intro gb56003 hg w6 hbox hb; have n0_ := Aside0.mk (below_step HBW.out hb); have n1_ := Aside0.mk (below_step (by repeat (first | (with_reducible first | exact HB.out | apply below_alloc | apply pw_below_drewN | apply below_drew1) | exact HB.out)) hb); have n2_ := Aside0.mk (hbox); have n3_ := Aside0.mk ((by rw [hg]; exact (below_size (by repeat (first | (with_reducible first | exact HBW.out | apply below_alloc | apply pw_below_drewN | apply below_drew1) | exact HBW.out))) : w.heap.size ≤ gb56003)); have n4_ := Aside0.mk ((Nat.le_trans HW0.out (by rw [hg]; exact (below_size (by repeat (first | (with_reducible first | exact HBW.out | apply below_alloc | apply pw_below_drewN | apply below_drew1) | exact HBW.out))) : w.heap.size ≤ gb56003) : w0.heap.size ≤ gb56003)); clear HBW; clear HB; have HBW := n0_; have HB := n1_; have BK56003 := n2_; have GW56003 := n3_; have GE56003 := n4_; clear n0_ n1_ n2_ n3_ n4_; clear hb hbox hg))
    go_ret
    exact ⟨_, rfl, (show IsS100 w0 _ gb56003 l0 0 from ⟨_, _, by (with_reducible repeat (first | refine blk_drewN ?_ _ | refine blk_drew ?_ | refine blk_alloc ?_ _)); exact BK56003.out, GE56003.out, HR0.out⟩), by repeat (first | (with_reducible first | exact HB.out | apply below_alloc | apply pw_below_drewN | apply below_drew1 | refine below_set ?_ GE56003.out) | exact HB.out), by repeat (first | (with_reducible first | exact HBW.out | apply below_alloc | apply pw_below_drewN | apply below_drew1 | refine below_set ?_ GW56003.out) | exact HBW.out)⟩

end Go.Proofs.Ytbgohbinonkhfaa.Q

namespace Go.Proofs.Ytbgohbinonkhfaa.Q
open Go.RowKit Go.Proofs.YtbgohbinonkhfaaW.PrintWords Go.Proofs.YtbgohbinonkhfaaW.PrintLast Go.Proofs.YtbgohbinonkhfaaW.PrintMore
attribute [local go_sem] max2_int min2_int max_two min_two max_three min_three max_four min_four
set_option linter.unusedVariables false
set_option linter.unusedSimpArgs false
/-! ### spec_reader_one: function 73 -/
def spec_reader_one.f (k : Nat) (s0_0 : List Int) (s0_1 : Int) (l1 : List Int) : Option (Int × Int) := (spec_reader_pick.f k s0_0 s0_1 (l1.length : Int)).bind fun bt74001 => (if 0 ≤ bt74001.1 then (if bt74001.1 < (l1.length : Int) then (some (rd l1 bt74001.1, bt74001.2)) else (none)) else (none))
theorem spec_reader_one.mono : ∀ a0 a1 a2 k, LeO (spec_reader_one.f k a0 a1 a2) (spec_reader_one.f (k + 1) a0 a1 a2) := by
  intro a0 a1 a2 k
  unfold spec_reader_one.f
  repeat' first
      | (with_reducible exact spec_reader_pick.mono _ _ _ _)
      | (with_reducible exact LeO.refl _)
      | (with_reducible exact LeO.none _)
      | (with_reducible refine LeO.ite ?_ ?_)
      | (with_reducible refine LeO.bind ?_ (fun _ => ?_))
      | exact spec_reader_pick.mono _ _ _ _
      | exact LeO.none _
      | refine LeO.ite ?_ ?_
      | refine LeO.bind ?_ (fun _ => ?_)
set_option maxHeartbeats 8000000 in
set_option maxRecDepth 100000 in
theorem spec_reader_one.calls (k : Nat) (g : Nat) (s0_0 : List Int) (s0_1 : Int) (A1 : Option Addr) (c1 : Nat) (l1 : List Int) (r1 : Int) (r2 : Int) (w0 w : World) (hI : IsS100 w0 w g s0_0 s0_1) (hB : Below w0.heap.size w0 w) (hr1 : Kd.C (Kd.int .i64) w A1 l1.length l1) (hc1 : l1.length ≤ c1) (hf1 : ∀ ad, A1 = some ad → 0 < l1.length → ad.block ≠ g) (h : spec_reader_one.f k s0_0 s0_1 l1 = some (r1, r2)) :
    Calls Try.prog 73 #[.pointer (some ⟨g, 0, none⟩), .slice A1 l1.length c1] w fun e w' => e = .returned (.int .i64 r1) ∧ IsS100 w0 w' g s0_0 r2 ∧ Below w0.heap.size w0 w' ∧ KeepBut w w' g none := by
  have HR1 := Aside0.mk hr1
  have HC1 := Aside0.mk hc1
  clear hr1 hc1
  have HI0 := Aside0.mk hI
  have HK := Aside0.mk (KeepBut.refl w g none)
  have HL := Aside0.mk hB.size
  clear hI
  have HW0 := Aside0.mk hB.size
  have HB := Aside0.mk hB
  clear hB
  have H : ((spec_reader_pick.f k s0_0 s0_1 (l1.length : Int)).bind fun bt74001 => (if 0 ≤ bt74001.1 then (if bt74001.1 < (l1.length : Int) then (some (rd l1 bt74001.1, bt74001.2)) else (none)) else (none))) = some (r1, r2) := h
  clear h
  replace H := Option.bind_eq_some_iff.mp H
  obtain ⟨⟨t74001, t74002⟩, A30, H⟩ := H
  replace H : (if 0 ≤ t74001 then (if t74001 < (l1.length : Int) then (some (rd l1 t74001, t74002)) else (none)) else (none)) = some (r1, r2) := H
  have A3 := Aside0.mk A30
  clear A30
  by_cases c4 : 0 ≤ t74001
  · rw [if_pos c4] at H
    have c4b0 : decide (0 ≤ t74001) = true := decide_eq_true c4
    clear c4
    by_cases c5 : t74001 < (l1.length : Int)
    · rw [if_pos c5] at H
      have c5b0 : decide (t74001 < (l1.length : Int)) = true := decide_eq_true c5
      clear c5
      simp only [Option.some.injEq, Prod.mk.injEq] at H
      obtain ⟨rfl, rfl⟩ := H
      go_enter Try.func73, Try.ntmps73
      go_wp2_with (first | ((with_reducible refine gate_callee (f := 82) rfl ?_); refine goesL_ (some 9) rfl rfl Try.func82 (by kernel_rfl) rfl #[.pointer (some ⟨g, 0, none⟩), .int .i64 (l1.length : Int)] rfl (by (try simp only [List.map_toArray, List.map_cons, List.map_nil]); first | done | rfl | (simp only [List.length_drop, List.length_take]; rfl)) ?_; (with_reducible refine (spec_reader_pick.calls k g s0_0 s0_1 (l1.length : Int) t74001 t74002 w0 _ ?side1 ?side2 A3.out).mono ?_); (case side1 => repeat (first | (with_reducible first | exact HI0.out | apply IsS100.alloc | apply IsS100.drewN | apply IsS100.drew | apply IsS100.set_1) | exact HI0.out)); (case side2 => repeat (first | (with_reducible first | exact HB.out | apply below_alloc | apply pw_below_drewN | apply below_drew1 | refine below_set ?_ (IsS100.ge HI0.out)) | exact HB.out)); rintro e w6 ⟨rfl, hi, hb, hk⟩; refine ⟨_, rfl, ?_⟩; have n0_ := Aside0.mk (KeepBut.trans (by repeat (first | (with_reducible first | exact HK.out | apply KeepBut.set_ | apply keep_drewN | apply keep_drew | apply keep_alloc) | exact HK.out)) hk (.inl rfl)); have n1_ := Aside0.mk (hb); have n2_ := Aside0.mk (hi); clear HK; clear HB; clear HI0; have HK := n0_; have HB := n1_; have HI0 := n2_; clear n0_ n1_ n2_; (try clear hb); (try clear hb2); (try clear hk); (try clear hi); have p74003 : 0 ≤ (t74001 : Int) := of_decide_eq_true (by first | (with_reducible assumption) | assumption); have q74003 : t74001 < (l1.length : Int) := of_decide_eq_true (by first | (with_reducible assumption) | assumption); obtain ⟨ad74003, e74003, hx74003_0⟩ := Kd.at_int HR1.out t74001 p74003 q74003; cases e74003; replace hx74003_0 := keep_cell HK.out hx74003_0 (by first | (rw [add_block]; exact hf1 _ rfl (by omega)) | exact hf1 _ rfl (by omega) | exact hf1 ad74003 rfl (by omega)); replace p74003 := eq_true p74003; replace q74003 := eq_true q74003))
      go_ret
      exact ⟨by first | rfl | (simp [errW_none, errW_some] <;> rfl) | (simp [*, errW_none, errW_some] <;> rfl), by repeat (first | (with_reducible first | exact HI0.out | apply IsS100.alloc | apply IsS100.drewN | apply IsS100.drew | apply IsS100.set_1) | exact HI0.out), by repeat (first | (with_reducible first | exact HB.out | apply below_alloc | apply pw_below_drewN | apply below_drew1 | refine below_set ?_ (IsS100.ge HI0.out)) | exact HB.out), by repeat (first | (with_reducible first | exact HK.out | apply KeepBut.set_ | apply keep_drewN | apply keep_drew | apply keep_alloc) | exact HK.out)⟩
    · rw [if_neg c5] at H
      exact absurd H (by simp)
  · rw [if_neg c4] at H
    exact absurd H (by simp)

end Go.Proofs.Ytbgohbinonkhfaa.Q

namespace Go.Proofs.Ytbgohbinonkhfaa.Q
open Go.RowKit Go.Proofs.YtbgohbinonkhfaaW.PrintWords Go.Proofs.YtbgohbinonkhfaaW.PrintLast Go.Proofs.YtbgohbinonkhfaaW.PrintMore
attribute [local go_sem] max2_int min2_int max_two min_two max_three min_three max_four min_four
set_option linter.unusedVariables false
set_option linter.unusedSimpArgs false
/-! ### spec_spoilImage: function 99 -/
def spec_spoilImage.f (k : Nat) (s0_0 : List Int) (s0_1 : Int) (a1_0 : Int) (a1_1 : Int) (a1_2 : Int) (l1_3 : List Int) : Option (Int × Int × Int × List Int × Int) := (spec_reader_pick.f k s0_0 s0_1 40).bind fun bt100003 => (if bt100003.1 = 0 then ((spec_reader_one.f k s0_0 bt100003.2 (([0, 17, wrap64 (a1_0 + 1)] : List Int))).bind fun bt100008 => (some (bt100008.1, a1_1, a1_2, l1_3, bt100008.2))) else (if bt100003.1 = 1 then (if 1 ≤ (l1_3.length : Int) then (some (a1_0, a1_1, a1_2, (l1_3.drop (1 : Int).toNat), bt100003.2)) else (none)) else (if bt100003.1 = 2 then ((spec_reader_one.f k s0_0 bt100003.2 (([(-1), 256] : List Int))).bind fun bt100016 => (if 0 < (l1_3.length : Int) then (some (a1_0, a1_1, a1_2, (l1_3.set (0 : Int).toNat bt100016.1), bt100016.2)) else (none))) else (if bt100003.1 = 3 then ((spec_reader_one.f k s0_0 bt100003.2 (([0, 5] : List Int))).bind fun bt100022 => (some (a1_0, a1_1, bt100022.1, l1_3, bt100022.2))) else (some (a1_0, a1_1, a1_2, l1_3, bt100003.2))))))
theorem spec_spoilImage.mono : ∀ a0 a1 a2 a3 a4 a5 k, LeO (spec_spoilImage.f k a0 a1 a2 a3 a4 a5) (spec_spoilImage.f (k + 1) a0 a1 a2 a3 a4 a5) := by
  intro a0 a1 a2 a3 a4 a5 k
  unfold spec_spoilImage.f
  repeat' first
      | (with_reducible exact spec_reader_one.mono _ _ _ _)
      | (with_reducible exact spec_reader_pick.mono _ _ _ _)
      | (with_reducible exact LeO.refl _)
      | (with_reducible exact LeO.none _)
      | (with_reducible refine LeO.ite ?_ ?_)
      | (with_reducible refine LeO.bind ?_ (fun _ => ?_))
      | exact spec_reader_one.mono _ _ _ _
      | exact spec_reader_pick.mono _ _ _ _
      | exact LeO.none _
      | refine LeO.ite ?_ ?_
      | refine LeO.bind ?_ (fun _ => ?_)
set_option maxHeartbeats 8000000 in
set_option maxRecDepth 100000 in
theorem spec_spoilImage.calls (k : Nat) (g : Nat) (s0_0 : List Int) (s0_1 : Int) (a1_0 : Int) (a1_1 : Int) (a1_2 : Int) (P1_3_ : Nat → Prop) (u9000_ : Value) (l1_3 : List Int) (r1 : Int) (r2 : Int) (r3 : Int) (r4 : List Int) (r5 : Int) (w0 w : World) (hI : IsS100 w0 w g s0_0 s0_1) (hB : Below w0.heap.size w0 w) (ho1_3 : Kd.R (Kd.int .i64) 3 w w0.heap.size P1_3_ u9000_ l1_3) (h : spec_spoilImage.f k s0_0 s0_1 a1_0 a1_1 a1_2 l1_3 = some (r1, r2, r3, r4, r5)) :
    Calls Try.prog 99 #[.pointer (some ⟨g, 0, none⟩), .agg #[.int .i64 a1_0, .int .i64 a1_1, .int .i64 a1_2, u9000_]] w fun e w' => ∃ v3_ : Value, e = .returned (.agg #[.int .i64 r1, .int .i64 r2, .int .i64 r3, v3_]) ∧ Kd.Q (Kd.int .i64) 3 w' w0.heap.size (fun k_ => (P1_3_ k_ ∨ w.heap.size ≤ k_)) v3_ r4 ∧ IsS100 w0 w' g s0_0 r5 ∧ Below w0.heap.size w0 w' ∧ Kept w w' (fun k_ => (P1_3_ k_) ∨ k_ = g) := by
  have hu28 := Try.underlying28
  have HO1_3 := Aside0.mk (show Kd.R (Kd.int .i64) 3 w w0.heap.size (fun k_ => (P1_3_ k_ ∨ w.heap.size ≤ k_)) u9000_ l1_3 from Kd.R_mono ho1_3 (fun k_ hk => (.inl hk)))
  have HI0 := Aside0.mk hI
  have HL := Aside0.mk hB.size
  clear hI
  have HK := Aside0.mk (Kept.refl w (fun k_ => (P1_3_ k_) ∨ k_ = g))
  have HW0 := Aside0.mk hB.size
  have HB := Aside0.mk hB
  clear hB
  have H : ((spec_reader_pick.f k s0_0 s0_1 40).bind fun bt100003 => (if bt100003.1 = 0 then ((spec_reader_one.f k s0_0 bt100003.2 (([0, 17, wrap64 (a1_0 + 1)] : List Int))).bind fun bt100008 => (some (bt100008.1, a1_1, a1_2, l1_3, bt100008.2))) else (if bt100003.1 = 1 then (if 1 ≤ (l1_3.length : Int) then (some (a1_0, a1_1, a1_2, (l1_3.drop (1 : Int).toNat), bt100003.2)) else (none)) else (if bt100003.1 = 2 then ((spec_reader_one.f k s0_0 bt100003.2 (([(-1), 256] : List Int))).bind fun bt100016 => (if 0 < (l1_3.length : Int) then (some (a1_0, a1_1, a1_2, (l1_3.set (0 : Int).toNat bt100016.1), bt100016.2)) else (none))) else (if bt100003.1 = 3 then ((spec_reader_one.f k s0_0 bt100003.2 (([0, 5] : List Int))).bind fun bt100022 => (some (a1_0, a1_1, bt100022.1, l1_3, bt100022.2))) else (some (a1_0, a1_1, a1_2, l1_3, bt100003.2))))))) = some (r1, r2, r3, r4, r5) := h
  clear h
  replace H := Option.bind_eq_some_iff.mp H
  obtain ⟨⟨t100003, t100004⟩, A30, H⟩ := H
  replace H : (if t100003 = 0 then ((spec_reader_one.f k s0_0 t100004 (([0, 17, wrap64 (a1_0 + 1)] : List Int))).bind fun bt100008 => (some (bt100008.1, a1_1, a1_2, l1_3, bt100008.2))) else (if t100003 = 1 then (if 1 ≤ (l1_3.length : Int) then (some (a1_0, a1_1, a1_2, (l1_3.drop (1 : Int).toNat), t100004)) else (none)) else (if t100003 = 2 then ((spec_reader_one.f k s0_0 t100004 (([(-1), 256] : List Int))).bind fun bt100016 => (if 0 < (l1_3.length : Int) then (some (a1_0, a1_1, a1_2, (l1_3.set (0 : Int).toNat bt100016.1), bt100016.2)) else (none))) else (if t100003 = 3 then ((spec_reader_one.f k s0_0 t100004 (([0, 5] : List Int))).bind fun bt100022 => (some (a1_0, a1_1, bt100022.1, l1_3, bt100022.2))) else (some (a1_0, a1_1, a1_2, l1_3, t100004)))))) = some (r1, r2, r3, r4, r5) := H
  have A3 := Aside0.mk A30
  clear A30
  by_cases c4 : t100003 = 0
  · rw [if_pos c4] at H
    have c4b0 : (t100003 == 0) = true := beq_iff_eq.mpr c4
    have c4b1 : (t100003 != 0) = false := bne_eq_false_iff_eq.mpr c4
    clear c4
    obtain ⟨y100005, hy100005⟩ : ∃ y_ : List Int, y_ = (([0, 17, wrap64 (a1_0 + 1)] : List Int)) := ⟨_, rfl⟩
    replace H : ((spec_reader_one.f k s0_0 t100004 y100005).bind fun bt100008 => (some (bt100008.1, a1_1, a1_2, l1_3, bt100008.2))) = some (r1, r2, r3, r4, r5) := by first | (rw [hy100005]; with_reducible exact H) | (have H2_ := (Option.bind_some _ _).symm.trans H; rw [hy100005]; with_reducible exact H2_) | (have H2_ := (Option.bind_some _ _).symm.trans H; with_reducible exact H2_) | with_reducible exact H | (rw [hy100005]; exact H) | exact H
    have Ny100005 := Aside0.mk hy100005
    clear hy100005
    replace H := Option.bind_eq_some_iff.mp H
    obtain ⟨⟨t100008, t100009⟩, A50, H⟩ := H
    replace H : (some (t100008, a1_1, a1_2, l1_3, t100009)) = some (r1, r2, r3, r4, r5) := H
    have A5 := Aside0.mk A50
    clear A50
    simp only [Option.some.injEq, Prod.mk.injEq] at H
    obtain ⟨rfl, rfl, rfl, rfl, rfl⟩ := H
    obtain ⟨Ao6, co6, eo6⟩ := Kd.R_slice HO1_3.out
    subst eo6
    go_enter Try.func99, Try.ntmps99
    go_wp2_with (first | ((with_reducible refine gate_dst (N := 3) rfl ?_); refine box_event ?hg (N := 3) ?hd (cs := #[.int .i64 a1_0, .int .i64 a1_1, .int .i64 a1_2, .slice Ao6 l1_3.length co6]) (t := 28) ?hr ?_; (case hd => rfl); (case hg => rfl); (case hr => first | (go_simp; done) | (go_simp; rfl)); intro gb100001 hg w7 hbox hb; have n0_ := Aside0.mk (Kd.R_below (by (with_reducible repeat (first | apply Kd.R_alloc | apply Kd.R_drewN | apply Kd.R_drew)); exact HO1_3.out) hb); have n1_ := Aside0.mk (IsS100.below (by repeat (first | (with_reducible first | exact HI0.out | apply IsS100.alloc | apply IsS100.drewN | apply IsS100.drew | apply IsS100.set_1) | exact HI0.out)) hb); have n2_ := Aside0.mk (Kept.below (S := (fun k_ => (P1_3_ k_) ∨ k_ = g)) (by repeat (first | (with_reducible first | exact HK.out | apply Kept.alloc | apply Kept.drewN | apply Kept.drew | refine Kept.setCell ?_ (.inl (.inr rfl)) _) | exact HK.out)) hb); have n3_ := Aside0.mk (below_step (by repeat (first | (with_reducible first | exact HB.out | apply below_alloc | apply pw_below_drewN | apply below_drew1 | refine below_set ?_ (IsS100.ge HI0.out)) | exact HB.out)) hb); have n4_ := Aside0.mk (hbox); have n5_ := Aside0.mk ((by rw [hg]; exact (by first | exact HK.out.1 | exact (show Kept w _ (fun k_ => (P1_3_ k_) ∨ k_ = g) from by repeat (first | (with_reducible first | exact HK.out | apply Kept.alloc | apply Kept.drewN | apply Kept.drew | refine Kept.setCell ?_ (.inl (.inr rfl)) _) | exact HK.out)).1) : w.heap.size ≤ gb100001)); have n6_ := Aside0.mk ((by rw [hg]; exact (below_size (by repeat (first | (with_reducible first | exact HB.out | apply below_alloc | apply pw_below_drewN | apply below_drew1 | refine below_set ?_ (IsS100.ge HI0.out)) | exact HB.out))) : w0.heap.size ≤ gb100001)); have n7_ := Aside0.mk ((by rw [hg]; exact Nat.ne_of_lt (IsS100.lt (show IsS100 w0 _ g s0_0 s0_1 from by repeat (first | (with_reducible first | exact HI0.out | apply IsS100.alloc | apply IsS100.drewN | apply IsS100.drew | apply IsS100.set_1) | exact HI0.out))) : g ≠ gb100001)); have n8_ := Aside0.mk ((by rw [hg]; exact Nat.ne_of_gt (IsS100.lt (show IsS100 w0 _ g s0_0 s0_1 from by repeat (first | (with_reducible first | exact HI0.out | apply IsS100.alloc | apply IsS100.drewN | apply IsS100.drew | apply IsS100.set_1) | exact HI0.out))) : gb100001 ≠ g)); clear HO1_3; clear HI0; clear HK; clear HB; have HO1_3 := n0_; have HI0 := n1_; have HK := n2_; have HB := n3_; have BK100001 := n4_; have GW100001 := n5_; have GE100001 := n6_; have NB0_100001 := n7_; have NB100001_0 := n8_; clear n0_ n1_ n2_ n3_ n4_ n5_ n6_ n7_ n8_; clear hb hbox hg) | ((with_reducible refine gate_dst (N := 4) rfl ?_); refine box_event ?hg (N := 4) ?hd (cs := #[.int .i64 0, .int .i64 0, .int .i64 0, .slice none 0 0]) (t := 28) ?hr ?_; (case hd => rfl); (case hg => rfl); (case hr => first | (go_simp; done) | (go_simp; rfl)); intro gb100002 hg w8 hbox hb; have n0_ := Aside0.mk (Kd.R_below (by (with_reducible repeat (first | apply Kd.R_alloc | apply Kd.R_drewN | apply Kd.R_drew)); exact HO1_3.out) hb); have n1_ := Aside0.mk (IsS100.below (by repeat (first | (with_reducible first | exact HI0.out | apply IsS100.alloc | apply IsS100.drewN | apply IsS100.drew | apply IsS100.set_1 | refine IsS100.far ?_ NB0_100001.out _) | exact HI0.out)) hb); have n2_ := Aside0.mk (blk_below (g := gb100001) (o := .cells #[.int .i64 a1_0, .int .i64 a1_1, .int .i64 a1_2, .slice Ao6 l1_3.length co6] 28 (0, 0)) (by (with_reducible repeat (first | refine blk_drewN ?_ _ | refine blk_drew ?_ | refine blk_alloc ?_ _)); exact BK100001.out) hb); have n3_ := Aside0.mk (Kept.below (S := (fun k_ => (P1_3_ k_) ∨ k_ = g)) (by repeat (first | (with_reducible first | exact HK.out | apply Kept.alloc | apply Kept.drewN | apply Kept.drew | refine Kept.setCell ?_ (.inl (.inr rfl)) _ | refine Kept.setCell ?_ (.inr GW100001.out) _) | exact HK.out)) hb); have n4_ := Aside0.mk (below_step (by repeat (first | (with_reducible first | exact HB.out | apply below_alloc | apply pw_below_drewN | apply below_drew1 | refine below_set ?_ (IsS100.ge HI0.out) | refine below_set ?_ GE100001.out) | exact HB.out)) hb); have n5_ := Aside0.mk (hbox); have n6_ := Aside0.mk ((by rw [hg]; exact (by first | exact HK.out.1 | exact (show Kept w _ (fun k_ => (P1_3_ k_) ∨ k_ = g) from by repeat (first | (with_reducible first | exact HK.out | apply Kept.alloc | apply Kept.drewN | apply Kept.drew | refine Kept.setCell ?_ (.inl (.inr rfl)) _ | refine Kept.setCell ?_ (.inr GW100001.out) _) | exact HK.out)).1) : w.heap.size ≤ gb100002)); have n7_ := Aside0.mk ((by rw [hg]; exact (below_size (by repeat (first | (with_reducible first | exact HB.out | apply below_alloc | apply pw_below_drewN | apply below_drew1 | refine below_set ?_ (IsS100.ge HI0.out) | refine below_set ?_ GE100001.out) | exact HB.out))) : w0.heap.size ≤ gb100002)); have n8_ := Aside0.mk ((by rw [hg]; exact Nat.ne_of_lt (blk_lt (g := gb100001) (o := .cells #[.int .i64 a1_0, .int .i64 a1_1, .int .i64 a1_2, .slice Ao6 l1_3.length co6] 28 (0, 0)) (by (with_reducible repeat (first | refine blk_drewN ?_ _ | refine blk_drew ?_ | refine blk_alloc ?_ _)); exact BK100001.out)) : gb100001 ≠ gb100002)); have n9_ := Aside0.mk ((by rw [hg]; exact Nat.ne_of_gt (blk_lt (g := gb100001) (o := .cells #[.int .i64 a1_0, .int .i64 a1_1, .int .i64 a1_2, .slice Ao6 l1_3.length co6] 28 (0, 0)) (by (with_reducible repeat (first | refine blk_drewN ?_ _ | refine blk_drew ?_ | refine blk_alloc ?_ _)); exact BK100001.out)) : gb100002 ≠ gb100001)); have n10_ := Aside0.mk ((by rw [hg]; exact Nat.ne_of_lt (IsS100.lt (show IsS100 w0 _ g s0_0 s0_1 from by repeat (first | (with_reducible first | exact HI0.out | apply IsS100.alloc | apply IsS100.drewN | apply IsS100.drew | apply IsS100.set_1 | refine IsS100.far ?_ NB0_100001.out _) | exact HI0.out))) : g ≠ gb100002)); have n11_ := Aside0.mk ((by rw [hg]; exact Nat.ne_of_gt (IsS100.lt (show IsS100 w0 _ g s0_0 s0_1 from by repeat (first | (with_reducible first | exact HI0.out | apply IsS100.alloc | apply IsS100.drewN | apply IsS100.drew | apply IsS100.set_1 | refine IsS100.far ?_ NB0_100001.out _) | exact HI0.out))) : gb100002 ≠ g)); clear HO1_3; clear HI0; clear BK100001; clear HK; clear HB; have HO1_3 := n0_; have HI0 := n1_; have BK100001 := n2_; have HK := n3_; have HB := n4_; have BK100002 := n5_; have GW100002 := n6_; have GE100002 := n7_; have NB100001_100002 := n8_; have NB100002_100001 := n9_; have NB0_100002 := n10_; have NB100002_0 := n11_; clear n0_ n1_ n2_ n3_ n4_ n5_ n6_ n7_ n8_ n9_ n10_ n11_; clear hb hbox hg) | ((with_reducible refine gate_callee (f := 82) rfl ?_); refine goesL_ (some 6) rfl rfl Try.func82 (by kernel_rfl) rfl #[.pointer (some ⟨g, 0, none⟩), .int .i64 40] rfl (by (try simp only [List.map_toArray, List.map_cons, List.map_nil]); first | done | rfl | (simp only [List.length_drop, List.length_take]; rfl)) ?_; (with_reducible refine (spec_reader_pick.calls k g s0_0 s0_1 40 t100003 t100004 w0 _ ?side1 ?side2 A3.out).mono ?_); (case side1 => repeat (first | (with_reducible first | exact HI0.out | apply IsS100.alloc | apply IsS100.drewN | apply IsS100.drew | apply IsS100.set_1 | refine IsS100.far ?_ NB0_100001.out _ | refine IsS100.far ?_ NB0_100002.out _) | exact HI0.out)); (case side2 => repeat (first | (with_reducible first | exact HB.out | apply below_alloc | apply pw_below_drewN | apply below_drew1 | refine below_set ?_ (IsS100.ge HI0.out) | refine below_set ?_ GE100001.out | refine below_set ?_ GE100002.out) | exact HB.out)); rintro e w9 ⟨rfl, hi, hb, hk⟩; refine ⟨_, rfl, ?_⟩; have n0_ := Aside0.mk (Kd.R_mono (Kd.R_keep (IsS100.apart (show IsS100 w0 _ g s0_0 s0_1 from by repeat (first | (with_reducible first | exact HI0.out | apply IsS100.alloc | apply IsS100.drewN | apply IsS100.drew | apply IsS100.set_1 | refine IsS100.far ?_ NB0_100001.out _ | refine IsS100.far ?_ NB0_100002.out _) | exact HI0.out)) (by (with_reducible repeat (first | apply Kd.R_alloc | apply Kd.R_drewN | apply Kd.R_drew)); exact HO1_3.out) (by decide)) hk (fun _ h => h.2)) (fun _ h => h.1)); have n1_ := Aside0.mk (KeepBut.blk hk (g' := gb100001) (o := .cells #[.int .i64 a1_0, .int .i64 a1_1, .int .i64 a1_2, .slice Ao6 l1_3.length co6] 28 (0, 0)) (by (with_reducible repeat (first | refine blk_drewN ?_ _ | refine blk_drew ?_ | refine blk_alloc ?_ _)); exact BK100001.out) NB100001_0.out (by simp)); have n2_ := Aside0.mk (KeepBut.blk hk (g' := gb100002) (o := .cells #[.int .i64 0, .int .i64 0, .int .i64 0, .slice none 0 0] 28 (0, 0)) (by (with_reducible repeat (first | refine blk_drewN ?_ _ | refine blk_drew ?_ | refine blk_alloc ?_ _)); exact BK100002.out) NB100002_0.out (by simp)); have n3_ := Aside0.mk (Kept.of_keep (S := (fun k_ => (P1_3_ k_) ∨ k_ = g)) (by repeat (first | (with_reducible first | exact HK.out | apply Kept.alloc | apply Kept.drewN | apply Kept.drew | refine Kept.setCell ?_ (.inl (.inr rfl)) _ | refine Kept.setCell ?_ (.inr GW100001.out) _ | refine Kept.setCell ?_ (.inr GW100002.out) _) | exact HK.out)) hk (.inl (.inr rfl))); have n4_ := Aside0.mk (hb); have n5_ := Aside0.mk (hi); clear HO1_3; clear BK100001; clear BK100002; clear HK; clear HB; clear HI0; have HO1_3 := n0_; have BK100001 := n1_; have BK100002 := n2_; have HK := n3_; have HB := n4_; have HI0 := n5_; clear n0_ n1_ n2_ n3_ n4_ n5_; (try clear hb); (try clear hb2); (try clear hk); (try clear hi); have hnb10 := NB100001_100002.out; have hnc10 := NB100002_100001.out; have hnb11 := NB100001_0.out; have hnc11 := NB0_100001.out; have hcz12_0 : w9.cell? ⟨gb100001, 0, none⟩ = some (.int .i64 a1_0) := (blk_cell BK100001.out 0).trans rfl; have hcz12_1 : w9.cell? ⟨gb100001, 1, none⟩ = some (.int .i64 a1_1) := (blk_cell BK100001.out 1).trans rfl; have hcz12_2 : w9.cell? ⟨gb100001, 2, none⟩ = some (.int .i64 a1_2) := (blk_cell BK100001.out 2).trans rfl; have hcz12_3 : w9.cell? ⟨gb100001, 3, none⟩ = some (.slice Ao6 l1_3.length co6) := (blk_cell BK100001.out 3).trans rfl; have hfz12_0 := blk_frozen BK100001.out 0; have hfz12_1 := blk_frozen BK100001.out 1; have hfz12_2 := blk_frozen BK100001.out 2; have hfz12_3 := blk_frozen BK100001.out 3) | ((with_reducible refine gate_dst (N := 13) rfl ?_); refine Kd.R_lit (Kd.int .i64) _ 3 ?hg (N := 13) ?hd (xs := ([0, 17, wrap64 (a1_0 + 1)] : List Int)) (inner := [.int .i64 0, .int .i64 17, .int .i64 (wrap64 (a1_0 + 1))]) (ok := fun _ => True) (okp := fun _ => True) ?hr ?hp (fun _ hk => hk) trivial (Below.refl _ _) (Nat.le_refl _) (by simp) ?_; (case hd => rfl); (case hg => rfl); (case hr => first | (go_simp; done) | (go_simp; rfl)); (case hp => exact (Reps.one (show Kd.M (Kd.int .i64) _ _ _ 0 [.int .i64 0] from rfl) (Reps.one (show Kd.M (Kd.int .i64) _ _ _ 17 [.int .i64 17] from rfl) (Reps.one (show Kd.M (Kd.int .i64) _ _ _ (wrap64 (a1_0 + 1)) [.int .i64 (wrap64 (a1_0 + 1))] from rfl) (Reps.none _ _))))); intro v100006 w13 ho14 hb hg_ hnew_; clear hg_ hnew_; (first | rw [← Ny100005.out] at ho14 | (simp only [Int.reduceToNat] at ho14; rw [← Ny100005.out] at ho14)); have n0_ := Aside0.mk (Kd.R_elder' (by (with_reducible repeat (first | apply Kd.R_alloc | apply Kd.R_drewN | apply Kd.R_drew)); exact HO1_3.out) (Kd.R_base ho14) hb); have n1_ := Aside0.mk (Kd.R_lower (Kd.R_new' (Kd.R_newM (M := fun k_ => (P1_3_ k_ ∨ w.heap.size ≤ k_)) ho14 (by first | exact HK.out.1 | exact (show Kept w _ (fun k_ => (P1_3_ k_) ∨ k_ = g) from by repeat (first | (with_reducible first | exact HK.out | apply Kept.alloc | apply Kept.drewN | apply Kept.drew | refine Kept.setCell ?_ (.inl (.inr rfl)) _ | refine Kept.setCell ?_ (.inr GW100001.out) _ | refine Kept.setCell ?_ (.inr GW100002.out) _) | exact HK.out)).1) (fun k_ h_ => .inr h_)) (Kd.R_lt (by (with_reducible repeat (first | apply Kd.R_alloc | apply Kd.R_drewN | apply Kd.R_drew)); exact HO1_3.out))) (below_size (by repeat (first | (with_reducible first | exact HB.out | apply below_alloc | apply pw_below_drewN | apply below_drew1 | refine below_set ?_ (IsS100.ge HI0.out) | refine below_set ?_ GE100001.out | refine below_set ?_ GE100002.out) | exact HB.out)))); have n2_ := Aside0.mk (IsS100.below (by repeat (first | (with_reducible first | exact HI0.out | apply IsS100.alloc | apply IsS100.drewN | apply IsS100.drew | apply IsS100.set_1 | refine IsS100.far ?_ NB0_100001.out _ | refine IsS100.far ?_ NB0_100002.out _) | exact HI0.out)) hb); have n3_ := Aside0.mk (blk_below (g := gb100001) (o := .cells #[.int .i64 a1_0, .int .i64 a1_1, .int .i64 a1_2, .slice Ao6 l1_3.length co6] 28 (0, 0)) (by (with_reducible repeat (first | refine blk_drewN ?_ _ | refine blk_drew ?_ | refine blk_alloc ?_ _)); exact BK100001.out) hb); have n4_ := Aside0.mk (blk_below (g := gb100002) (o := .cells #[.int .i64 0, .int .i64 0, .int .i64 0, .slice none 0 0] 28 (0, 0)) (by (with_reducible repeat (first | refine blk_drewN ?_ _ | refine blk_drew ?_ | refine blk_alloc ?_ _)); exact BK100002.out) hb); have n5_ := Aside0.mk (Kept.below (S := (fun k_ => (P1_3_ k_) ∨ k_ = g)) (by repeat (first | (with_reducible first | exact HK.out | apply Kept.alloc | apply Kept.drewN | apply Kept.drew | refine Kept.setCell ?_ (.inl (.inr rfl)) _ | refine Kept.setCell ?_ (.inr GW100001.out) _ | refine Kept.setCell ?_ (.inr GW100002.out) _) | exact HK.out)) hb); have n6_ := Aside0.mk (below_step (by repeat (first | (with_reducible first | exact HB.out | apply below_alloc | apply pw_below_drewN | apply below_drew1 | refine below_set ?_ (IsS100.ge HI0.out) | refine below_set ?_ GE100001.out | refine below_set ?_ GE100002.out) | exact HB.out)) hb); clear HO1_3; clear HI0; clear BK100001; clear BK100002; clear HK; clear HB; have HO1_3 := n0_; have HO100007 := n1_; have HI0 := n2_; have BK100001 := n3_; have BK100002 := n4_; have HK := n5_; have HB := n6_; clear n0_ n1_ n2_ n3_ n4_ n5_ n6_; clear hb ho14; obtain ⟨Ao15, co15, eo15⟩ := Kd.R_slice HO100007.out; subst eo15) | ((with_reducible refine gate_callee (f := 73) rfl ?_); refine goesL_ (some 14) rfl rfl Try.func73 (by kernel_rfl) rfl #[.pointer (some ⟨g, 0, none⟩), .slice Ao15 y100005.length co15] rfl (by (try simp only [List.map_toArray, List.map_cons, List.map_nil]); first | done | rfl | (simp only [List.length_drop, List.length_take]; rfl)) ?_; (with_reducible refine (spec_reader_one.calls k g s0_0 t100004 _ _ y100005 t100008 t100009 w0 _ ?side1 ?side2 ?side3 ?side4 ?side5 A5.out).mono ?_); (case side1 => repeat (first | (with_reducible first | exact HI0.out | apply IsS100.alloc | apply IsS100.drewN | apply IsS100.drew | apply IsS100.set_1 | refine IsS100.far ?_ NB0_100001.out _ | refine IsS100.far ?_ NB0_100002.out _) | exact HI0.out)); (case side2 => repeat (first | (with_reducible first | exact HB.out | apply below_alloc | apply pw_below_drewN | apply below_drew1 | refine below_set ?_ (IsS100.ge HI0.out) | refine below_set ?_ GE100001.out | refine below_set ?_ GE100002.out) | exact HB.out)); (case side3 => repeat (first | exact (Kd.R_reads' HO100007.out).2.2 | (with_reducible refine Kd.C_alloc ?_ _) | (with_reducible refine Kd.C_drewN ?_ _) | (with_reducible refine Kd.C_drew ?_))); (case side4 => exact (Kd.R_reads' HO100007.out).2.1); (case side5 => exact far_slice (IsS100.own_ne HI0.out HO100007.out (by decide))); rintro e w16 ⟨rfl, hi, hb, hk⟩; refine ⟨_, rfl, ?_⟩; have n0_ := Aside0.mk (Kd.R_mono (Kd.R_keep (IsS100.apart (show IsS100 w0 _ g s0_0 t100004 from by repeat (first | (with_reducible first | exact HI0.out | apply IsS100.alloc | apply IsS100.drewN | apply IsS100.drew | apply IsS100.set_1 | refine IsS100.far ?_ NB0_100001.out _ | refine IsS100.far ?_ NB0_100002.out _) | exact HI0.out)) (by (with_reducible repeat (first | apply Kd.R_alloc | apply Kd.R_drewN | apply Kd.R_drew)); exact HO1_3.out) (by decide)) hk (fun _ h => h.2)) (fun _ h => h.1)); have n1_ := Aside0.mk (KeepBut.blk hk (g' := gb100001) (o := .cells #[.int .i64 a1_0, .int .i64 a1_1, .int .i64 a1_2, .slice Ao6 l1_3.length co6] 28 (0, 0)) (by (with_reducible repeat (first | refine blk_drewN ?_ _ | refine blk_drew ?_ | refine blk_alloc ?_ _)); exact BK100001.out) NB100001_0.out (by simp)); have n2_ := Aside0.mk (KeepBut.blk hk (g' := gb100002) (o := .cells #[.int .i64 0, .int .i64 0, .int .i64 0, .slice none 0 0] 28 (0, 0)) (by (with_reducible repeat (first | refine blk_drewN ?_ _ | refine blk_drew ?_ | refine blk_alloc ?_ _)); exact BK100002.out) NB100002_0.out (by simp)); have n3_ := Aside0.mk (Kd.R_mono (Kd.R_keep (IsS100.apart (show IsS100 w0 _ g s0_0 t100004 from by repeat (first | (with_reducible first | exact HI0.out | apply IsS100.alloc | apply IsS100.drewN | apply IsS100.drew | apply IsS100.set_1 | refine IsS100.far ?_ NB0_100001.out _ | refine IsS100.far ?_ NB0_100002.out _) | exact HI0.out)) (by (with_reducible repeat (first | apply Kd.R_alloc | apply Kd.R_drewN | apply Kd.R_drew)); exact HO100007.out) (by decide)) hk (fun _ h => h.2)) (fun _ h => h.1)); have n4_ := Aside0.mk (Kept.of_keep (S := (fun k_ => (P1_3_ k_) ∨ k_ = g)) (by repeat (first | (with_reducible first | exact HK.out | apply Kept.alloc | apply Kept.drewN | apply Kept.drew | refine Kept.setCell ?_ (.inl (.inr rfl)) _ | refine Kept.setCell ?_ (.inr GW100001.out) _ | refine Kept.setCell ?_ (.inr GW100002.out) _) | exact HK.out)) hk (.inl (.inr rfl))); have n5_ := Aside0.mk (hb); have n6_ := Aside0.mk (hi); clear HO1_3; clear BK100001; clear BK100002; clear HO100007; clear HK; clear HB; clear HI0; have HO1_3 := n0_; have BK100001 := n1_; have BK100002 := n2_; have HO100007 := n3_; have HK := n4_; have HB := n5_; have HI0 := n6_; clear n0_ n1_ n2_ n3_ n4_ n5_ n6_; (try clear hb); (try clear hb2); (try clear hk); (try clear hi); have hcz17_0 : w16.cell? ⟨gb100001, 0, none⟩ = some (.int .i64 a1_0) := (blk_cell BK100001.out 0).trans rfl; have hcz17_1 : w16.cell? ⟨gb100001, 1, none⟩ = some (.int .i64 a1_1) := (blk_cell BK100001.out 1).trans rfl; have hcz17_2 : w16.cell? ⟨gb100001, 2, none⟩ = some (.int .i64 a1_2) := (blk_cell BK100001.out 2).trans rfl; have hcz17_3 : w16.cell? ⟨gb100001, 3, none⟩ = some (.slice Ao6 l1_3.length co6) := (blk_cell BK100001.out 3).trans rfl; have hfz17_0 := blk_frozen BK100001.out 0; have hfz17_1 := blk_frozen BK100001.out 1; have hfz17_2 := blk_frozen BK100001.out 2; have hfz17_3 := blk_frozen BK100001.out 3; have hnb18 := NB100002_0.out; have hnc18 := NB0_100002.out; have hcz19_0 : w16.cell? ⟨gb100002, 0, none⟩ = some (.int .i64 0) := (blk_cell BK100002.out 0).trans rfl; have hcz19_1 : w16.cell? ⟨gb100002, 1, none⟩ = some (.int .i64 0) := (blk_cell BK100002.out 1).trans rfl; have hcz19_2 : w16.cell? ⟨gb100002, 2, none⟩ = some (.int .i64 0) := (blk_cell BK100002.out 2).trans rfl; have hcz19_3 : w16.cell? ⟨gb100002, 3, none⟩ = some (.slice none 0 0) := (blk_cell BK100002.out 3).trans rfl; have hfz19_0 := blk_frozen BK100002.out 0; have hfz19_1 := blk_frozen BK100002.out 1; have hfz19_2 := blk_frozen BK100002.out 2; have hfz19_3 := blk_frozen BK100002.out 3))
    refine bodyPost_ret (results_cell_row rfl _ _ gb100002 28 #[.int .i64 t100008, .int .i64 a1_1, .int .i64 a1_2, .slice Ao6 l1_3.length co6] (0, 0) _ rfl (by (with_reducible repeat (first | refine blk_drewN ?_ _ | refine blk_drew ?_ | refine blk_alloc ?_ _)); refine blk_put (cs := #[.int .i64 t100008, .int .i64 a1_1, .int .i64 a1_2, .slice none 0 0]) ?_ 3 _ rfl; (with_reducible repeat (first | refine blk_drewN ?_ _ | refine blk_drew ?_ | refine blk_alloc ?_ _)); refine blk_put (cs := #[.int .i64 t100008, .int .i64 a1_1, .int .i64 0, .slice none 0 0]) ?_ 2 _ rfl; (with_reducible repeat (first | refine blk_drewN ?_ _ | refine blk_drew ?_ | refine blk_alloc ?_ _)); refine blk_put (cs := #[.int .i64 t100008, .int .i64 0, .int .i64 0, .slice none 0 0]) ?_ 1 _ rfl; (with_reducible repeat (first | refine blk_drewN ?_ _ | refine blk_drew ?_ | refine blk_alloc ?_ _)); refine blk_put (cs := #[.int .i64 0, .int .i64 0, .int .i64 0, .slice none 0 0]) ?_ 0 _ rfl; (with_reducible repeat (first | refine blk_drewN ?_ _ | refine blk_drew ?_ | refine blk_alloc ?_ _)); refine blk_far ?_ NB100002_100001.out _; (with_reducible repeat (first | refine blk_drewN ?_ _ | refine blk_drew ?_ | refine blk_alloc ?_ _)); exact BK100002.out) Try.underlying28 rfl (by kernel_rfl)) rfl ?_
    exact ⟨_, by first | rfl | (simp [errW_none, errW_some] <;> rfl) | (simp [*, errW_none, errW_some] <;> rfl), Kd.Q_of_R (by (with_reducible repeat (first | apply Kd.R_alloc | apply Kd.R_drewN | apply Kd.R_drew)); exact Kd.R_mono (Kd.R_far (p := ⟨gb100002, 3, none⟩) (Kd.R_far (p := ⟨gb100002, 2, none⟩) (Kd.R_far (p := ⟨gb100002, 1, none⟩) (Kd.R_far (p := ⟨gb100002, 0, none⟩) (Kd.R_far (p := ⟨gb100001, 0, none⟩) (Kd.R_types (Kd.R_types HO1_3.out BK100001.out (by decide)) BK100002.out (by decide)) (fun _ hk => hk.1.2) (.int .i64 t100008)) (fun _ hk => hk.2) (.int .i64 t100008)) (fun _ hk => hk.2) (.int .i64 a1_1)) (fun _ hk => hk.2) (.int .i64 a1_2)) (fun _ hk => hk.2) (.slice Ao6 l1_3.length co6)) (fun _ hk => hk.1.1.1)), by repeat (first | (with_reducible first | exact HI0.out | apply IsS100.alloc | apply IsS100.drewN | apply IsS100.drew | apply IsS100.set_1 | refine IsS100.far ?_ NB0_100001.out _ | refine IsS100.far ?_ NB0_100002.out _) | exact HI0.out), by repeat (first | (with_reducible first | exact HB.out | apply below_alloc | apply pw_below_drewN | apply below_drew1 | refine below_set ?_ (IsS100.ge HI0.out) | refine below_set ?_ GE100001.out | refine below_set ?_ GE100002.out) | exact HB.out), by repeat (first | (with_reducible first | exact HK.out | apply Kept.alloc | apply Kept.drewN | apply Kept.drew | refine Kept.setCell ?_ (.inl (.inr rfl)) _ | refine Kept.setCell ?_ (.inr GW100001.out) _ | refine Kept.setCell ?_ (.inr GW100002.out) _) | exact HK.out)⟩
  · rw [if_neg c4] at H
    have c4b0 : (t100003 == 0) = false := beq_eq_false_iff_ne.mpr c4
    have c4b1 : (t100003 != 0) = true := bne_iff_ne.mpr c4
    by_cases c20 : t100003 = 1
    · rw [if_pos c20] at H
      have c20b0 : (t100003 == 1) = true := beq_iff_eq.mpr c20
      have c20b1 : (t100003 != 1) = false := bne_eq_false_iff_eq.mpr c20
      clear c20
      by_cases c21 : 1 ≤ (l1_3.length : Int)
      · rw [if_pos c21] at H
        have c21b0 := eq_true c21
        have c21b1 : decide (1 ≤ (l1_3.length : Int)) = true := decide_eq_true c21
        clear c21
        obtain ⟨y100010, hy100010⟩ : ∃ y_ : List Int, y_ = (l1_3.drop (1 : Int).toNat) := ⟨_, rfl⟩
        replace H : (some (a1_0, a1_1, a1_2, y100010, t100004)) = some (r1, r2, r3, r4, r5) := by first | (rw [hy100010]; with_reducible exact H) | (have H2_ := (Option.bind_some _ _).symm.trans H; rw [hy100010]; with_reducible exact H2_) | (have H2_ := (Option.bind_some _ _).symm.trans H; with_reducible exact H2_) | with_reducible exact H | (rw [hy100010]; exact H) | exact H
        have Ny100010 := Aside0.mk hy100010
        clear hy100010
        simp only [Option.some.injEq, Prod.mk.injEq] at H
        obtain ⟨rfl, rfl, rfl, rfl, rfl⟩ := H
        obtain ⟨Ao22, co22, eo22⟩ := Kd.R_slice HO1_3.out
        subst eo22
        go_enter Try.func99, Try.ntmps99
        go_wp2_with (first | ((with_reducible refine gate_dst (N := 3) rfl ?_); refine box_event ?hg (N := 3) ?hd (cs := #[.int .i64 a1_0, .int .i64 a1_1, .int .i64 a1_2, .slice Ao22 l1_3.length co22]) (t := 28) ?hr ?_; (case hd => rfl); (case hg => rfl); (case hr => first | (go_simp; done) | (go_simp; rfl)); intro gb100001 hg w23 hbox hb; have n0_ := Aside0.mk (Kd.R_below (by (with_reducible repeat (first | apply Kd.R_alloc | apply Kd.R_drewN | apply Kd.R_drew)); exact HO1_3.out) hb); have n1_ := Aside0.mk (IsS100.below (by repeat (first | (with_reducible first | exact HI0.out | apply IsS100.alloc | apply IsS100.drewN | apply IsS100.drew | apply IsS100.set_1) | exact HI0.out)) hb); have n2_ := Aside0.mk (Kept.below (S := (fun k_ => (P1_3_ k_) ∨ k_ = g)) (by repeat (first | (with_reducible first | exact HK.out | apply Kept.alloc | apply Kept.drewN | apply Kept.drew | refine Kept.setCell ?_ (.inl (.inr rfl)) _) | exact HK.out)) hb); have n3_ := Aside0.mk (below_step (by repeat (first | (with_reducible first | exact HB.out | apply below_alloc | apply pw_below_drewN | apply below_drew1 | refine below_set ?_ (IsS100.ge HI0.out)) | exact HB.out)) hb); have n4_ := Aside0.mk (hbox); have n5_ := Aside0.mk ((by rw [hg]; exact (by first | exact HK.out.1 | exact (show Kept w _ (fun k_ => (P1_3_ k_) ∨ k_ = g) from by repeat (first | (with_reducible first | exact HK.out | apply Kept.alloc | apply Kept.drewN | apply Kept.drew | refine Kept.setCell ?_ (.inl (.inr rfl)) _) | exact HK.out)).1) : w.heap.size ≤ gb100001)); have n6_ := Aside0.mk ((by rw [hg]; exact (below_size (by repeat (first | (with_reducible first | exact HB.out | apply below_alloc | apply pw_below_drewN | apply below_drew1 | refine below_set ?_ (IsS100.ge HI0.out)) | exact HB.out))) : w0.heap.size ≤ gb100001)); have n7_ := Aside0.mk ((by rw [hg]; exact Nat.ne_of_lt (IsS100.lt (show IsS100 w0 _ g s0_0 s0_1 from by repeat (first | (with_reducible first | exact HI0.out | apply IsS100.alloc | apply IsS100.drewN | apply IsS100.drew | apply IsS100.set_1) | exact HI0.out))) : g ≠ gb100001)); have n8_ := Aside0.mk ((by rw [hg]; exact Nat.ne_of_gt (IsS100.lt (show IsS100 w0 _ g s0_0 s0_1 from by repeat (first | (with_reducible first | exact HI0.out | apply IsS100.alloc | apply IsS100.drewN | apply IsS100.drew | apply IsS100.set_1) | exact HI0.out))) : gb100001 ≠ g)); clear HO1_3; clear HI0; clear HK; clear HB; have HO1_3 := n0_; have HI0 := n1_; have HK := n2_; have HB := n3_; have BK100001 := n4_; have GW100001 := n5_; have GE100001 := n6_; have NB0_100001 := n7_; have NB100001_0 := n8_; clear n0_ n1_ n2_ n3_ n4_ n5_ n6_ n7_ n8_; clear hb hbox hg) | ((with_reducible refine gate_dst (N := 4) rfl ?_); refine box_event ?hg (N := 4) ?hd (cs := #[.int .i64 0, .int .i64 0, .int .i64 0, .slice none 0 0]) (t := 28) ?hr ?_; (case hd => rfl); (case hg => rfl); (case hr => first | (go_simp; done) | (go_simp; rfl)); intro gb100002 hg w24 hbox hb; have n0_ := Aside0.mk (Kd.R_below (by (with_reducible repeat (first | apply Kd.R_alloc | apply Kd.R_drewN | apply Kd.R_drew)); exact HO1_3.out) hb); have n1_ := Aside0.mk (IsS100.below (by repeat (first | (with_reducible first | exact HI0.out | apply IsS100.alloc | apply IsS100.drewN | apply IsS100.drew | apply IsS100.set_1 | refine IsS100.far ?_ NB0_100001.out _) | exact HI0.out)) hb); have n2_ := Aside0.mk (blk_below (g := gb100001) (o := .cells #[.int .i64 a1_0, .int .i64 a1_1, .int .i64 a1_2, .slice Ao22 l1_3.length co22] 28 (0, 0)) (by (with_reducible repeat (first | refine blk_drewN ?_ _ | refine blk_drew ?_ | refine blk_alloc ?_ _)); exact BK100001.out) hb); have n3_ := Aside0.mk (Kept.below (S := (fun k_ => (P1_3_ k_) ∨ k_ = g)) (by repeat (first | (with_reducible first | exact HK.out | apply Kept.alloc | apply Kept.drewN | apply Kept.drew | refine Kept.setCell ?_ (.inl (.inr rfl)) _ | refine Kept.setCell ?_ (.inr GW100001.out) _) | exact HK.out)) hb); have n4_ := Aside0.mk (below_step (by repeat (first | (with_reducible first | exact HB.out | apply below_alloc | apply pw_below_drewN | apply below_drew1 | refine below_set ?_ (IsS100.ge HI0.out) | refine below_set ?_ GE100001.out) | exact HB.out)) hb); have n5_ := Aside0.mk (hbox); have n6_ := Aside0.mk ((by rw [hg]; exact (by first | exact HK.out.1 | exact (show Kept w _ (fun k_ => (P1_3_ k_) ∨ k_ = g) from by repeat (first | (with_reducible first | exact HK.out | apply Kept.alloc | apply Kept.drewN | apply Kept.drew | refine Kept.setCell ?_ (.inl (.inr rfl)) _ | refine Kept.setCell ?_ (.inr GW100001.out) _) | exact HK.out)).1) : w.heap.size ≤ gb100002)); have n7_ := Aside0.mk ((by rw [hg]; exact (below_size (by repeat (first | (with_reducible first | exact HB.out | apply below_alloc | apply pw_below_drewN | apply below_drew1 | refine below_set ?_ (IsS100.ge HI0.out) | refine below_set ?_ GE100001.out) | exact HB.out))) : w0.heap.size ≤ gb100002)); have n8_ := Aside0.mk ((by rw [hg]; exact Nat.ne_of_lt (blk_lt (g := gb100001) (o := .cells #[.int .i64 a1_0, .int .i64 a1_1, .int .i64 a1_2, .slice Ao22 l1_3.length co22] 28 (0, 0)) (by (with_reducible repeat (first | refine blk_drewN ?_ _ | refine blk_drew ?_ | refine blk_alloc ?_ _)); exact BK100001.out)) : gb100001 ≠ gb100002)); have n9_ := Aside0.mk ((by rw [hg]; exact Nat.ne_of_gt (blk_lt (g := gb100001) (o := .cells #[.int .i64 a1_0, .int .i64 a1_1, .int .i64 a1_2, .slice Ao22 l1_3.length co22] 28 (0, 0)) (by (with_reducible repeat (first | refine blk_drewN ?_ _ | refine blk_drew ?_ | refine blk_alloc ?_ _)); exact BK100001.out)) : gb100002 ≠ gb100001)); have n10_ := Aside0.mk ((by rw [hg]; exact Nat.ne_of_lt (IsS100.lt (show IsS100 w0 _ g s0_0 s0_1 from by repeat (first | (with_reducible first | exact HI0.out | apply IsS100.alloc | apply IsS100.drewN | apply IsS100.drew | apply IsS100.set_1 | refine IsS100.far ?_ NB0_100001.out _) | exact HI0.out))) : g ≠ gb100002)); have n11_ := Aside0.mk ((by rw [hg]; exact Nat.ne_of_gt (IsS100.lt (show IsS100 w0 _ g s0_0 s0_1 from by repeat (first | (with_reducible first | exact HI0.out | apply IsS100.alloc | apply IsS100.drewN | apply IsS100.drew | apply IsS100.set_1 | refine IsS100.far ?_ NB0_100001.out _) | exact HI0.out))) : gb100002 ≠ g)); clear HO1_3; clear HI0; clear BK100001; clear HK; clear HB; have HO1_3 := n0_; have HI0 := n1_; have BK100001 := n2_; have HK := n3_; have HB := n4_; have BK100002 := n5_; have GW100002 := n6_; have GE100002 := n7_; have NB100001_100002 := n8_; have NB100002_100001 := n9_; have NB0_100002 := n10_; have NB100002_0 := n11_; clear n0_ n1_ n2_ n3_ n4_ n5_ n6_ n7_ n8_ n9_ n10_ n11_; clear hb hbox hg) | ((with_reducible refine gate_callee (f := 82) rfl ?_); refine goesL_ (some 6) rfl rfl Try.func82 (by kernel_rfl) rfl #[.pointer (some ⟨g, 0, none⟩), .int .i64 40] rfl (by (try simp only [List.map_toArray, List.map_cons, List.map_nil]); first | done | rfl | (simp only [List.length_drop, List.length_take]; rfl)) ?_; (with_reducible refine (spec_reader_pick.calls k g s0_0 s0_1 40 t100003 t100004 w0 _ ?side1 ?side2 A3.out).mono ?_); (case side1 => repeat (first | (with_reducible first | exact HI0.out | apply IsS100.alloc | apply IsS100.drewN | apply IsS100.drew | apply IsS100.set_1 | refine IsS100.far ?_ NB0_100001.out _ | refine IsS100.far ?_ NB0_100002.out _) | exact HI0.out)); (case side2 => repeat (first | (with_reducible first | exact HB.out | apply below_alloc | apply pw_below_drewN | apply below_drew1 | refine below_set ?_ (IsS100.ge HI0.out) | refine below_set ?_ GE100001.out | refine below_set ?_ GE100002.out) | exact HB.out)); rintro e w25 ⟨rfl, hi, hb, hk⟩; refine ⟨_, rfl, ?_⟩; have n0_ := Aside0.mk (Kd.R_mono (Kd.R_keep (IsS100.apart (show IsS100 w0 _ g s0_0 s0_1 from by repeat (first | (with_reducible first | exact HI0.out | apply IsS100.alloc | apply IsS100.drewN | apply IsS100.drew | apply IsS100.set_1 | refine IsS100.far ?_ NB0_100001.out _ | refine IsS100.far ?_ NB0_100002.out _) | exact HI0.out)) (by (with_reducible repeat (first | apply Kd.R_alloc | apply Kd.R_drewN | apply Kd.R_drew)); exact HO1_3.out) (by decide)) hk (fun _ h => h.2)) (fun _ h => h.1)); have n1_ := Aside0.mk (KeepBut.blk hk (g' := gb100001) (o := .cells #[.int .i64 a1_0, .int .i64 a1_1, .int .i64 a1_2, .slice Ao22 l1_3.length co22] 28 (0, 0)) (by (with_reducible repeat (first | refine blk_drewN ?_ _ | refine blk_drew ?_ | refine blk_alloc ?_ _)); exact BK100001.out) NB100001_0.out (by simp)); have n2_ := Aside0.mk (KeepBut.blk hk (g' := gb100002) (o := .cells #[.int .i64 0, .int .i64 0, .int .i64 0, .slice none 0 0] 28 (0, 0)) (by (with_reducible repeat (first | refine blk_drewN ?_ _ | refine blk_drew ?_ | refine blk_alloc ?_ _)); exact BK100002.out) NB100002_0.out (by simp)); have n3_ := Aside0.mk (Kept.of_keep (S := (fun k_ => (P1_3_ k_) ∨ k_ = g)) (by repeat (first | (with_reducible first | exact HK.out | apply Kept.alloc | apply Kept.drewN | apply Kept.drew | refine Kept.setCell ?_ (.inl (.inr rfl)) _ | refine Kept.setCell ?_ (.inr GW100001.out) _ | refine Kept.setCell ?_ (.inr GW100002.out) _) | exact HK.out)) hk (.inl (.inr rfl))); have n4_ := Aside0.mk (hb); have n5_ := Aside0.mk (hi); clear HO1_3; clear BK100001; clear BK100002; clear HK; clear HB; clear HI0; have HO1_3 := n0_; have BK100001 := n1_; have BK100002 := n2_; have HK := n3_; have HB := n4_; have HI0 := n5_; clear n0_ n1_ n2_ n3_ n4_ n5_; (try clear hb); (try clear hb2); (try clear hk); (try clear hi); have hnb26 := NB100001_100002.out; have hnc26 := NB100002_100001.out; have hnb27 := NB100001_0.out; have hnc27 := NB0_100001.out; have hcz28_0 : w25.cell? ⟨gb100001, 0, none⟩ = some (.int .i64 a1_0) := (blk_cell BK100001.out 0).trans rfl; have hcz28_1 : w25.cell? ⟨gb100001, 1, none⟩ = some (.int .i64 a1_1) := (blk_cell BK100001.out 1).trans rfl; have hcz28_2 : w25.cell? ⟨gb100001, 2, none⟩ = some (.int .i64 a1_2) := (blk_cell BK100001.out 2).trans rfl; have hcz28_3 : w25.cell? ⟨gb100001, 3, none⟩ = some (.slice Ao22 l1_3.length co22) := (blk_cell BK100001.out 3).trans rfl; have hfz28_0 := blk_frozen BK100001.out 0; have hfz28_1 := blk_frozen BK100001.out 1; have hfz28_2 := blk_frozen BK100001.out 2; have hfz28_3 := blk_frozen BK100001.out 3; have q29 : (1 : Int) ≤ ((l1_3.length : Int) : Int) := of_decide_eq_true (by first | (with_reducible assumption) | assumption); obtain ⟨i029, hi029, _, hsz29, _⟩ := info_parts info3; have hcut29 := cut_from (P := Try.prog) 22 3 .i64 Try.underlying22 hi029 1 hsz29 Ao22 l1_3.length co22 1 (by omega) q29; have hr29 := Kd.Q_drop (k := (1 : Int).toNat) (Kd.Q_of_R HO1_3.out) (by omega); obtain ⟨A29, hA29⟩ : ∃ A1, A1 = (if co22 = (1 : Int).toNat then Ao22 else (Ao22 : Option Addr).map (·.add ((1 : Int).toNat * 1))) := ⟨_, rfl⟩; obtain ⟨c29, hc29⟩ : ∃ c1, c1 = co22 - (1 : Int).toNat := ⟨_, rfl⟩; have hy29 : y100010.length = l1_3.length - (1 : Int).toNat := (by rw [Ny100010.out, List.length_drop]); rw [← Ny100010.out] at hr29; rw [← hy29, ← hA29, ← hc29] at hcut29; replace hr29 : Kd.Q (Kd.int .i64) 3 w25 w0.heap.size (fun k_ => (P1_3_ k_ ∨ w.heap.size ≤ k_)) (.slice A29 y100010.length c29) y100010 := (by rw [hA29, hc29, hy29]; exact hr29); have HE29 : Aside0 ((Value.slice A29 y100010.length c29).ownBlock = (.slice Ao22 l1_3.length co22 : Value).ownBlock) := ⟨by rw [hA29]; split <;> (cases (Ao22 : Option Addr) <;> rfl)⟩; clear hy29 hi029 hsz29 HO1_3 hA29 hc29; have HO100012 := Aside0.mk hr29; clear hr29; replace q29 := eq_true q29; have hnb30 := NB100002_0.out; have hnc30 := NB0_100002.out; have hcz31_0 : w25.cell? ⟨gb100002, 0, none⟩ = some (.int .i64 0) := (blk_cell BK100002.out 0).trans rfl; have hcz31_1 : w25.cell? ⟨gb100002, 1, none⟩ = some (.int .i64 0) := (blk_cell BK100002.out 1).trans rfl; have hcz31_2 : w25.cell? ⟨gb100002, 2, none⟩ = some (.int .i64 0) := (blk_cell BK100002.out 2).trans rfl; have hcz31_3 : w25.cell? ⟨gb100002, 3, none⟩ = some (.slice none 0 0) := (blk_cell BK100002.out 3).trans rfl; have hfz31_0 := blk_frozen BK100002.out 0; have hfz31_1 := blk_frozen BK100002.out 1; have hfz31_2 := blk_frozen BK100002.out 2; have hfz31_3 := blk_frozen BK100002.out 3))
        refine bodyPost_ret (results_cell_row rfl _ _ gb100002 28 #[.int .i64 a1_0, .int .i64 a1_1, .int .i64 a1_2, .slice A29 y100010.length c29] (0, 0) _ rfl (by (with_reducible repeat (first | refine blk_drewN ?_ _ | refine blk_drew ?_ | refine blk_alloc ?_ _)); refine blk_put (cs := #[.int .i64 a1_0, .int .i64 a1_1, .int .i64 a1_2, .slice none 0 0]) ?_ 3 _ rfl; (with_reducible repeat (first | refine blk_drewN ?_ _ | refine blk_drew ?_ | refine blk_alloc ?_ _)); refine blk_put (cs := #[.int .i64 a1_0, .int .i64 a1_1, .int .i64 0, .slice none 0 0]) ?_ 2 _ rfl; (with_reducible repeat (first | refine blk_drewN ?_ _ | refine blk_drew ?_ | refine blk_alloc ?_ _)); refine blk_put (cs := #[.int .i64 a1_0, .int .i64 0, .int .i64 0, .slice none 0 0]) ?_ 1 _ rfl; (with_reducible repeat (first | refine blk_drewN ?_ _ | refine blk_drew ?_ | refine blk_alloc ?_ _)); refine blk_put (cs := #[.int .i64 0, .int .i64 0, .int .i64 0, .slice none 0 0]) ?_ 0 _ rfl; (with_reducible repeat (first | refine blk_drewN ?_ _ | refine blk_drew ?_ | refine blk_alloc ?_ _)); refine blk_far ?_ NB100002_100001.out _; (with_reducible repeat (first | refine blk_drewN ?_ _ | refine blk_drew ?_ | refine blk_alloc ?_ _)); exact BK100002.out) Try.underlying28 rfl (by kernel_rfl)) rfl ?_
        exact ⟨_, by first | rfl | (simp [errW_none, errW_some] <;> rfl) | (simp [*, errW_none, errW_some] <;> rfl), by (with_reducible repeat (first | apply Kd.Q_alloc | apply Kd.Q_drewN | apply Kd.Q_drew)); exact Kd.Q_mono (Kd.Q_far (p := ⟨gb100002, 3, none⟩) (Kd.Q_far (p := ⟨gb100002, 2, none⟩) (Kd.Q_far (p := ⟨gb100002, 1, none⟩) (Kd.Q_far (p := ⟨gb100002, 0, none⟩) (Kd.Q_far (p := ⟨gb100001, 3, none⟩) (Kd.Q_types (Kd.Q_types HO100012.out BK100001.out (by decide)) BK100002.out (by decide)) (fun _ hk => hk.1.2) (.slice A29 y100010.length c29)) (fun _ hk => hk.2) (.int .i64 a1_0)) (fun _ hk => hk.2) (.int .i64 a1_1)) (fun _ hk => hk.2) (.int .i64 a1_2)) (fun _ hk => hk.2) (.slice A29 y100010.length c29)) (fun _ hk => hk.1.1), by repeat (first | (with_reducible first | exact HI0.out | apply IsS100.alloc | apply IsS100.drewN | apply IsS100.drew | apply IsS100.set_1 | refine IsS100.far ?_ NB0_100001.out _ | refine IsS100.far ?_ NB0_100002.out _) | exact HI0.out), by repeat (first | (with_reducible first | exact HB.out | apply below_alloc | apply pw_below_drewN | apply below_drew1 | refine below_set ?_ (IsS100.ge HI0.out) | refine below_set ?_ GE100001.out | refine below_set ?_ GE100002.out) | exact HB.out), by repeat (first | (with_reducible first | exact HK.out | apply Kept.alloc | apply Kept.drewN | apply Kept.drew | refine Kept.setCell ?_ (.inl (.inr rfl)) _ | refine Kept.setCell ?_ (.inr GW100001.out) _ | refine Kept.setCell ?_ (.inr GW100002.out) _) | exact HK.out)⟩
      · rw [if_neg c21] at H
        exact absurd H (by simp)
    · rw [if_neg c20] at H
      have c20b0 : (t100003 == 1) = false := beq_eq_false_iff_ne.mpr c20
      have c20b1 : (t100003 != 1) = true := bne_iff_ne.mpr c20
      by_cases c32 : t100003 = 2
      · rw [if_pos c32] at H
        have c32b0 : (t100003 == 2) = true := beq_iff_eq.mpr c32
        have c32b1 : (t100003 != 2) = false := bne_eq_false_iff_eq.mpr c32
        clear c32
        obtain ⟨y100013, hy100013⟩ : ∃ y_ : List Int, y_ = (([(-1), 256] : List Int)) := ⟨_, rfl⟩
        replace H : ((spec_reader_one.f k s0_0 t100004 y100013).bind fun bt100016 => (if 0 < (l1_3.length : Int) then (some (a1_0, a1_1, a1_2, (l1_3.set (0 : Int).toNat bt100016.1), bt100016.2)) else (none))) = some (r1, r2, r3, r4, r5) := by first | (rw [hy100013]; with_reducible exact H) | (have H2_ := (Option.bind_some _ _).symm.trans H; rw [hy100013]; with_reducible exact H2_) | (have H2_ := (Option.bind_some _ _).symm.trans H; with_reducible exact H2_) | with_reducible exact H | (rw [hy100013]; exact H) | exact H
        have Ny100013 := Aside0.mk hy100013
        clear hy100013
        replace H := Option.bind_eq_some_iff.mp H
        obtain ⟨⟨t100016, t100017⟩, A330, H⟩ := H
        replace H : (if 0 < (l1_3.length : Int) then (some (a1_0, a1_1, a1_2, (l1_3.set (0 : Int).toNat t100016), t100017)) else (none)) = some (r1, r2, r3, r4, r5) := H
        have A33 := Aside0.mk A330
        clear A330
        by_cases c34 : 0 < (l1_3.length : Int)
        · rw [if_pos c34] at H
          have c34b0 : decide (0 < (l1_3.length : Int)) = true := decide_eq_true c34
          have c34b1 : decide (0 < l1_3.length) = true := decide_eq_true (by omega)
          clear c34
          obtain ⟨y100018, hy100018⟩ : ∃ y_ : List Int, y_ = (l1_3.set (0 : Int).toNat t100016) := ⟨_, rfl⟩
          replace H : (some (a1_0, a1_1, a1_2, y100018, t100017)) = some (r1, r2, r3, r4, r5) := by first | (rw [hy100018]; with_reducible exact H) | (have H2_ := (Option.bind_some _ _).symm.trans H; rw [hy100018]; with_reducible exact H2_) | (have H2_ := (Option.bind_some _ _).symm.trans H; with_reducible exact H2_) | with_reducible exact H | (rw [hy100018]; exact H) | exact H
          have Ny100018 := Aside0.mk hy100018
          clear hy100018
          simp only [Option.some.injEq, Prod.mk.injEq] at H
          obtain ⟨rfl, rfl, rfl, rfl, rfl⟩ := H
          obtain ⟨Ao36, co36, eo36⟩ := Kd.R_slice HO1_3.out
          subst eo36
          go_enter Try.func99, Try.ntmps99
          try go_wp2_with (first | ((with_reducible refine gate_dst (N := 3) rfl ?_); refine box_event ?hg (N := 3) ?hd (cs := #[.int .i64 a1_0, .int .i64 a1_1, .int .i64 a1_2, .slice Ao36 l1_3.length co36]) (t := 28) ?hr ?_; (case hd => rfl); (case hg => rfl); (case hr => first | (go_simp; done) | (go_simp; rfl)); intro gb100001 hg w37 hbox hb; have n0_ := Aside0.mk (Kd.R_below (by (with_reducible repeat (first | apply Kd.R_alloc | apply Kd.R_drewN | apply Kd.R_drew)); exact HO1_3.out) hb); have n1_ := Aside0.mk (IsS100.below (by repeat (first | (with_reducible first | exact HI0.out | apply IsS100.alloc | apply IsS100.drewN | apply IsS100.drew | apply IsS100.set_1) | exact HI0.out)) hb); have n2_ := Aside0.mk (Kept.below (S := (fun k_ => (P1_3_ k_) ∨ k_ = g)) (by repeat (first | (with_reducible first | exact HK.out | apply Kept.alloc | apply Kept.drewN | apply Kept.drew | refine Kept.setCell ?_ (.inl (.inr rfl)) _) | exact HK.out)) hb); have n3_ := Aside0.mk (below_step (by repeat (first | (with_reducible first | exact HB.out | apply below_alloc | apply pw_below_drewN | apply below_drew1 | refine below_set ?_ (IsS100.ge HI0.out)) | exact HB.out)) hb); have n4_ := Aside0.mk (hbox); have n5_ := Aside0.mk ((by rw [hg]; exact (by first | exact HK.out.1 | exact (show Kept w _ (fun k_ => (P1_3_ k_) ∨ k_ = g) from by repeat (first | (with_reducible first | exact HK.out | apply Kept.alloc | apply Kept.drewN | apply Kept.drew | refine Kept.setCell ?_ (.inl (.inr rfl)) _) | exact HK.out)).1) : w.heap.size ≤ gb100001)); have n6_ := Aside0.mk ((by rw [hg]; exact (below_size (by repeat (first | (with_reducible first | exact HB.out | apply below_alloc | apply pw_below_drewN | apply below_drew1 | refine below_set ?_ (IsS100.ge HI0.out)) | exact HB.out))) : w0.heap.size ≤ gb100001)); have n7_ := Aside0.mk ((by rw [hg]; exact Nat.ne_of_lt (IsS100.lt (show IsS100 w0 _ g s0_0 s0_1 from by repeat (first | (with_reducible first | exact HI0.out | apply IsS100.alloc | apply IsS100.drewN | apply IsS100.drew | apply IsS100.set_1) | exact HI0.out))) : g ≠ gb100001)); have n8_ := Aside0.mk ((by rw [hg]; exact Nat.ne_of_gt (IsS100.lt (show IsS100 w0 _ g s0_0 s0_1 from by repeat (first | (with_reducible first | exact HI0.out | apply IsS100.alloc | apply IsS100.drewN | apply IsS100.drew | apply IsS100.set_1) | exact HI0.out))) : gb100001 ≠ g)); clear HO1_3; clear HI0; clear HK; clear HB; have HO1_3 := n0_; have HI0 := n1_; have HK := n2_; have HB := n3_; have BK100001 := n4_; have GW100001 := n5_; have GE100001 := n6_; have NB0_100001 := n7_; have NB100001_0 := n8_; clear n0_ n1_ n2_ n3_ n4_ n5_ n6_ n7_ n8_; clear hb hbox hg) | ((with_reducible refine gate_dst (N := 4) rfl ?_); refine box_event ?hg (N := 4) ?hd (cs := #[.int .i64 0, .int .i64 0, .int .i64 0, .slice none 0 0]) (t := 28) ?hr ?_; (case hd => rfl); (case hg => rfl); (case hr => first | (go_simp; done) | (go_simp; rfl)); intro gb100002 hg w38 hbox hb; have n0_ := Aside0.mk (Kd.R_below (by (with_reducible repeat (first | apply Kd.R_alloc | apply Kd.R_drewN | apply Kd.R_drew)); exact HO1_3.out) hb); have n1_ := Aside0.mk (IsS100.below (by repeat (first | (with_reducible first | exact HI0.out | apply IsS100.alloc | apply IsS100.drewN | apply IsS100.drew | apply IsS100.set_1 | refine IsS100.far ?_ NB0_100001.out _) | exact HI0.out)) hb); have n2_ := Aside0.mk (blk_below (g := gb100001) (o := .cells #[.int .i64 a1_0, .int .i64 a1_1, .int .i64 a1_2, .slice Ao36 l1_3.length co36] 28 (0, 0)) (by (with_reducible repeat (first | refine blk_drewN ?_ _ | refine blk_drew ?_ | refine blk_alloc ?_ _)); exact BK100001.out) hb); have n3_ := Aside0.mk (Kept.below (S := (fun k_ => (P1_3_ k_) ∨ k_ = g)) (by repeat (first | (with_reducible first | exact HK.out | apply Kept.alloc | apply Kept.drewN | apply Kept.drew | refine Kept.setCell ?_ (.inl (.inr rfl)) _ | refine Kept.setCell ?_ (.inr GW100001.out) _) | exact HK.out)) hb); have n4_ := Aside0.mk (below_step (by repeat (first | (with_reducible first | exact HB.out | apply below_alloc | apply pw_below_drewN | apply below_drew1 | refine below_set ?_ (IsS100.ge HI0.out) | refine below_set ?_ GE100001.out) | exact HB.out)) hb); have n5_ := Aside0.mk (hbox); have n6_ := Aside0.mk ((by rw [hg]; exact (by first | exact HK.out.1 | exact (show Kept w _ (fun k_ => (P1_3_ k_) ∨ k_ = g) from by repeat (first | (with_reducible first | exact HK.out | apply Kept.alloc | apply Kept.drewN | apply Kept.drew | refine Kept.setCell ?_ (.inl (.inr rfl)) _ | refine Kept.setCell ?_ (.inr GW100001.out) _) | exact HK.out)).1) : w.heap.size ≤ gb100002)); have n7_ := Aside0.mk ((by rw [hg]; exact (below_size (by repeat (first | (with_reducible first | exact HB.out | apply below_alloc | apply pw_below_drewN | apply below_drew1 | refine below_set ?_ (IsS100.ge HI0.out) | refine below_set ?_ GE100001.out) | exact HB.out))) : w0.heap.size ≤ gb100002)); have n8_ := Aside0.mk ((by rw [hg]; exact Nat.ne_of_lt (blk_lt (g := gb100001) (o := .cells #[.int .i64 a1_0, .int .i64 a1_1, .int .i64 a1_2, .slice Ao36 l1_3.length co36] 28 (0, 0)) (by (with_reducible repeat (first | refine blk_drewN ?_ _ | refine blk_drew ?_ | refine blk_alloc ?_ _)); exact BK100001.out)) : gb100001 ≠ gb100002)); have n9_ := Aside0.mk ((by rw [hg]; exact Nat.ne_of_gt (blk_lt (g := gb100001) (o := .cells #[.int .i64 a1_0, .int .i64 a1_1, .int .i64 a1_2, .slice Ao36 l1_3.length co36] 28 (0, 0)) (by (with_reducible repeat (first | refine blk_drewN ?_ _ | refine blk_drew ?_ | refine blk_alloc ?_ _)); exact BK100001.out)) : gb100002 ≠ gb100001)); have n10_ := Aside0.mk ((by rw [hg]; exact Nat.ne_of_lt (IsS100.lt (show IsS100 w0 _ g s0_0 s0_1 from by repeat (first | (with_reducible first | exact HI0.out | apply IsS100.alloc | apply IsS100.drewN | apply IsS100.drew | apply IsS100.set_1 | refine IsS100.far ?_ NB0_100001.out _) | exact HI0.out))) : g ≠ gb100002)); have n11_ := Aside0.mk ((by rw [hg]; exact Nat.ne_of_gt (IsS100.lt (show IsS100 w0 _ g s0_0 s0_1 from by repeat (first | (with_reducible first | exact HI0.out | apply IsS100.alloc | apply IsS100.drewN | apply IsS100.drew | apply IsS100.set_1 | refine IsS100.far ?_ NB0_100001.out _) | exact HI0.out))) : gb100002 ≠ g)); clear HO1_3; clear HI0; clear BK100001; clear HK; clear HB; have HO1_3 := n0_; have HI0 := n1_; have BK100001 := n2_; have HK := n3_; have HB := n4_; have BK100002 := n5_; have GW100002 := n6_; have GE100002 := n7_; have NB100001_100002 := n8_; have NB100002_100001 := n9_; have NB0_100002 := n10_; have NB100002_0 := n11_; clear n0_ n1_ n2_ n3_ n4_ n5_ n6_ n7_ n8_ n9_ n10_ n11_; clear hb hbox hg) | ((with_reducible refine gate_callee (f := 82) rfl ?_); refine goesL_ (some 6) rfl rfl Try.func82 (by kernel_rfl) rfl #[.pointer (some ⟨g, 0, none⟩), .int .i64 40] rfl (by (try simp only [List.map_toArray, List.map_cons, List.map_nil]); first | done | rfl | (simp only [List.length_drop, List.length_take]; rfl)) ?_; (with_reducible refine (spec_reader_pick.calls k g s0_0 s0_1 40 t100003 t100004 w0 _ ?side1 ?side2 A3.out).mono ?_); (case side1 => repeat (first | (with_reducible first | exact HI0.out | apply IsS100.alloc | apply IsS100.drewN | apply IsS100.drew | apply IsS100.set_1 | refine IsS100.far ?_ NB0_100001.out _ | refine IsS100.far ?_ NB0_100002.out _) | exact HI0.out)); (case side2 => repeat (first | (with_reducible first | exact HB.out | apply below_alloc | apply pw_below_drewN | apply below_drew1 | refine below_set ?_ (IsS100.ge HI0.out) | refine below_set ?_ GE100001.out | refine below_set ?_ GE100002.out) | exact HB.out)); rintro e w39 ⟨rfl, hi, hb, hk⟩; refine ⟨_, rfl, ?_⟩; have n0_ := Aside0.mk (Kd.R_mono (Kd.R_keep (IsS100.apart (show IsS100 w0 _ g s0_0 s0_1 from by repeat (first | (with_reducible first | exact HI0.out | apply IsS100.alloc | apply IsS100.drewN | apply IsS100.drew | apply IsS100.set_1 | refine IsS100.far ?_ NB0_100001.out _ | refine IsS100.far ?_ NB0_100002.out _) | exact HI0.out)) (by (with_reducible repeat (first | apply Kd.R_alloc | apply Kd.R_drewN | apply Kd.R_drew)); exact HO1_3.out) (by decide)) hk (fun _ h => h.2)) (fun _ h => h.1)); have n1_ := Aside0.mk (KeepBut.blk hk (g' := gb100001) (o := .cells #[.int .i64 a1_0, .int .i64 a1_1, .int .i64 a1_2, .slice Ao36 l1_3.length co36] 28 (0, 0)) (by (with_reducible repeat (first | refine blk_drewN ?_ _ | refine blk_drew ?_ | refine blk_alloc ?_ _)); exact BK100001.out) NB100001_0.out (by simp)); have n2_ := Aside0.mk (KeepBut.blk hk (g' := gb100002) (o := .cells #[.int .i64 0, .int .i64 0, .int .i64 0, .slice none 0 0] 28 (0, 0)) (by (with_reducible repeat (first | refine blk_drewN ?_ _ | refine blk_drew ?_ | refine blk_alloc ?_ _)); exact BK100002.out) NB100002_0.out (by simp)); have n3_ := Aside0.mk (Kept.of_keep (S := (fun k_ => (P1_3_ k_) ∨ k_ = g)) (by repeat (first | (with_reducible first | exact HK.out | apply Kept.alloc | apply Kept.drewN | apply Kept.drew | refine Kept.setCell ?_ (.inl (.inr rfl)) _ | refine Kept.setCell ?_ (.inr GW100001.out) _ | refine Kept.setCell ?_ (.inr GW100002.out) _) | exact HK.out)) hk (.inl (.inr rfl))); have n4_ := Aside0.mk (hb); have n5_ := Aside0.mk (hi); clear HO1_3; clear BK100001; clear BK100002; clear HK; clear HB; clear HI0; have HO1_3 := n0_; have BK100001 := n1_; have BK100002 := n2_; have HK := n3_; have HB := n4_; have HI0 := n5_; clear n0_ n1_ n2_ n3_ n4_ n5_; (try clear hb); (try clear hb2); (try clear hk); (try clear hi)))
          have n0_ := Aside0.mk (Kd.R_drew HO1_3.out)
          have n1_ := Aside0.mk (blk_drew BK100001.out)
          have n2_ := Aside0.mk (blk_drew BK100002.out)
          have n3_ := Aside0.mk (IsS100.drew HI0.out)
          have n4_ := Aside0.mk (Kept.drew HK.out)
          have n5_ := Aside0.mk (below_drew1 HB.out)
          clear HO1_3
          clear BK100001
          clear BK100002
          clear HI0
          clear HK
          clear HB
          have HO1_3 := n0_
          have BK100001 := n1_
          have BK100002 := n2_
          have HI0 := n3_
          have HK := n4_
          have HB := n5_
          clear n0_ n1_ n2_ n3_ n4_ n5_
          refine start_ (n := 7) (S := fun w' => w'.cell? ⟨gb100001, 0, none⟩ = some (.int .i64 a1_0) ∧ w'.cell? ⟨gb100001, 1, none⟩ = some (.int .i64 a1_1) ∧ w'.cell? ⟨gb100001, 2, none⟩ = some (.int .i64 a1_2) ∧ w'.cell? ⟨gb100001, 3, none⟩ = some (.slice Ao36 l1_3.length co36)) (ds := [6]) #[false, false, false, false, false, false, false] (by kernel_rfl) rfl rfl ⟨(blk_cell BK100001.out 0).trans rfl, (blk_cell BK100001.out 1).trans rfl, (blk_cell BK100001.out 2).trans rfl, (blk_cell BK100001.out 3).trans rfl⟩ (fun hHeld => ?_)
          generalize w39.drew = w40 at HO1_3 BK100001 BK100002 HI0 HK HB hHeld ⊢
          refine pure_ (i := 0) (N := some 24) (v := ?_) (a' := ?_) #[true, false, false, false, false, false, false] rfl rfl (by kernel_rfl) (fun _ _ _ h => h) (Or.inl ⟨by rfl, ?_⟩) ?_ ?_
          rotate_left
          · intro w'
            go_simp
            with_reducible rfl
          rotate_left
          · simp only [Act.put, List.setIfInBounds_toArray, List.set_cons_zero, List.set_cons_succ, i64_w, i32_w]
            rfl
          refine pure_ (i := 2) (N := some 26) (v := ?_) (a' := ?_) #[true, false, true, false, false, false, false] rfl rfl (by kernel_rfl) (fun _ _ _ h => h) (Or.inl ⟨by rfl, ?_⟩) ?_ ?_
          rotate_left
          · intro w'
            go_simp
            with_reducible rfl
          rotate_left
          · simp only [Act.put, List.setIfInBounds_toArray, List.set_cons_zero, List.set_cons_succ, i64_w, i32_w]
            rfl
          refine take_ (i := 1) (N := some 25) (v := ?_) (a' := ?_) #[true, true, true, false, false, false, false] rfl rfl (by kernel_rfl) (fun _ _ _ h => h) (Or.inl ⟨by rfl, ?_⟩) hHeld ?_ ?_
          rotate_left
          · rintro w' ⟨s0, s1, s2, s3⟩
            go_simp
            with_reducible rfl
          rotate_left
          · simp only [Act.put, List.setIfInBounds_toArray, List.set_cons_zero, List.set_cons_succ, i64_w, i32_w]
            rfl
          refine one_ (i := 3) (N := some 27) #[true, true, true, true, false, false, false] rfl rfl (by kernel_rfl) (by decide) (fun K hK => ?_)
          refine Kd.R_lit_step (Kd.int .i64) _ 3 ?hg (N := 27) ?hd (xs := ([(-1), 256] : List Int)) (inner := [.int .i64 (-1), .int .i64 256]) (ok := fun _ => True) (okp := fun _ => True) ?hr ?hp (fun _ hk => hk) trivial (Below.refl _ _) (Nat.le_refl _) (by simp) ?_; (case hd => rfl); (case hg => rfl); (case hr => first | (go_simp; done) | (go_simp; rfl)); (case hp => exact (Reps.one (show Kd.M (Kd.int .i64) _ _ _ (-1) [.int .i64 (-1)] from rfl) (Reps.one (show Kd.M (Kd.int .i64) _ _ _ 256 [.int .i64 256] from rfl) (Reps.none _ _))))
          intro v100014 w41 ho42 hb hg_ hnew_
          clear hg_ hnew_
          (first | rw [← Ny100013.out] at ho42 | (simp only [Int.reduceToNat] at ho42; rw [← Ny100013.out] at ho42))
          have n0_ := Aside0.mk (Kd.R_elder' (by (with_reducible repeat (first | apply Kd.R_alloc | apply Kd.R_drewN | apply Kd.R_drew)); exact HO1_3.out) (Kd.R_base ho42) hb)
          have n1_ := Aside0.mk (Kd.R_lower (Kd.R_new' (Kd.R_newM (M := fun k_ => (P1_3_ k_ ∨ w.heap.size ≤ k_)) ho42 (by first | exact HK.out.1 | exact (show Kept w _ (fun k_ => (P1_3_ k_) ∨ k_ = g) from by repeat (first | (with_reducible first | exact HK.out | apply Kept.alloc | apply Kept.drewN | apply Kept.drew | refine Kept.setCell ?_ (.inl (.inr rfl)) _ | refine Kept.setCell ?_ (.inr GW100001.out) _ | refine Kept.setCell ?_ (.inr GW100002.out) _) | exact HK.out)).1) (fun k_ h_ => .inr h_)) (Kd.R_lt (by (with_reducible repeat (first | apply Kd.R_alloc | apply Kd.R_drewN | apply Kd.R_drew)); exact HO1_3.out))) (below_size (by repeat (first | (with_reducible first | exact HB.out | apply below_alloc | apply pw_below_drewN | apply below_drew1 | refine below_set ?_ (IsS100.ge HI0.out) | refine below_set ?_ GE100001.out | refine below_set ?_ GE100002.out) | exact HB.out))))
          have n2_ := Aside0.mk (IsS100.below (by repeat (first | (with_reducible first | exact HI0.out | apply IsS100.alloc | apply IsS100.drewN | apply IsS100.drew | apply IsS100.set_1 | refine IsS100.far ?_ NB0_100001.out _ | refine IsS100.far ?_ NB0_100002.out _) | exact HI0.out)) hb)
          have n3_ := Aside0.mk (blk_below (g := gb100001) (o := .cells #[.int .i64 a1_0, .int .i64 a1_1, .int .i64 a1_2, .slice Ao36 l1_3.length co36] 28 (0, 0)) (by (with_reducible repeat (first | refine blk_drewN ?_ _ | refine blk_drew ?_ | refine blk_alloc ?_ _)); exact BK100001.out) hb)
          have n4_ := Aside0.mk (blk_below (g := gb100002) (o := .cells #[.int .i64 0, .int .i64 0, .int .i64 0, .slice none 0 0] 28 (0, 0)) (by (with_reducible repeat (first | refine blk_drewN ?_ _ | refine blk_drew ?_ | refine blk_alloc ?_ _)); exact BK100002.out) hb)
          have n5_ := Aside0.mk (Kept.below (S := (fun k_ => (P1_3_ k_) ∨ k_ = g)) (by repeat (first | (with_reducible first | exact HK.out | apply Kept.alloc | apply Kept.drewN | apply Kept.drew | refine Kept.setCell ?_ (.inl (.inr rfl)) _ | refine Kept.setCell ?_ (.inr GW100001.out) _ | refine Kept.setCell ?_ (.inr GW100002.out) _) | exact HK.out)) hb)
          have n6_ := Aside0.mk (below_step (by repeat (first | (with_reducible first | exact HB.out | apply below_alloc | apply pw_below_drewN | apply below_drew1 | refine below_set ?_ (IsS100.ge HI0.out) | refine below_set ?_ GE100001.out | refine below_set ?_ GE100002.out) | exact HB.out)) hb)
          clear HO1_3
          clear HI0
          clear BK100001
          clear BK100002
          clear HK
          clear HB
          have HO1_3 := n0_
          have HO100015 := n1_
          have HI0 := n2_
          have BK100001 := n3_
          have BK100002 := n4_
          have HK := n5_
          have HB := n6_
          clear n0_ n1_ n2_ n3_ n4_ n5_ n6_
          clear hb ho42
          obtain ⟨Ao43, co43, eo43⟩ := Kd.R_slice HO100015.out
          (first | subst eo43 | (injection eo43 with f1_ f2_ f3_; have f4_ := f1_.symm; have f5_ := f3_.symm; clear f1_ f2_ f3_; subst f4_; subst f5_))
          refine hK.out _ _ ⟨(blk_cell BK100001.out 0).trans rfl, (blk_cell BK100001.out 1).trans rfl, (blk_cell BK100001.out 2).trans rfl, (blk_cell BK100001.out 3).trans rfl⟩ (fun hHeld => ?_)
          clear hK K
          refine norm_ (a' := ?_) ?_ ?_
          rotate_left
          · show Act.put _ (some 27) _ = _
            simp only [Act.put, List.setIfInBounds_toArray, List.set_cons_zero, List.set_cons_succ, i64_w, i32_w]
            rfl
          refine one_ (i := 4) (N := some 28) #[true, true, true, true, true, false, false] rfl rfl (by kernel_rfl) (by decide) (fun K hK => ?_)
          refine goes_ Try.func73 (by kernel_rfl) rfl #[.pointer (some ⟨g, 0, none⟩), .slice Ao43 y100013.length co43] (by rfl) rfl rfl (by (try simp only [List.map_toArray, List.map_cons, List.map_nil]); first | done | rfl | (simp only [List.length_drop, List.length_take]; rfl)) ?_
          with_reducible refine (spec_reader_one.calls k g s0_0 t100004 _ _ y100013 t100016 t100017 w0 _ ?side1 ?side2 ?side3 ?side4 ?side5 A33.out).mono ?_
          (case side1 => repeat (first | (with_reducible first | exact HI0.out | apply IsS100.alloc | apply IsS100.drewN | apply IsS100.drew | apply IsS100.set_1 | refine IsS100.far ?_ NB0_100001.out _ | refine IsS100.far ?_ NB0_100002.out _) | exact HI0.out))
          (case side2 => repeat (first | (with_reducible first | exact HB.out | apply below_alloc | apply pw_below_drewN | apply below_drew1 | refine below_set ?_ (IsS100.ge HI0.out) | refine below_set ?_ GE100001.out | refine below_set ?_ GE100002.out) | exact HB.out))
          (case side3 => repeat (first | exact (Kd.R_reads' HO100015.out).2.2 | (with_reducible refine Kd.C_alloc ?_ _) | (with_reducible refine Kd.C_drewN ?_ _) | (with_reducible refine Kd.C_drew ?_)))
          (case side4 => exact (Kd.R_reads' HO100015.out).2.1)
          (case side5 => exact far_slice (IsS100.own_ne HI0.out HO100015.out (by decide)))
          rintro e w44 ⟨rfl, hi, hb, hk⟩
          refine ⟨_, rfl, ?_⟩
          have n0_ := Aside0.mk (Kd.R_mono (Kd.R_keep (IsS100.apart (show IsS100 w0 _ g s0_0 t100004 from by repeat (first | (with_reducible first | exact HI0.out | apply IsS100.alloc | apply IsS100.drewN | apply IsS100.drew | apply IsS100.set_1 | refine IsS100.far ?_ NB0_100001.out _ | refine IsS100.far ?_ NB0_100002.out _) | exact HI0.out)) (by (with_reducible repeat (first | apply Kd.R_alloc | apply Kd.R_drewN | apply Kd.R_drew)); exact HO1_3.out) (by decide)) hk (fun _ h => h.2)) (fun _ h => h.1))
          have n1_ := Aside0.mk (KeepBut.blk hk (g' := gb100001) (o := .cells #[.int .i64 a1_0, .int .i64 a1_1, .int .i64 a1_2, .slice Ao36 l1_3.length co36] 28 (0, 0)) (by (with_reducible repeat (first | refine blk_drewN ?_ _ | refine blk_drew ?_ | refine blk_alloc ?_ _)); exact BK100001.out) NB100001_0.out (by simp))
          have n2_ := Aside0.mk (KeepBut.blk hk (g' := gb100002) (o := .cells #[.int .i64 0, .int .i64 0, .int .i64 0, .slice none 0 0] 28 (0, 0)) (by (with_reducible repeat (first | refine blk_drewN ?_ _ | refine blk_drew ?_ | refine blk_alloc ?_ _)); exact BK100002.out) NB100002_0.out (by simp))
          have n3_ := Aside0.mk (Kd.R_mono (Kd.R_keep (IsS100.apart (show IsS100 w0 _ g s0_0 t100004 from by repeat (first | (with_reducible first | exact HI0.out | apply IsS100.alloc | apply IsS100.drewN | apply IsS100.drew | apply IsS100.set_1 | refine IsS100.far ?_ NB0_100001.out _ | refine IsS100.far ?_ NB0_100002.out _) | exact HI0.out)) (by (with_reducible repeat (first | apply Kd.R_alloc | apply Kd.R_drewN | apply Kd.R_drew)); exact HO100015.out) (by decide)) hk (fun _ h => h.2)) (fun _ h => h.1))
          have n4_ := Aside0.mk (Kept.of_keep (S := (fun k_ => (P1_3_ k_) ∨ k_ = g)) (by repeat (first | (with_reducible first | exact HK.out | apply Kept.alloc | apply Kept.drewN | apply Kept.drew | refine Kept.setCell ?_ (.inl (.inr rfl)) _ | refine Kept.setCell ?_ (.inr GW100001.out) _ | refine Kept.setCell ?_ (.inr GW100002.out) _) | exact HK.out)) hk (.inl (.inr rfl)))
          have n5_ := Aside0.mk (hb)
          have n6_ := Aside0.mk (hi)
          clear HO1_3
          clear BK100001
          clear BK100002
          clear HO100015
          clear HK
          clear HB
          clear HI0
          have HO1_3 := n0_
          have BK100001 := n1_
          have BK100002 := n2_
          have HO100015 := n3_
          have HK := n4_
          have HB := n5_
          have HI0 := n6_
          clear n0_ n1_ n2_ n3_ n4_ n5_ n6_
          (try clear hb)
          (try clear hb2)
          (try clear hk)
          (try clear hi)
          have p35 : 0 ≤ (0 : Int) := (by omega)
          have q35 : (0 : Int) < ((l1_3.length : Int) : Int) := of_decide_eq_true (by first | (with_reducible assumption) | assumption)
          have qi35 : (0 < l1_3.length) = True := eq_true (by omega)
          obtain ⟨go35, co35, eo35, gb35, gl35, cl35, HG35⟩ := Kd.R_form HO1_3.out (by omega)
          (first | cases eo35 | (injection eo35 with ea_ en_ ec_; (first | subst ea_ | (injection ea_ with ea_; subst ea_)); subst ec_; clear en_))
          have GB35 := Aside0.mk gb35
          have GG35 := Aside0.mk HG35
          clear gb35 gl35 HG35
          have HMgo35 := Aside0.mk (show (P1_3_ go35 ∨ w.heap.size ≤ go35) from (HO1_3.out.1 _ rfl).1)
          obtain ⟨hx35_0, hf35_0⟩ := Kd.R_celln 0 HO1_3.out (0 : Int) p35 q35
          (try rw [show ((0 : Int)).toNat = 0 from rfl] at hx35_0)
          (try simp only [Nat.reduceMul, Nat.zero_mul, Nat.zero_add, Nat.reduceAdd] at hx35_0)
          (try rw [show ((0 : Int)).toNat = 0 from rfl] at hf35_0)
          (try simp only [Nat.reduceMul, Nat.zero_mul, Nat.zero_add, Nat.reduceAdd] at hf35_0)
          replace p35 := eq_true p35
          replace q35 := eq_true q35
          have HN0_go35 := Aside0.mk (show g ≠ go35 from by have h_ := IsS100.own_ne HI0.out HO1_3.out (by decide); intro e_; exact h_ (by rw [e_]; rfl))
          have HP45 := Kd.R_putn HO1_3.out (0 : Int) t100016
          rw [← Ny100018.out] at HP45
          have HQ45 := Aside0.mk HP45
          clear HP45
          refine hK.out _ _ ⟨(blk_cell BK100001.out 0).trans rfl, (blk_cell BK100001.out 1).trans rfl, (blk_cell BK100001.out 2).trans rfl, (blk_cell BK100001.out 3).trans rfl⟩ (fun hHeld => ?_)
          clear hK K
          refine norm_ (a' := ?_) ?_ ?_
          rotate_left
          · show Act.put _ (some 28) _ = _
            simp only [Act.put, List.setIfInBounds_toArray, List.set_cons_zero, List.set_cons_succ, i64_w, i32_w]
            rfl
          refine pure_ (i := 5) (N := some 29) (v := ?_) (a' := ?_) #[true, true, true, true, true, true, false] rfl rfl (by kernel_rfl) (fun _ _ _ h => h) (Or.inl ⟨by rfl, ?_⟩) ?_ ?_
          rotate_left
          · intro w'
            go_simp
            with_reducible rfl
          rotate_left
          · simp only [Act.put, List.setIfInBounds_toArray, List.set_cons_zero, List.set_cons_succ, i64_w, i32_w]
            rfl
          refine last_ (i := 6) (N := none) #[true, true, true, true, true, true, true] rfl rfl (by kernel_rfl) (by decide) (fun K hK => ?_)
          refine skip_ (w1 := ?_) (by rfl) rfl ?_ ?_
          rotate_left
          · go_simp
            rfl
          refine hK.out _ _ ?_
          clear hK K
          refine done_ (by kernel_rfl) ?_
          have n0_ : Aside0 (Kd.R (Kd.int .i64) 3 (w44.setCell ⟨go35, 0, none⟩ (.int .i64 t100016)) w0.heap.size (fun k_ => (P1_3_ k_ ∨ w.heap.size ≤ k_) ∧ some k_ ≠ (.slice Ao43 y100013.length co43 : Value).ownBlock) (.slice (some ⟨go35, 0, none⟩) l1_3.length co36) y100018) := ⟨by (with_reducible repeat (first | apply Kd.R_alloc | apply Kd.R_drewN | apply Kd.R_drew)); exact HQ45.out⟩
          have n1_ : Aside0 (Kd.R (Kd.int .i64) 3 (w44.setCell ⟨go35, 0, none⟩ (.int .i64 t100016)) w0.heap.size (fun k_ => (P1_3_ k_ ∨ w.heap.size ≤ k_) ∧ some k_ ≠ (.slice (some ⟨go35, 0, none⟩) l1_3.length co36 : Value).ownBlock) (.slice Ao43 y100013.length co43) y100013) := ⟨by (with_reducible repeat (first | apply Kd.R_alloc | apply Kd.R_drewN | apply Kd.R_drew)); exact Kd.R_mono (Kd.R_far (p := ⟨go35, 0, none⟩) (Kd.R_mono HO100015.out (fun k_ hk => (⟨hk, fun e_ => hk.2 (by rw [e_]; rfl)⟩ : _ ∧ k_ ≠ go35))) (fun _ hk => hk.2) (.int .i64 t100016)) (fun _ hk => ⟨hk.1.1.1, hk.1.2⟩)⟩
          have n2_ : Aside0 ((w44.setCell ⟨go35, 0, none⟩ (.int .i64 t100016)).heap[gb100001]? = some (.cells #[.int .i64 a1_0, .int .i64 a1_1, .int .i64 a1_2, .slice (some ⟨go35, 0, none⟩) l1_3.length co36] 28 (0, 0))) := ⟨by (with_reducible repeat (first | refine blk_drewN ?_ _ | refine blk_drew ?_ | refine blk_alloc ?_ _)); refine blk_far ?_ (by have h_ := Kd.R_ne HO1_3.out BK100001.out (by decide); intro e_; exact h_ (by rw [e_]; rfl)) _; (with_reducible repeat (first | refine blk_drewN ?_ _ | refine blk_drew ?_ | refine blk_alloc ?_ _)); exact BK100001.out⟩
          have n3_ : Aside0 ((w44.setCell ⟨go35, 0, none⟩ (.int .i64 t100016)).heap[gb100002]? = some (.cells #[.int .i64 0, .int .i64 0, .int .i64 0, .slice none 0 0] 28 (0, 0))) := ⟨by (with_reducible repeat (first | refine blk_drewN ?_ _ | refine blk_drew ?_ | refine blk_alloc ?_ _)); refine blk_far ?_ (by have h_ := Kd.R_ne HO1_3.out BK100002.out (by decide); intro e_; exact h_ (by rw [e_]; rfl)) _; (with_reducible repeat (first | refine blk_drewN ?_ _ | refine blk_drew ?_ | refine blk_alloc ?_ _)); exact BK100002.out⟩
          have n4_ : Aside0 (IsS100 w0 (w44.setCell ⟨go35, 0, none⟩ (.int .i64 t100016)) g s0_0 t100017) := ⟨by repeat (first | (with_reducible first | exact HI0.out | apply IsS100.alloc | apply IsS100.drewN | apply IsS100.drew | apply IsS100.set_1 | refine IsS100.far ?_ HN0_go35.out _ | refine IsS100.far ?_ NB0_100001.out _ | refine IsS100.far ?_ NB0_100002.out _) | exact HI0.out)⟩
          have n5_ : Aside0 (Kept w (w44.setCell ⟨go35, 0, none⟩ (.int .i64 t100016)) (fun k_ => (P1_3_ k_) ∨ k_ = g)) := ⟨by repeat (first | (with_reducible first | exact HK.out | apply Kept.alloc | apply Kept.drewN | apply Kept.drew | refine Kept.setCell ?_ (Or.imp_left Or.inl HMgo35.out) _ | refine Kept.setCell ?_ (.inl (.inr rfl)) _ | refine Kept.setCell ?_ (.inr GW100001.out) _ | refine Kept.setCell ?_ (.inr GW100002.out) _) | exact HK.out)⟩
          have n6_ : Aside0 (Below w0.heap.size w0 (w44.setCell ⟨go35, 0, none⟩ (.int .i64 t100016))) := ⟨by repeat (first | (with_reducible first | exact HB.out | apply below_alloc | apply pw_below_drewN | apply below_drew1 | refine below_set ?_ GB35.out | refine below_set ?_ (IsS100.ge HI0.out) | refine below_set ?_ GE100001.out | refine below_set ?_ GE100002.out) | exact HB.out)⟩
          (try clear HO1_3)
          (try clear HO100015)
          (try clear BK100001)
          (try clear BK100002)
          (try clear HI0)
          (try clear HK)
          (try clear HB)
          generalize (w44.setCell ⟨go35, 0, none⟩ (.int .i64 t100016)) = w46 at n0_ n1_ n2_ n3_ n4_ n5_ n6_ ⊢
          have HO1_3 := n0_
          have HO100015 := n1_
          have BK100001 := n2_
          have BK100002 := n3_
          have HI0 := n4_
          have HK := n5_
          have HB := n6_
          clear n0_ n1_ n2_ n3_ n4_ n5_ n6_
          have hnb47 := NB100001_100002.out
          have hnc47 := NB100002_100001.out
          have hnb48 := NB100001_0.out
          have hnc48 := NB0_100001.out
          have hcz49_0 : w46.cell? ⟨gb100001, 0, none⟩ = some (.int .i64 a1_0) := (blk_cell BK100001.out 0).trans rfl
          have hcz49_1 : w46.cell? ⟨gb100001, 1, none⟩ = some (.int .i64 a1_1) := (blk_cell BK100001.out 1).trans rfl
          have hcz49_2 : w46.cell? ⟨gb100001, 2, none⟩ = some (.int .i64 a1_2) := (blk_cell BK100001.out 2).trans rfl
          have hcz49_3 : w46.cell? ⟨gb100001, 3, none⟩ = some (.slice (some ⟨go35, 0, none⟩) l1_3.length co36) := (blk_cell BK100001.out 3).trans rfl
          have hfz49_0 := blk_frozen BK100001.out 0
          have hfz49_1 := blk_frozen BK100001.out 1
          have hfz49_2 := blk_frozen BK100001.out 2
          have hfz49_3 := blk_frozen BK100001.out 3
          have hnb50 := NB100002_0.out
          have hnc50 := NB0_100002.out
          have hcz51_0 : w46.cell? ⟨gb100002, 0, none⟩ = some (.int .i64 0) := (blk_cell BK100002.out 0).trans rfl
          have hcz51_1 : w46.cell? ⟨gb100002, 1, none⟩ = some (.int .i64 0) := (blk_cell BK100002.out 1).trans rfl
          have hcz51_2 : w46.cell? ⟨gb100002, 2, none⟩ = some (.int .i64 0) := (blk_cell BK100002.out 2).trans rfl
          have hcz51_3 : w46.cell? ⟨gb100002, 3, none⟩ = some (.slice none 0 0) := (blk_cell BK100002.out 3).trans rfl
          have hfz51_0 := blk_frozen BK100002.out 0
          have hfz51_1 := blk_frozen BK100002.out 1
          have hfz51_2 := blk_frozen BK100002.out 2
          have hfz51_3 := blk_frozen BK100002.out 3
          try go_wp2
          refine bodyPost_ret (results_cell_row rfl _ _ gb100002 28 #[.int .i64 a1_0, .int .i64 a1_1, .int .i64 a1_2, .slice (some ⟨go35, 0, none⟩) l1_3.length co36] (0, 0) _ rfl (by (with_reducible repeat (first | refine blk_drewN ?_ _ | refine blk_drew ?_ | refine blk_alloc ?_ _)); refine blk_put (cs := #[.int .i64 a1_0, .int .i64 a1_1, .int .i64 a1_2, .slice none 0 0]) ?_ 3 _ rfl; (with_reducible repeat (first | refine blk_drewN ?_ _ | refine blk_drew ?_ | refine blk_alloc ?_ _)); refine blk_put (cs := #[.int .i64 a1_0, .int .i64 a1_1, .int .i64 0, .slice none 0 0]) ?_ 2 _ rfl; (with_reducible repeat (first | refine blk_drewN ?_ _ | refine blk_drew ?_ | refine blk_alloc ?_ _)); refine blk_put (cs := #[.int .i64 a1_0, .int .i64 0, .int .i64 0, .slice none 0 0]) ?_ 1 _ rfl; (with_reducible repeat (first | refine blk_drewN ?_ _ | refine blk_drew ?_ | refine blk_alloc ?_ _)); refine blk_put (cs := #[.int .i64 0, .int .i64 0, .int .i64 0, .slice none 0 0]) ?_ 0 _ rfl; (with_reducible repeat (first | refine blk_drewN ?_ _ | refine blk_drew ?_ | refine blk_alloc ?_ _)); exact BK100002.out) Try.underlying28 rfl (by kernel_rfl)) rfl ?_
          exact ⟨_, by first | rfl | (simp [errW_none, errW_some] <;> rfl) | (simp [*, errW_none, errW_some] <;> rfl), Kd.Q_of_R (by (with_reducible repeat (first | apply Kd.R_alloc | apply Kd.R_drewN | apply Kd.R_drew)); exact Kd.R_mono (Kd.R_far (p := ⟨gb100002, 3, none⟩) (Kd.R_far (p := ⟨gb100002, 2, none⟩) (Kd.R_far (p := ⟨gb100002, 1, none⟩) (Kd.R_far (p := ⟨gb100002, 0, none⟩) (Kd.R_types HO1_3.out BK100002.out (by decide)) (fun _ hk => hk.2) (.int .i64 a1_0)) (fun _ hk => hk.2) (.int .i64 a1_1)) (fun _ hk => hk.2) (.int .i64 a1_2)) (fun _ hk => hk.2) (.slice (some ⟨go35, 0, none⟩) l1_3.length co36)) (fun _ hk => hk.1.1)), by repeat (first | (with_reducible first | exact HI0.out | apply IsS100.alloc | apply IsS100.drewN | apply IsS100.drew | apply IsS100.set_1 | refine IsS100.far ?_ NB0_100001.out _ | refine IsS100.far ?_ NB0_100002.out _) | exact HI0.out), by repeat (first | (with_reducible first | exact HB.out | apply below_alloc | apply pw_below_drewN | apply below_drew1 | refine below_set ?_ (IsS100.ge HI0.out) | refine below_set ?_ GE100001.out | refine below_set ?_ GE100002.out) | exact HB.out), by repeat (first | (with_reducible first | exact HK.out | apply Kept.alloc | apply Kept.drewN | apply Kept.drew | refine Kept.setCell ?_ (.inl (.inr rfl)) _ | refine Kept.setCell ?_ (.inr GW100001.out) _ | refine Kept.setCell ?_ (.inr GW100002.out) _) | exact HK.out)⟩
        · rw [if_neg c34] at H
          exact absurd H (by simp)
      · rw [if_neg c32] at H
        have c32b0 : (t100003 == 2) = false := beq_eq_false_iff_ne.mpr c32
        have c32b1 : (t100003 != 2) = true := bne_iff_ne.mpr c32
        by_cases c52 : t100003 = 3
        · rw [if_pos c52] at H
          have c52b0 : (t100003 == 3) = true := beq_iff_eq.mpr c52
          have c52b1 : (t100003 != 3) = false := bne_eq_false_iff_eq.mpr c52
          clear c52
          obtain ⟨y100019, hy100019⟩ : ∃ y_ : List Int, y_ = (([0, 5] : List Int)) := ⟨_, rfl⟩
          replace H : ((spec_reader_one.f k s0_0 t100004 y100019).bind fun bt100022 => (some (a1_0, a1_1, bt100022.1, l1_3, bt100022.2))) = some (r1, r2, r3, r4, r5) := by first | (rw [hy100019]; with_reducible exact H) | (have H2_ := (Option.bind_some _ _).symm.trans H; rw [hy100019]; with_reducible exact H2_) | (have H2_ := (Option.bind_some _ _).symm.trans H; with_reducible exact H2_) | with_reducible exact H | (rw [hy100019]; exact H) | exact H
          have Ny100019 := Aside0.mk hy100019
          clear hy100019
          replace H := Option.bind_eq_some_iff.mp H
          obtain ⟨⟨t100022, t100023⟩, A530, H⟩ := H
          replace H : (some (a1_0, a1_1, t100022, l1_3, t100023)) = some (r1, r2, r3, r4, r5) := H
          have A53 := Aside0.mk A530
          clear A530
          simp only [Option.some.injEq, Prod.mk.injEq] at H
          obtain ⟨rfl, rfl, rfl, rfl, rfl⟩ := H
          obtain ⟨Ao54, co54, eo54⟩ := Kd.R_slice HO1_3.out
          subst eo54
          go_enter Try.func99, Try.ntmps99
          go_wp2_with (first | ((with_reducible refine gate_dst (N := 3) rfl ?_); refine box_event ?hg (N := 3) ?hd (cs := #[.int .i64 a1_0, .int .i64 a1_1, .int .i64 a1_2, .slice Ao54 l1_3.length co54]) (t := 28) ?hr ?_; (case hd => rfl); (case hg => rfl); (case hr => first | (go_simp; done) | (go_simp; rfl)); intro gb100001 hg w55 hbox hb; have n0_ := Aside0.mk (Kd.R_below (by (with_reducible repeat (first | apply Kd.R_alloc | apply Kd.R_drewN | apply Kd.R_drew)); exact HO1_3.out) hb); have n1_ := Aside0.mk (IsS100.below (by repeat (first | (with_reducible first | exact HI0.out | apply IsS100.alloc | apply IsS100.drewN | apply IsS100.drew | apply IsS100.set_1) | exact HI0.out)) hb); have n2_ := Aside0.mk (Kept.below (S := (fun k_ => (P1_3_ k_) ∨ k_ = g)) (by repeat (first | (with_reducible first | exact HK.out | apply Kept.alloc | apply Kept.drewN | apply Kept.drew | refine Kept.setCell ?_ (.inl (.inr rfl)) _) | exact HK.out)) hb); have n3_ := Aside0.mk (below_step (by repeat (first | (with_reducible first | exact HB.out | apply below_alloc | apply pw_below_drewN | apply below_drew1 | refine below_set ?_ (IsS100.ge HI0.out)) | exact HB.out)) hb); have n4_ := Aside0.mk (hbox); have n5_ := Aside0.mk ((by rw [hg]; exact (by first | exact HK.out.1 | exact (show Kept w _ (fun k_ => (P1_3_ k_) ∨ k_ = g) from by repeat (first | (with_reducible first | exact HK.out | apply Kept.alloc | apply Kept.drewN | apply Kept.drew | refine Kept.setCell ?_ (.inl (.inr rfl)) _) | exact HK.out)).1) : w.heap.size ≤ gb100001)); have n6_ := Aside0.mk ((by rw [hg]; exact (below_size (by repeat (first | (with_reducible first | exact HB.out | apply below_alloc | apply pw_below_drewN | apply below_drew1 | refine below_set ?_ (IsS100.ge HI0.out)) | exact HB.out))) : w0.heap.size ≤ gb100001)); have n7_ := Aside0.mk ((by rw [hg]; exact Nat.ne_of_lt (IsS100.lt (show IsS100 w0 _ g s0_0 s0_1 from by repeat (first | (with_reducible first | exact HI0.out | apply IsS100.alloc | apply IsS100.drewN | apply IsS100.drew | apply IsS100.set_1) | exact HI0.out))) : g ≠ gb100001)); have n8_ := Aside0.mk ((by rw [hg]; exact Nat.ne_of_gt (IsS100.lt (show IsS100 w0 _ g s0_0 s0_1 from by repeat (first | (with_reducible first | exact HI0.out | apply IsS100.alloc | apply IsS100.drewN | apply IsS100.drew | apply IsS100.set_1) | exact HI0.out))) : gb100001 ≠ g)); clear HO1_3; clear HI0; clear HK; clear HB; have HO1_3 := n0_; have HI0 := n1_; have HK := n2_; have HB := n3_; have BK100001 := n4_; have GW100001 := n5_; have GE100001 := n6_; have NB0_100001 := n7_; have NB100001_0 := n8_; clear n0_ n1_ n2_ n3_ n4_ n5_ n6_ n7_ n8_; clear hb hbox hg) | ((with_reducible refine gate_dst (N := 4) rfl ?_); refine box_event ?hg (N := 4) ?hd (cs := #[.int .i64 0, .int .i64 0, .int .i64 0, .slice none 0 0]) (t := 28) ?hr ?_; (case hd => rfl); (case hg => rfl); (case hr => first | (go_simp; done) | (go_simp; rfl)); intro gb100002 hg w56 hbox hb; have n0_ := Aside0.mk (Kd.R_below (by (with_reducible repeat (first | apply Kd.R_alloc | apply Kd.R_drewN | apply Kd.R_drew)); exact HO1_3.out) hb); have n1_ := Aside0.mk (IsS100.below (by repeat (first | (with_reducible first | exact HI0.out | apply IsS100.alloc | apply IsS100.drewN | apply IsS100.drew | apply IsS100.set_1 | refine IsS100.far ?_ NB0_100001.out _) | exact HI0.out)) hb); have n2_ := Aside0.mk (blk_below (g := gb100001) (o := .cells #[.int .i64 a1_0, .int .i64 a1_1, .int .i64 a1_2, .slice Ao54 l1_3.length co54] 28 (0, 0)) (by (with_reducible repeat (first | refine blk_drewN ?_ _ | refine blk_drew ?_ | refine blk_alloc ?_ _)); exact BK100001.out) hb); have n3_ := Aside0.mk (Kept.below (S := (fun k_ => (P1_3_ k_) ∨ k_ = g)) (by repeat (first | (with_reducible first | exact HK.out | apply Kept.alloc | apply Kept.drewN | apply Kept.drew | refine Kept.setCell ?_ (.inl (.inr rfl)) _ | refine Kept.setCell ?_ (.inr GW100001.out) _) | exact HK.out)) hb); have n4_ := Aside0.mk (below_step (by repeat (first | (with_reducible first | exact HB.out | apply below_alloc | apply pw_below_drewN | apply below_drew1 | refine below_set ?_ (IsS100.ge HI0.out) | refine below_set ?_ GE100001.out) | exact HB.out)) hb); have n5_ := Aside0.mk (hbox); have n6_ := Aside0.mk ((by rw [hg]; exact (by first | exact HK.out.1 | exact (show Kept w _ (fun k_ => (P1_3_ k_) ∨ k_ = g) from by repeat (first | (with_reducible first | exact HK.out | apply Kept.alloc | apply Kept.drewN | apply Kept.drew | refine Kept.setCell ?_ (.inl (.inr rfl)) _ | refine Kept.setCell ?_ (.inr GW100001.out) _) | exact HK.out)).1) : w.heap.size ≤ gb100002)); have n7_ := Aside0.mk ((by rw [hg]; exact (below_size (by repeat (first | (with_reducible first | exact HB.out | apply below_alloc | apply pw_below_drewN | apply below_drew1 | refine below_set ?_ (IsS100.ge HI0.out) | refine below_set ?_ GE100001.out) | exact HB.out))) : w0.heap.size ≤ gb100002)); have n8_ := Aside0.mk ((by rw [hg]; exact Nat.ne_of_lt (blk_lt (g := gb100001) (o := .cells #[.int .i64 a1_0, .int .i64 a1_1, .int .i64 a1_2, .slice Ao54 l1_3.length co54] 28 (0, 0)) (by (with_reducible repeat (first | refine blk_drewN ?_ _ | refine blk_drew ?_ | refine blk_alloc ?_ _)); exact BK100001.out)) : gb100001 ≠ gb100002)); have n9_ := Aside0.mk ((by rw [hg]; exact Nat.ne_of_gt (blk_lt (g := gb100001) (o := .cells #[.int .i64 a1_0, .int .i64 a1_1, .int .i64 a1_2, .slice Ao54 l1_3.length co54] 28 (0, 0)) (by (with_reducible repeat (first | refine blk_drewN ?_ _ | refine blk_drew ?_ | refine blk_alloc ?_ _)); exact BK100001.out)) : gb100002 ≠ gb100001)); have n10_ := Aside0.mk ((by rw [hg]; exact Nat.ne_of_lt (IsS100.lt (show IsS100 w0 _ g s0_0 s0_1 from by repeat (first | (with_reducible first | exact HI0.out | apply IsS100.alloc | apply IsS100.drewN | apply IsS100.drew | apply IsS100.set_1 | refine IsS100.far ?_ NB0_100001.out _) | exact HI0.out))) : g ≠ gb100002)); have n11_ := Aside0.mk ((by rw [hg]; exact Nat.ne_of_gt (IsS100.lt (show IsS100 w0 _ g s0_0 s0_1 from by repeat (first | (with_reducible first | exact HI0.out | apply IsS100.alloc | apply IsS100.drewN | apply IsS100.drew | apply IsS100.set_1 | refine IsS100.far ?_ NB0_100001.out _) | exact HI0.out))) : gb100002 ≠ g)); clear HO1_3; clear HI0; clear BK100001; clear HK; clear HB; have HO1_3 := n0_; have HI0 := n1_; have BK100001 := n2_; have HK := n3_; have HB := n4_; have BK100002 := n5_; have GW100002 := n6_; have GE100002 := n7_; have NB100001_100002 := n8_; have NB100002_100001 := n9_; have NB0_100002 := n10_; have NB100002_0 := n11_; clear n0_ n1_ n2_ n3_ n4_ n5_ n6_ n7_ n8_ n9_ n10_ n11_; clear hb hbox hg) | ((with_reducible refine gate_callee (f := 82) rfl ?_); refine goesL_ (some 6) rfl rfl Try.func82 (by kernel_rfl) rfl #[.pointer (some ⟨g, 0, none⟩), .int .i64 40] rfl (by (try simp only [List.map_toArray, List.map_cons, List.map_nil]); first | done | rfl | (simp only [List.length_drop, List.length_take]; rfl)) ?_; (with_reducible refine (spec_reader_pick.calls k g s0_0 s0_1 40 t100003 t100004 w0 _ ?side1 ?side2 A3.out).mono ?_); (case side1 => repeat (first | (with_reducible first | exact HI0.out | apply IsS100.alloc | apply IsS100.drewN | apply IsS100.drew | apply IsS100.set_1 | refine IsS100.far ?_ NB0_100001.out _ | refine IsS100.far ?_ NB0_100002.out _) | exact HI0.out)); (case side2 => repeat (first | (with_reducible first | exact HB.out | apply below_alloc | apply pw_below_drewN | apply below_drew1 | refine below_set ?_ (IsS100.ge HI0.out) | refine below_set ?_ GE100001.out | refine below_set ?_ GE100002.out) | exact HB.out)); rintro e w57 ⟨rfl, hi, hb, hk⟩; refine ⟨_, rfl, ?_⟩; have n0_ := Aside0.mk (Kd.R_mono (Kd.R_keep (IsS100.apart (show IsS100 w0 _ g s0_0 s0_1 from by repeat (first | (with_reducible first | exact HI0.out | apply IsS100.alloc | apply IsS100.drewN | apply IsS100.drew | apply IsS100.set_1 | refine IsS100.far ?_ NB0_100001.out _ | refine IsS100.far ?_ NB0_100002.out _) | exact HI0.out)) (by (with_reducible repeat (first | apply Kd.R_alloc | apply Kd.R_drewN | apply Kd.R_drew)); exact HO1_3.out) (by decide)) hk (fun _ h => h.2)) (fun _ h => h.1)); have n1_ := Aside0.mk (KeepBut.blk hk (g' := gb100001) (o := .cells #[.int .i64 a1_0, .int .i64 a1_1, .int .i64 a1_2, .slice Ao54 l1_3.length co54] 28 (0, 0)) (by (with_reducible repeat (first | refine blk_drewN ?_ _ | refine blk_drew ?_ | refine blk_alloc ?_ _)); exact BK100001.out) NB100001_0.out (by simp)); have n2_ := Aside0.mk (KeepBut.blk hk (g' := gb100002) (o := .cells #[.int .i64 0, .int .i64 0, .int .i64 0, .slice none 0 0] 28 (0, 0)) (by (with_reducible repeat (first | refine blk_drewN ?_ _ | refine blk_drew ?_ | refine blk_alloc ?_ _)); exact BK100002.out) NB100002_0.out (by simp)); have n3_ := Aside0.mk (Kept.of_keep (S := (fun k_ => (P1_3_ k_) ∨ k_ = g)) (by repeat (first | (with_reducible first | exact HK.out | apply Kept.alloc | apply Kept.drewN | apply Kept.drew | refine Kept.setCell ?_ (.inl (.inr rfl)) _ | refine Kept.setCell ?_ (.inr GW100001.out) _ | refine Kept.setCell ?_ (.inr GW100002.out) _) | exact HK.out)) hk (.inl (.inr rfl))); have n4_ := Aside0.mk (hb); have n5_ := Aside0.mk (hi); clear HO1_3; clear BK100001; clear BK100002; clear HK; clear HB; clear HI0; have HO1_3 := n0_; have BK100001 := n1_; have BK100002 := n2_; have HK := n3_; have HB := n4_; have HI0 := n5_; clear n0_ n1_ n2_ n3_ n4_ n5_; (try clear hb); (try clear hb2); (try clear hk); (try clear hi)) | ((with_reducible refine gate_dst (N := 33) rfl ?_); refine Kd.R_lit (Kd.int .i64) _ 3 ?hg (N := 33) ?hd (xs := ([0, 5] : List Int)) (inner := [.int .i64 0, .int .i64 5]) (ok := fun _ => True) (okp := fun _ => True) ?hr ?hp (fun _ hk => hk) trivial (Below.refl _ _) (Nat.le_refl _) (by simp) ?_; (case hd => rfl); (case hg => rfl); (case hr => first | (go_simp; done) | (go_simp; rfl)); (case hp => exact (Reps.one (show Kd.M (Kd.int .i64) _ _ _ 0 [.int .i64 0] from rfl) (Reps.one (show Kd.M (Kd.int .i64) _ _ _ 5 [.int .i64 5] from rfl) (Reps.none _ _)))); intro v100020 w58 ho59 hb hg_ hnew_; clear hg_ hnew_; (first | rw [← Ny100019.out] at ho59 | (simp only [Int.reduceToNat] at ho59; rw [← Ny100019.out] at ho59)); have n0_ := Aside0.mk (Kd.R_elder' (by (with_reducible repeat (first | apply Kd.R_alloc | apply Kd.R_drewN | apply Kd.R_drew)); exact HO1_3.out) (Kd.R_base ho59) hb); have n1_ := Aside0.mk (Kd.R_lower (Kd.R_new' (Kd.R_newM (M := fun k_ => (P1_3_ k_ ∨ w.heap.size ≤ k_)) ho59 (by first | exact HK.out.1 | exact (show Kept w _ (fun k_ => (P1_3_ k_) ∨ k_ = g) from by repeat (first | (with_reducible first | exact HK.out | apply Kept.alloc | apply Kept.drewN | apply Kept.drew | refine Kept.setCell ?_ (.inl (.inr rfl)) _ | refine Kept.setCell ?_ (.inr GW100001.out) _ | refine Kept.setCell ?_ (.inr GW100002.out) _) | exact HK.out)).1) (fun k_ h_ => .inr h_)) (Kd.R_lt (by (with_reducible repeat (first | apply Kd.R_alloc | apply Kd.R_drewN | apply Kd.R_drew)); exact HO1_3.out))) (below_size (by repeat (first | (with_reducible first | exact HB.out | apply below_alloc | apply pw_below_drewN | apply below_drew1 | refine below_set ?_ (IsS100.ge HI0.out) | refine below_set ?_ GE100001.out | refine below_set ?_ GE100002.out) | exact HB.out)))); have n2_ := Aside0.mk (IsS100.below (by repeat (first | (with_reducible first | exact HI0.out | apply IsS100.alloc | apply IsS100.drewN | apply IsS100.drew | apply IsS100.set_1 | refine IsS100.far ?_ NB0_100001.out _ | refine IsS100.far ?_ NB0_100002.out _) | exact HI0.out)) hb); have n3_ := Aside0.mk (blk_below (g := gb100001) (o := .cells #[.int .i64 a1_0, .int .i64 a1_1, .int .i64 a1_2, .slice Ao54 l1_3.length co54] 28 (0, 0)) (by (with_reducible repeat (first | refine blk_drewN ?_ _ | refine blk_drew ?_ | refine blk_alloc ?_ _)); exact BK100001.out) hb); have n4_ := Aside0.mk (blk_below (g := gb100002) (o := .cells #[.int .i64 0, .int .i64 0, .int .i64 0, .slice none 0 0] 28 (0, 0)) (by (with_reducible repeat (first | refine blk_drewN ?_ _ | refine blk_drew ?_ | refine blk_alloc ?_ _)); exact BK100002.out) hb); have n5_ := Aside0.mk (Kept.below (S := (fun k_ => (P1_3_ k_) ∨ k_ = g)) (by repeat (first | (with_reducible first | exact HK.out | apply Kept.alloc | apply Kept.drewN | apply Kept.drew | refine Kept.setCell ?_ (.inl (.inr rfl)) _ | refine Kept.setCell ?_ (.inr GW100001.out) _ | refine Kept.setCell ?_ (.inr GW100002.out) _) | exact HK.out)) hb); have n6_ := Aside0.mk (below_step (by repeat (first | (with_reducible first | exact HB.out | apply below_alloc | apply pw_below_drewN | apply below_drew1 | refine below_set ?_ (IsS100.ge HI0.out) | refine below_set ?_ GE100001.out | refine below_set ?_ GE100002.out) | exact HB.out)) hb); clear HO1_3; clear HI0; clear BK100001; clear BK100002; clear HK; clear HB; have HO1_3 := n0_; have HO100021 := n1_; have HI0 := n2_; have BK100001 := n3_; have BK100002 := n4_; have HK := n5_; have HB := n6_; clear n0_ n1_ n2_ n3_ n4_ n5_ n6_; clear hb ho59; obtain ⟨Ao60, co60, eo60⟩ := Kd.R_slice HO100021.out; subst eo60) | ((with_reducible refine gate_callee (f := 73) rfl ?_); refine goesL_ (some 34) rfl rfl Try.func73 (by kernel_rfl) rfl #[.pointer (some ⟨g, 0, none⟩), .slice Ao60 y100019.length co60] rfl (by (try simp only [List.map_toArray, List.map_cons, List.map_nil]); first | done | rfl | (simp only [List.length_drop, List.length_take]; rfl)) ?_; (with_reducible refine (spec_reader_one.calls k g s0_0 t100004 _ _ y100019 t100022 t100023 w0 _ ?side1 ?side2 ?side3 ?side4 ?side5 A53.out).mono ?_); (case side1 => repeat (first | (with_reducible first | exact HI0.out | apply IsS100.alloc | apply IsS100.drewN | apply IsS100.drew | apply IsS100.set_1 | refine IsS100.far ?_ NB0_100001.out _ | refine IsS100.far ?_ NB0_100002.out _) | exact HI0.out)); (case side2 => repeat (first | (with_reducible first | exact HB.out | apply below_alloc | apply pw_below_drewN | apply below_drew1 | refine below_set ?_ (IsS100.ge HI0.out) | refine below_set ?_ GE100001.out | refine below_set ?_ GE100002.out) | exact HB.out)); (case side3 => repeat (first | exact (Kd.R_reads' HO100021.out).2.2 | (with_reducible refine Kd.C_alloc ?_ _) | (with_reducible refine Kd.C_drewN ?_ _) | (with_reducible refine Kd.C_drew ?_))); (case side4 => exact (Kd.R_reads' HO100021.out).2.1); (case side5 => exact far_slice (IsS100.own_ne HI0.out HO100021.out (by decide))); rintro e w61 ⟨rfl, hi, hb, hk⟩; refine ⟨_, rfl, ?_⟩; have n0_ := Aside0.mk (Kd.R_mono (Kd.R_keep (IsS100.apart (show IsS100 w0 _ g s0_0 t100004 from by repeat (first | (with_reducible first | exact HI0.out | apply IsS100.alloc | apply IsS100.drewN | apply IsS100.drew | apply IsS100.set_1 | refine IsS100.far ?_ NB0_100001.out _ | refine IsS100.far ?_ NB0_100002.out _) | exact HI0.out)) (by (with_reducible repeat (first | apply Kd.R_alloc | apply Kd.R_drewN | apply Kd.R_drew)); exact HO1_3.out) (by decide)) hk (fun _ h => h.2)) (fun _ h => h.1)); have n1_ := Aside0.mk (KeepBut.blk hk (g' := gb100001) (o := .cells #[.int .i64 a1_0, .int .i64 a1_1, .int .i64 a1_2, .slice Ao54 l1_3.length co54] 28 (0, 0)) (by (with_reducible repeat (first | refine blk_drewN ?_ _ | refine blk_drew ?_ | refine blk_alloc ?_ _)); exact BK100001.out) NB100001_0.out (by simp)); have n2_ := Aside0.mk (KeepBut.blk hk (g' := gb100002) (o := .cells #[.int .i64 0, .int .i64 0, .int .i64 0, .slice none 0 0] 28 (0, 0)) (by (with_reducible repeat (first | refine blk_drewN ?_ _ | refine blk_drew ?_ | refine blk_alloc ?_ _)); exact BK100002.out) NB100002_0.out (by simp)); have n3_ := Aside0.mk (Kd.R_mono (Kd.R_keep (IsS100.apart (show IsS100 w0 _ g s0_0 t100004 from by repeat (first | (with_reducible first | exact HI0.out | apply IsS100.alloc | apply IsS100.drewN | apply IsS100.drew | apply IsS100.set_1 | refine IsS100.far ?_ NB0_100001.out _ | refine IsS100.far ?_ NB0_100002.out _) | exact HI0.out)) (by (with_reducible repeat (first | apply Kd.R_alloc | apply Kd.R_drewN | apply Kd.R_drew)); exact HO100021.out) (by decide)) hk (fun _ h => h.2)) (fun _ h => h.1)); have n4_ := Aside0.mk (Kept.of_keep (S := (fun k_ => (P1_3_ k_) ∨ k_ = g)) (by repeat (first | (with_reducible first | exact HK.out | apply Kept.alloc | apply Kept.drewN | apply Kept.drew | refine Kept.setCell ?_ (.inl (.inr rfl)) _ | refine Kept.setCell ?_ (.inr GW100001.out) _ | refine Kept.setCell ?_ (.inr GW100002.out) _) | exact HK.out)) hk (.inl (.inr rfl))); have n5_ := Aside0.mk (hb); have n6_ := Aside0.mk (hi); clear HO1_3; clear BK100001; clear BK100002; clear HO100021; clear HK; clear HB; clear HI0; have HO1_3 := n0_; have BK100001 := n1_; have BK100002 := n2_; have HO100021 := n3_; have HK := n4_; have HB := n5_; have HI0 := n6_; clear n0_ n1_ n2_ n3_ n4_ n5_ n6_; (try clear hb); (try clear hb2); (try clear hk); (try clear hi); have hnb62 := NB100001_100002.out; have hnc62 := NB100002_100001.out; have hnb63 := NB100001_0.out; have hnc63 := NB0_100001.out; have hcz64_0 : w61.cell? ⟨gb100001, 0, none⟩ = some (.int .i64 a1_0) := (blk_cell BK100001.out 0).trans rfl; have hcz64_1 : w61.cell? ⟨gb100001, 1, none⟩ = some (.int .i64 a1_1) := (blk_cell BK100001.out 1).trans rfl; have hcz64_2 : w61.cell? ⟨gb100001, 2, none⟩ = some (.int .i64 a1_2) := (blk_cell BK100001.out 2).trans rfl; have hcz64_3 : w61.cell? ⟨gb100001, 3, none⟩ = some (.slice Ao54 l1_3.length co54) := (blk_cell BK100001.out 3).trans rfl; have hfz64_0 := blk_frozen BK100001.out 0; have hfz64_1 := blk_frozen BK100001.out 1; have hfz64_2 := blk_frozen BK100001.out 2; have hfz64_3 := blk_frozen BK100001.out 3; have hnb65 := NB100002_0.out; have hnc65 := NB0_100002.out; have hcz66_0 : w61.cell? ⟨gb100002, 0, none⟩ = some (.int .i64 0) := (blk_cell BK100002.out 0).trans rfl; have hcz66_1 : w61.cell? ⟨gb100002, 1, none⟩ = some (.int .i64 0) := (blk_cell BK100002.out 1).trans rfl; have hcz66_2 : w61.cell? ⟨gb100002, 2, none⟩ = some (.int .i64 0) := (blk_cell BK100002.out 2).trans rfl; have hcz66_3 : w61.cell? ⟨gb100002, 3, none⟩ = some (.slice none 0 0) := (blk_cell BK100002.out 3).trans rfl; have hfz66_0 := blk_frozen BK100002.out 0; have hfz66_1 := blk_frozen BK100002.out 1; have hfz66_2 := blk_frozen BK100002.out 2; have hfz66_3 := blk_frozen BK100002.out 3))
          refine bodyPost_ret (results_cell_row rfl _ _ gb100002 28 #[.int .i64 a1_0, .int .i64 a1_1, .int .i64 t100022, .slice Ao54 l1_3.length co54] (0, 0) _ rfl (by (with_reducible repeat (first | refine blk_drewN ?_ _ | refine blk_drew ?_ | refine blk_alloc ?_ _)); refine blk_put (cs := #[.int .i64 a1_0, .int .i64 a1_1, .int .i64 t100022, .slice none 0 0]) ?_ 3 _ rfl; (with_reducible repeat (first | refine blk_drewN ?_ _ | refine blk_drew ?_ | refine blk_alloc ?_ _)); refine blk_put (cs := #[.int .i64 a1_0, .int .i64 a1_1, .int .i64 0, .slice none 0 0]) ?_ 2 _ rfl; (with_reducible repeat (first | refine blk_drewN ?_ _ | refine blk_drew ?_ | refine blk_alloc ?_ _)); refine blk_put (cs := #[.int .i64 a1_0, .int .i64 0, .int .i64 0, .slice none 0 0]) ?_ 1 _ rfl; (with_reducible repeat (first | refine blk_drewN ?_ _ | refine blk_drew ?_ | refine blk_alloc ?_ _)); refine blk_put (cs := #[.int .i64 0, .int .i64 0, .int .i64 0, .slice none 0 0]) ?_ 0 _ rfl; (with_reducible repeat (first | refine blk_drewN ?_ _ | refine blk_drew ?_ | refine blk_alloc ?_ _)); refine blk_far ?_ NB100002_100001.out _; (with_reducible repeat (first | refine blk_drewN ?_ _ | refine blk_drew ?_ | refine blk_alloc ?_ _)); exact BK100002.out) Try.underlying28 rfl (by kernel_rfl)) rfl ?_
          exact ⟨_, by first | rfl | (simp [errW_none, errW_some] <;> rfl) | (simp [*, errW_none, errW_some] <;> rfl), Kd.Q_of_R (by (with_reducible repeat (first | apply Kd.R_alloc | apply Kd.R_drewN | apply Kd.R_drew)); exact Kd.R_mono (Kd.R_far (p := ⟨gb100002, 3, none⟩) (Kd.R_far (p := ⟨gb100002, 2, none⟩) (Kd.R_far (p := ⟨gb100002, 1, none⟩) (Kd.R_far (p := ⟨gb100002, 0, none⟩) (Kd.R_far (p := ⟨gb100001, 2, none⟩) (Kd.R_types (Kd.R_types HO1_3.out BK100001.out (by decide)) BK100002.out (by decide)) (fun _ hk => hk.1.2) (.int .i64 t100022)) (fun _ hk => hk.2) (.int .i64 a1_0)) (fun _ hk => hk.2) (.int .i64 a1_1)) (fun _ hk => hk.2) (.int .i64 t100022)) (fun _ hk => hk.2) (.slice Ao54 l1_3.length co54)) (fun _ hk => hk.1.1.1)), by repeat (first | (with_reducible first | exact HI0.out | apply IsS100.alloc | apply IsS100.drewN | apply IsS100.drew | apply IsS100.set_1 | refine IsS100.far ?_ NB0_100001.out _ | refine IsS100.far ?_ NB0_100002.out _) | exact HI0.out), by repeat (first | (with_reducible first | exact HB.out | apply below_alloc | apply pw_below_drewN | apply below_drew1 | refine below_set ?_ (IsS100.ge HI0.out) | refine below_set ?_ GE100001.out | refine below_set ?_ GE100002.out) | exact HB.out), by repeat (first | (with_reducible first | exact HK.out | apply Kept.alloc | apply Kept.drewN | apply Kept.drew | refine Kept.setCell ?_ (.inl (.inr rfl)) _ | refine Kept.setCell ?_ (.inr GW100001.out) _ | refine Kept.setCell ?_ (.inr GW100002.out) _) | exact HK.out)⟩
        · rw [if_neg c52] at H
          have c52b0 : (t100003 == 3) = false := beq_eq_false_iff_ne.mpr c52
          have c52b1 : (t100003 != 3) = true := bne_iff_ne.mpr c52
          simp only [Option.some.injEq, Prod.mk.injEq] at H
          obtain ⟨rfl, rfl, rfl, rfl, rfl⟩ := H
          obtain ⟨Ao67, co67, eo67⟩ := Kd.R_slice HO1_3.out
          subst eo67
          go_enter Try.func99, Try.ntmps99
          go_wp2_with (first | ((with_reducible refine gate_dst (N := 3) rfl ?_); refine box_event ?hg (N := 3) ?hd (cs := #[.int .i64 a1_0, .int .i64 a1_1, .int .i64 a1_2, .slice Ao67 l1_3.length co67]) (t := 28) ?hr ?_; (case hd => rfl); (case hg => rfl); (case hr => first | (go_simp; done) | (go_simp; rfl)); intro gb100001 hg w68 hbox hb; have n0_ := Aside0.mk (Kd.R_below (by (with_reducible repeat (first | apply Kd.R_alloc | apply Kd.R_drewN | apply Kd.R_drew)); exact HO1_3.out) hb); have n1_ := Aside0.mk (IsS100.below (by repeat (first | (with_reducible first | exact HI0.out | apply IsS100.alloc | apply IsS100.drewN | apply IsS100.drew | apply IsS100.set_1) | exact HI0.out)) hb); have n2_ := Aside0.mk (Kept.below (S := (fun k_ => (P1_3_ k_) ∨ k_ = g)) (by repeat (first | (with_reducible first | exact HK.out | apply Kept.alloc | apply Kept.drewN | apply Kept.drew | refine Kept.setCell ?_ (.inl (.inr rfl)) _) | exact HK.out)) hb); have n3_ := Aside0.mk (below_step (by repeat (first | (with_reducible first | exact HB.out | apply below_alloc | apply pw_below_drewN | apply below_drew1 | refine below_set ?_ (IsS100.ge HI0.out)) | exact HB.out)) hb); have n4_ := Aside0.mk (hbox); have n5_ := Aside0.mk ((by rw [hg]; exact (by first | exact HK.out.1 | exact (show Kept w _ (fun k_ => (P1_3_ k_) ∨ k_ = g) from by repeat (first | (with_reducible first | exact HK.out | apply Kept.alloc | apply Kept.drewN | apply Kept.drew | refine Kept.setCell ?_ (.inl (.inr rfl)) _) | exact HK.out)).1) : w.heap.size ≤ gb100001)); have n6_ := Aside0.mk ((by rw [hg]; exact (below_size (by repeat (first | (with_reducible first | exact HB.out | apply below_alloc | apply pw_below_drewN | apply below_drew1 | refine below_set ?_ (IsS100.ge HI0.out)) | exact HB.out))) : w0.heap.size ≤ gb100001)); have n7_ := Aside0.mk ((by rw [hg]; exact Nat.ne_of_lt (IsS100.lt (show IsS100 w0 _ g s0_0 s0_1 from by repeat (first | (with_reducible first | exact HI0.out | apply IsS100.alloc | apply IsS100.drewN | apply IsS100.drew | apply IsS100.set_1) | exact HI0.out))) : g ≠ gb100001)); have n8_ := Aside0.mk ((by rw [hg]; exact Nat.ne_of_gt (IsS100.lt (show IsS100 w0 _ g s0_0 s0_1 from by repeat (first | (with_reducible first | exact HI0.out | apply IsS100.alloc | apply IsS100.drewN | apply IsS100.drew | apply IsS100.set_1) | exact HI0.out))) : gb100001 ≠ g)); clear HO1_3; clear HI0; clear HK; clear HB; have HO1_3 := n0_; have HI0 := n1_; have HK := n2_; have HB := n3_; have BK100001 := n4_; have GW100001 := n5_; have GE100001 := n6_; have NB0_100001 := n7_; have NB100001_0 := n8_; clear n0_ n1_ n2_ n3_ n4_ n5_ n6_ n7_ n8_; clear hb hbox hg) | ((with_reducible refine gate_dst (N := 4) rfl ?_); refine box_event ?hg (N := 4) ?hd (cs := #[.int .i64 0, .int .i64 0, .int .i64 0, .slice none 0 0]) (t := 28) ?hr ?_; (case hd => rfl); (case hg => rfl); (case hr => first | (go_simp; done) | (go_simp; rfl)); intro gb100002 hg w69 hbox hb; have n0_ := Aside0.mk (Kd.R_below (by (with_reducible repeat (first | apply Kd.R_alloc | apply Kd.R_drewN | apply Kd.R_drew)); exact HO1_3.out) hb); have n1_ := Aside0.mk (IsS100.below (by repeat (first | (with_reducible first | exact HI0.out | apply IsS100.alloc | apply IsS100.drewN | apply IsS100.drew | apply IsS100.set_1 | refine IsS100.far ?_ NB0_100001.out _) | exact HI0.out)) hb); have n2_ := Aside0.mk (blk_below (g := gb100001) (o := .cells #[.int .i64 a1_0, .int .i64 a1_1, .int .i64 a1_2, .slice Ao67 l1_3.length co67] 28 (0, 0)) (by (with_reducible repeat (first | refine blk_drewN ?_ _ | refine blk_drew ?_ | refine blk_alloc ?_ _)); exact BK100001.out) hb); have n3_ := Aside0.mk (Kept.below (S := (fun k_ => (P1_3_ k_) ∨ k_ = g)) (by repeat (first | (with_reducible first | exact HK.out | apply Kept.alloc | apply Kept.drewN | apply Kept.drew | refine Kept.setCell ?_ (.inl (.inr rfl)) _ | refine Kept.setCell ?_ (.inr GW100001.out) _) | exact HK.out)) hb); have n4_ := Aside0.mk (below_step (by repeat (first | (with_reducible first | exact HB.out | apply below_alloc | apply pw_below_drewN | apply below_drew1 | refine below_set ?_ (IsS100.ge HI0.out) | refine below_set ?_ GE100001.out) | exact HB.out)) hb); have n5_ := Aside0.mk (hbox); have n6_ := Aside0.mk ((by rw [hg]; exact (by first | exact HK.out.1 | exact (show Kept w _ (fun k_ => (P1_3_ k_) ∨ k_ = g) from by repeat (first | (with_reducible first | exact HK.out | apply Kept.alloc | apply Kept.drewN | apply Kept.drew | refine Kept.setCell ?_ (.inl (.inr rfl)) _ | refine Kept.setCell ?_ (.inr GW100001.out) _) | exact HK.out)).1) : w.heap.size ≤ gb100002)); have n7_ := Aside0.mk ((by rw [hg]; exact (below_size (by repeat (first | (with_reducible first | exact HB.out | apply below_alloc | apply pw_below_drewN | apply below_drew1 | refine below_set ?_ (IsS100.ge HI0.out) | refine below_set ?_ GE100001.out) | exact HB.out))) : w0.heap.size ≤ gb100002)); have n8_ := Aside0.mk ((by rw [hg]; exact Nat.ne_of_lt (blk_lt (g := gb100001) (o := .cells #[.int .i64 a1_0, .int .i64 a1_1, .int .i64 a1_2, .slice Ao67 l1_3.length co67] 28 (0, 0)) (by (with_reducible repeat (first | refine blk_drewN ?_ _ | refine blk_drew ?_ | refine blk_alloc ?_ _)); exact BK100001.out)) : gb100001 ≠ gb100002)); have n9_ := Aside0.mk ((by rw [hg]; exact Nat.ne_of_gt (blk_lt (g := gb100001) (o := .cells #[.int .i64 a1_0, .int .i64 a1_1, .int .i64 a1_2, .slice Ao67 l1_3.length co67] 28 (0, 0)) (by (with_reducible repeat (first | refine blk_drewN ?_ _ | refine blk_drew ?_ | refine blk_alloc ?_ _)); exact BK100001.out)) : gb100002 ≠ gb100001)); have n10_ := Aside0.mk ((by rw [hg]; exact Nat.ne_of_lt (IsS100.lt (show IsS100 w0 _ g s0_0 s0_1 from by repeat (first | (with_reducible first | exact HI0.out | apply IsS100.alloc | apply IsS100.drewN | apply IsS100.drew | apply IsS100.set_1 | refine IsS100.far ?_ NB0_100001.out _) | exact HI0.out))) : g ≠ gb100002)); have n11_ := Aside0.mk ((by rw [hg]; exact Nat.ne_of_gt (IsS100.lt (show IsS100 w0 _ g s0_0 s0_1 from by repeat (first | (with_reducible first | exact HI0.out | apply IsS100.alloc | apply IsS100.drewN | apply IsS100.drew | apply IsS100.set_1 | refine IsS100.far ?_ NB0_100001.out _) | exact HI0.out))) : gb100002 ≠ g)); clear HO1_3; clear HI0; clear BK100001; clear HK; clear HB; have HO1_3 := n0_; have HI0 := n1_; have BK100001 := n2_; have HK := n3_; have HB := n4_; have BK100002 := n5_; have GW100002 := n6_; have GE100002 := n7_; have NB100001_100002 := n8_; have NB100002_100001 := n9_; have NB0_100002 := n10_; have NB100002_0 := n11_; clear n0_ n1_ n2_ n3_ n4_ n5_ n6_ n7_ n8_ n9_ n10_ n11_; clear hb hbox hg) | ((with_reducible refine gate_callee (f := 82) rfl ?_); refine goesL_ (some 6) rfl rfl Try.func82 (by kernel_rfl) rfl #[.pointer (some ⟨g, 0, none⟩), .int .i64 40] rfl (by (try simp only [List.map_toArray, List.map_cons, List.map_nil]); first | done | rfl | (simp only [List.length_drop, List.length_take]; rfl)) ?_; (with_reducible refine (spec_reader_pick.calls k g s0_0 s0_1 40 t100003 t100004 w0 _ ?side1 ?side2 A3.out).mono ?_); (case side1 => repeat (first | (with_reducible first | exact HI0.out | apply IsS100.alloc | apply IsS100.drewN | apply IsS100.drew | apply IsS100.set_1 | refine IsS100.far ?_ NB0_100001.out _ | refine IsS100.far ?_ NB0_100002.out _) | exact HI0.out)); (case side2 => repeat (first | (with_reducible first | exact HB.out | apply below_alloc | apply pw_below_drewN | apply below_drew1 | refine below_set ?_ (IsS100.ge HI0.out) | refine below_set ?_ GE100001.out | refine below_set ?_ GE100002.out) | exact HB.out)); rintro e w70 ⟨rfl, hi, hb, hk⟩; refine ⟨_, rfl, ?_⟩; have n0_ := Aside0.mk (Kd.R_mono (Kd.R_keep (IsS100.apart (show IsS100 w0 _ g s0_0 s0_1 from by repeat (first | (with_reducible first | exact HI0.out | apply IsS100.alloc | apply IsS100.drewN | apply IsS100.drew | apply IsS100.set_1 | refine IsS100.far ?_ NB0_100001.out _ | refine IsS100.far ?_ NB0_100002.out _) | exact HI0.out)) (by (with_reducible repeat (first | apply Kd.R_alloc | apply Kd.R_drewN | apply Kd.R_drew)); exact HO1_3.out) (by decide)) hk (fun _ h => h.2)) (fun _ h => h.1)); have n1_ := Aside0.mk (KeepBut.blk hk (g' := gb100001) (o := .cells #[.int .i64 a1_0, .int .i64 a1_1, .int .i64 a1_2, .slice Ao67 l1_3.length co67] 28 (0, 0)) (by (with_reducible repeat (first | refine blk_drewN ?_ _ | refine blk_drew ?_ | refine blk_alloc ?_ _)); exact BK100001.out) NB100001_0.out (by simp)); have n2_ := Aside0.mk (KeepBut.blk hk (g' := gb100002) (o := .cells #[.int .i64 0, .int .i64 0, .int .i64 0, .slice none 0 0] 28 (0, 0)) (by (with_reducible repeat (first | refine blk_drewN ?_ _ | refine blk_drew ?_ | refine blk_alloc ?_ _)); exact BK100002.out) NB100002_0.out (by simp)); have n3_ := Aside0.mk (Kept.of_keep (S := (fun k_ => (P1_3_ k_) ∨ k_ = g)) (by repeat (first | (with_reducible first | exact HK.out | apply Kept.alloc | apply Kept.drewN | apply Kept.drew | refine Kept.setCell ?_ (.inl (.inr rfl)) _ | refine Kept.setCell ?_ (.inr GW100001.out) _ | refine Kept.setCell ?_ (.inr GW100002.out) _) | exact HK.out)) hk (.inl (.inr rfl))); have n4_ := Aside0.mk (hb); have n5_ := Aside0.mk (hi); clear HO1_3; clear BK100001; clear BK100002; clear HK; clear HB; clear HI0; have HO1_3 := n0_; have BK100001 := n1_; have BK100002 := n2_; have HK := n3_; have HB := n4_; have HI0 := n5_; clear n0_ n1_ n2_ n3_ n4_ n5_; (try clear hb); (try clear hb2); (try clear hk); (try clear hi); have hnb71 := NB100001_100002.out; have hnc71 := NB100002_100001.out; have hnb72 := NB100001_0.out; have hnc72 := NB0_100001.out; have hcz73_0 : w70.cell? ⟨gb100001, 0, none⟩ = some (.int .i64 a1_0) := (blk_cell BK100001.out 0).trans rfl; have hcz73_1 : w70.cell? ⟨gb100001, 1, none⟩ = some (.int .i64 a1_1) := (blk_cell BK100001.out 1).trans rfl; have hcz73_2 : w70.cell? ⟨gb100001, 2, none⟩ = some (.int .i64 a1_2) := (blk_cell BK100001.out 2).trans rfl; have hcz73_3 : w70.cell? ⟨gb100001, 3, none⟩ = some (.slice Ao67 l1_3.length co67) := (blk_cell BK100001.out 3).trans rfl; have hfz73_0 := blk_frozen BK100001.out 0; have hfz73_1 := blk_frozen BK100001.out 1; have hfz73_2 := blk_frozen BK100001.out 2; have hfz73_3 := blk_frozen BK100001.out 3; have hnb74 := NB100002_0.out; have hnc74 := NB0_100002.out; have hcz75_0 : w70.cell? ⟨gb100002, 0, none⟩ = some (.int .i64 0) := (blk_cell BK100002.out 0).trans rfl; have hcz75_1 : w70.cell? ⟨gb100002, 1, none⟩ = some (.int .i64 0) := (blk_cell BK100002.out 1).trans rfl; have hcz75_2 : w70.cell? ⟨gb100002, 2, none⟩ = some (.int .i64 0) := (blk_cell BK100002.out 2).trans rfl; have hcz75_3 : w70.cell? ⟨gb100002, 3, none⟩ = some (.slice none 0 0) := (blk_cell BK100002.out 3).trans rfl; have hfz75_0 := blk_frozen BK100002.out 0; have hfz75_1 := blk_frozen BK100002.out 1; have hfz75_2 := blk_frozen BK100002.out 2; have hfz75_3 := blk_frozen BK100002.out 3))
          refine bodyPost_ret (results_cell_row rfl _ _ gb100002 28 #[.int .i64 a1_0, .int .i64 a1_1, .int .i64 a1_2, .slice Ao67 l1_3.length co67] (0, 0) _ rfl (by (with_reducible repeat (first | refine blk_drewN ?_ _ | refine blk_drew ?_ | refine blk_alloc ?_ _)); refine blk_put (cs := #[.int .i64 a1_0, .int .i64 a1_1, .int .i64 a1_2, .slice none 0 0]) ?_ 3 _ rfl; (with_reducible repeat (first | refine blk_drewN ?_ _ | refine blk_drew ?_ | refine blk_alloc ?_ _)); refine blk_put (cs := #[.int .i64 a1_0, .int .i64 a1_1, .int .i64 0, .slice none 0 0]) ?_ 2 _ rfl; (with_reducible repeat (first | refine blk_drewN ?_ _ | refine blk_drew ?_ | refine blk_alloc ?_ _)); refine blk_put (cs := #[.int .i64 a1_0, .int .i64 0, .int .i64 0, .slice none 0 0]) ?_ 1 _ rfl; (with_reducible repeat (first | refine blk_drewN ?_ _ | refine blk_drew ?_ | refine blk_alloc ?_ _)); refine blk_put (cs := #[.int .i64 0, .int .i64 0, .int .i64 0, .slice none 0 0]) ?_ 0 _ rfl; (with_reducible repeat (first | refine blk_drewN ?_ _ | refine blk_drew ?_ | refine blk_alloc ?_ _)); exact BK100002.out) Try.underlying28 rfl (by kernel_rfl)) rfl ?_
          exact ⟨_, by first | rfl | (simp [errW_none, errW_some] <;> rfl) | (simp [*, errW_none, errW_some] <;> rfl), Kd.Q_of_R (by (with_reducible repeat (first | apply Kd.R_alloc | apply Kd.R_drewN | apply Kd.R_drew)); exact Kd.R_mono (Kd.R_far (p := ⟨gb100002, 3, none⟩) (Kd.R_far (p := ⟨gb100002, 2, none⟩) (Kd.R_far (p := ⟨gb100002, 1, none⟩) (Kd.R_far (p := ⟨gb100002, 0, none⟩) (Kd.R_types HO1_3.out BK100002.out (by decide)) (fun _ hk => hk.2) (.int .i64 a1_0)) (fun _ hk => hk.2) (.int .i64 a1_1)) (fun _ hk => hk.2) (.int .i64 a1_2)) (fun _ hk => hk.2) (.slice Ao67 l1_3.length co67)) (fun _ hk => hk.1)), by repeat (first | (with_reducible first | exact HI0.out | apply IsS100.alloc | apply IsS100.drewN | apply IsS100.drew | apply IsS100.set_1 | refine IsS100.far ?_ NB0_100001.out _ | refine IsS100.far ?_ NB0_100002.out _) | exact HI0.out), by repeat (first | (with_reducible first | exact HB.out | apply below_alloc | apply pw_below_drewN | apply below_drew1 | refine below_set ?_ (IsS100.ge HI0.out) | refine below_set ?_ GE100001.out | refine below_set ?_ GE100002.out) | exact HB.out), by repeat (first | (with_reducible first | exact HK.out | apply Kept.alloc | apply Kept.drewN | apply Kept.drew | refine Kept.setCell ?_ (.inl (.inr rfl)) _ | refine Kept.setCell ?_ (.inr GW100001.out) _ | refine Kept.setCell ?_ (.inr GW100002.out) _) | exact HK.out)⟩

end Go.Proofs.Ytbgohbinonkhfaa.Q

namespace Go.Proofs.Ytbgohbinonkhfaa.Q
open Go.RowKit Go.Proofs.YtbgohbinonkhfaaW.PrintWords Go.Proofs.YtbgohbinonkhfaaW.PrintLast Go.Proofs.YtbgohbinonkhfaaW.PrintMore
attribute [local go_sem] max2_int min2_int max_two min_two max_three min_three max_four min_four
set_option linter.unusedVariables false
set_option linter.unusedSimpArgs false
/-! ### spec_newImage: function 107 -/
def spec_newImage.f (a0 : Int) (a1 : Int) (a2 : Int) : Option (Int × Int × Int × List Int) := if 0 ≤ (wrap64 ((wrap64 (a0 * a1)) * a2)) then (if (wrap64 ((wrap64 (a0 * a1)) * a2) : Int).toNat ≤ 35184372088832 then (some (a0, a1, a2, (List.replicate (wrap64 ((wrap64 (a0 * a1)) * a2) : Int).toNat 0))) else (none)) else (none)
set_option maxHeartbeats 8000000 in
set_option maxRecDepth 100000 in
theorem spec_newImage.calls (a0 : Int) (a1 : Int) (a2 : Int) (r1 : Int) (r2 : Int) (r3 : Int) (r4 : List Int) (w : World) (h : spec_newImage.f a0 a1 a2 = some (r1, r2, r3, r4)) :
    Calls Try.prog 107 #[.int .i64 a0, .int .i64 a1, .int .i64 a2] w fun e w' => ∃ v3_ : Value, e = .returned (.agg #[.int .i64 r1, .int .i64 r2, .int .i64 r3, v3_]) ∧ Kd.R (Kd.int .i64) 3 w' w.heap.size (fun _ => True) v3_ r4 ∧ Below w.heap.size w w' := by
  have hu28 := Try.underlying28
  have HB := Aside0.mk (Below.refl w.heap.size w)
  have H : (if 0 ≤ (wrap64 ((wrap64 (a0 * a1)) * a2)) then (if (wrap64 ((wrap64 (a0 * a1)) * a2) : Int).toNat ≤ 35184372088832 then (some (a0, a1, a2, (List.replicate (wrap64 ((wrap64 (a0 * a1)) * a2) : Int).toNat 0))) else (none)) else (none)) = some (r1, r2, r3, r4) := h
  clear h
  obtain ⟨ji4, hji4⟩ : ∃ j_ : Int, (wrap64 ((wrap64 (a0 * a1)) * a2)) = j_ := ⟨_, rfl⟩
  replace H : (if 0 ≤ (ji4) then (if (ji4 : Int).toNat ≤ 35184372088832 then (some (a0, a1, a2, (List.replicate (ji4 : Int).toNat 0))) else (none)) else (none)) = some (r1, r2, r3, r4) := by first | (rw [hji4] at H; exact H) | (simp only [hji4] at H ⊢; exact H)
  have hji4w : (IntKind.i64.wrap ((wrap64 (a0 * a1)) * a2)) = ji4 := (i64_w _).trans hji4
  by_cases c5 : 0 ≤ (ji4)
  · rw [if_pos c5] at H
    have c5b0 := eq_true c5
    have c5b1 : decide (0 ≤ (ji4)) = true := decide_eq_true c5
    clear c5
    by_cases c6 : (ji4 : Int).toNat ≤ 35184372088832
    · rw [if_pos c6] at H
      have c6b0 := eq_true c6
      have c6b1 : decide ((ji4 : Int).toNat ≤ 35184372088832) = true := decide_eq_true c6
      clear c6
      obtain ⟨y108002, hy108002⟩ : ∃ y_ : List Int, y_ = (List.replicate (ji4 : Int).toNat 0) := ⟨_, rfl⟩
      replace H : (some (a0, a1, a2, y108002)) = some (r1, r2, r3, r4) := by first | (rw [hy108002]; with_reducible exact H) | (have H2_ := (Option.bind_some _ _).symm.trans H; rw [hy108002]; with_reducible exact H2_) | (have H2_ := (Option.bind_some _ _).symm.trans H; with_reducible exact H2_) | with_reducible exact H | (rw [hy108002]; exact H) | exact H
      have Ny108002 := Aside0.mk hy108002
      clear hy108002
      simp only [Option.some.injEq, Prod.mk.injEq] at H
      obtain ⟨rfl, rfl, rfl, rfl⟩ := H
      go_enter Try.func107, Try.ntmps107
      go_wp2_with (first | ((with_reducible refine gate_dst (N := 6) rfl ?_); refine box_event ?hg (N := 6) ?hd (cs := #[.int .i64 0, .int .i64 0, .int .i64 0, .slice none 0 0]) (t := 28) ?hr ?_; (case hd => rfl); (case hg => rfl); (case hr => first | (go_simp; done) | (go_simp; rfl)); intro gb108001 hg w7 hbox hb; have n0_ := Aside0.mk (below_step (by repeat (first | (with_reducible first | exact HB.out | apply below_alloc | apply pw_below_drewN | apply below_drew1) | exact HB.out)) hb); have n1_ := Aside0.mk (hbox); have n2_ := Aside0.mk ((by rw [hg]; exact (below_size (by repeat (first | (with_reducible first | exact HB.out | apply below_alloc | apply pw_below_drewN | apply below_drew1) | exact HB.out))) : w.heap.size ≤ gb108001)); have n3_ := Aside0.mk ((by rw [hg]; exact (below_size (by repeat (first | (with_reducible first | exact HB.out | apply below_alloc | apply pw_below_drewN | apply below_drew1) | exact HB.out))) : w.heap.size ≤ gb108001)); clear HB; have HB := n0_; have BK108001 := n1_; have GW108001 := n2_; have GE108001 := n3_; clear n0_ n1_ n2_ n3_; clear hb hbox hg) | ((with_reducible refine gate_dst (N := 15) rfl ?_); refine Kd.R_make (Kd.int .i64) _ 3 rfl (N := 15) rfl 22 _ _ rfl ji4 rfl rfl Try.underlying22 (.int .i64 0) 8 info3 rfl (by decide) (by omega) 0 (ok := fun _ => True) (okp := fun _ => True) rfl (fun _ hk => hk) trivial (of_decide_eq_true (by first | (with_reducible assumption) | assumption)) (Nat.le_trans (Nat.mul_le_mul_right _ (of_decide_eq_true (by first | (with_reducible assumption) | assumption) : ji4.toNat ≤ 35184372088832)) (by omega)) (Below.refl _ _) (Nat.le_refl _) ?_; intro v108003 w8 ho9 hb hg_ hnew_; clear hg_ hnew_; (first | rw [← Ny108002.out] at ho9 | (simp only [Int.reduceToNat] at ho9; rw [← Ny108002.out] at ho9)); have n0_ := Aside0.mk (Kd.R_lower ho9 (below_size (by repeat (first | (with_reducible first | exact HB.out | apply below_alloc | apply pw_below_drewN | apply below_drew1 | refine below_set ?_ GE108001.out) | exact HB.out)))); have n1_ := Aside0.mk (blk_below (g := gb108001) (o := .cells #[.int .i64 0, .int .i64 0, .int .i64 0, .slice none 0 0] 28 (0, 0)) (by (with_reducible repeat (first | refine blk_drewN ?_ _ | refine blk_drew ?_ | refine blk_alloc ?_ _)); exact BK108001.out) hb); have n2_ := Aside0.mk (below_step (by repeat (first | (with_reducible first | exact HB.out | apply below_alloc | apply pw_below_drewN | apply below_drew1 | refine below_set ?_ GE108001.out) | exact HB.out)) hb); clear BK108001; clear HB; have HO108004 := n0_; have BK108001 := n1_; have HB := n2_; clear n0_ n1_ n2_; clear hb ho9; obtain ⟨Ao10, co10, eo10⟩ := Kd.R_slice HO108004.out; subst eo10; have hcz11_0 : w8.cell? ⟨gb108001, 0, none⟩ = some (.int .i64 0) := (blk_cell BK108001.out 0).trans rfl; have hcz11_1 : w8.cell? ⟨gb108001, 1, none⟩ = some (.int .i64 0) := (blk_cell BK108001.out 1).trans rfl; have hcz11_2 : w8.cell? ⟨gb108001, 2, none⟩ = some (.int .i64 0) := (blk_cell BK108001.out 2).trans rfl; have hcz11_3 : w8.cell? ⟨gb108001, 3, none⟩ = some (.slice none 0 0) := (blk_cell BK108001.out 3).trans rfl; have hfz11_0 := blk_frozen BK108001.out 0; have hfz11_1 := blk_frozen BK108001.out 1; have hfz11_2 := blk_frozen BK108001.out 2; have hfz11_3 := blk_frozen BK108001.out 3))
      refine bodyPost_ret (results_cell_row rfl _ _ gb108001 28 #[.int .i64 a0, .int .i64 a1, .int .i64 a2, .slice Ao10 y108002.length co10] (0, 0) _ rfl (by (with_reducible repeat (first | refine blk_drewN ?_ _ | refine blk_drew ?_ | refine blk_alloc ?_ _)); refine blk_put (cs := #[.int .i64 a0, .int .i64 a1, .int .i64 a2, .slice none 0 0]) ?_ 3 _ rfl; (with_reducible repeat (first | refine blk_drewN ?_ _ | refine blk_drew ?_ | refine blk_alloc ?_ _)); refine blk_put (cs := #[.int .i64 a0, .int .i64 a1, .int .i64 0, .slice none 0 0]) ?_ 2 _ rfl; (with_reducible repeat (first | refine blk_drewN ?_ _ | refine blk_drew ?_ | refine blk_alloc ?_ _)); refine blk_put (cs := #[.int .i64 a0, .int .i64 0, .int .i64 0, .slice none 0 0]) ?_ 1 _ rfl; (with_reducible repeat (first | refine blk_drewN ?_ _ | refine blk_drew ?_ | refine blk_alloc ?_ _)); refine blk_put (cs := #[.int .i64 0, .int .i64 0, .int .i64 0, .slice none 0 0]) ?_ 0 _ rfl; (with_reducible repeat (first | refine blk_drewN ?_ _ | refine blk_drew ?_ | refine blk_alloc ?_ _)); exact BK108001.out) Try.underlying28 rfl (by kernel_rfl)) rfl ?_
      exact ⟨_, by first | rfl | (simp [errW_none, errW_some] <;> rfl) | (simp only [← hji4]; first | rfl | (simp [errW_none, errW_some] <;> rfl)) | (simp [*, errW_none, errW_some] <;> rfl), by (with_reducible repeat (first | apply Kd.R_alloc | apply Kd.R_drewN | apply Kd.R_drew)); exact Kd.R_mono (Kd.R_far (p := ⟨gb108001, 3, none⟩) (Kd.R_far (p := ⟨gb108001, 2, none⟩) (Kd.R_far (p := ⟨gb108001, 1, none⟩) (Kd.R_far (p := ⟨gb108001, 0, none⟩) (Kd.R_types HO108004.out BK108001.out (by decide)) (fun _ hk => hk.2) (.int .i64 a0)) (fun _ hk => hk.2) (.int .i64 a1)) (fun _ hk => hk.2) (.int .i64 a2)) (fun _ hk => hk.2) (.slice Ao10 y108002.length co10)) (fun _ hk => trivial), by repeat (first | (with_reducible first | exact HB.out | apply below_alloc | apply pw_below_drewN | apply below_drew1 | refine below_set ?_ GE108001.out) | exact HB.out)⟩
    · rw [if_neg c6] at H
      exact absurd H (by simp)
  · rw [if_neg c5] at H
    exact absurd H (by simp)

end Go.Proofs.Ytbgohbinonkhfaa.Q
