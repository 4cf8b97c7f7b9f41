/- A part of the proof that the statement FnExactPartsOfSaid holds, under no condition of its own: The program's PartsOf and the reference's return the same, and what is returned is held by nobody else: over lists of numbers alone. -/
import Derived.Test.YtfgeickfheogoaaCFnExactPartsOf2
import Derived.OrdersHeld
import Derived.Deep.RegionHeld
import Derived.RegionTactic
import Derived.Test.YtfgeickfheogoaaCFnExactPartsOf1
import Derived.Deep.Slices
import Derived.Deep.Fields
import Derived.ChangeSame
import Derived.ProofKit
import Derived.OpenShut
import Derived.ShutString
import Derived.ChangeOld
import Derived.SizedLaws
import GoSem.Claim
import Derived.Test.YtfgeickfheogoaaRows
import Derived.JoinedOf
import Derived.KernelRfl
import Derived.WalkKit
import Derived.Below
import Derived.Carry
/- (impl.grid).part: the pixels of a grid that are connected with one of its pixels. -/
namespace Go.Proofs.Ytfgeickfheogoaa.Q
open Go.RowKit Go.Proofs.YtfgeickfheogoaaW.PrintWords Go.Proofs.YtfgeickfheogoaaW.PrintLast Go.Proofs.YtfgeickfheogoaaW.PrintMore
attribute [local go_sem] max2_int min2_int max_two min_two max_three min_three max_four min_four
set_option linter.unusedVariables false
set_option linter.unusedSimpArgs false

def posI (q : Int × Int) : Nat := q.2.toNat * 16 + q.1.toNat
def kQ : Kd (Int × Int) := Kd.pair (Kd.int .i64) (Kd.int .i64)
def lenOf : Value → Nat
  | .slice _ n _ => n
  | _ => 0
def outOf (W : World) (B : Nat) (p : Nat) : Bool := match W.cell? ⟨B, p, none⟩ with
  | some (.bool b) => b
  | _ => false
theorem unseen_congr {o o' : Nat → Bool} (h : ∀ p, p < 256 → o p = o' p) : unseen o = unseen o' := by
  unfold unseen
  exact List.countP_congr (fun p hp => by rw [h p (by simpa using hp)])
theorem unseen_out {W : World} {B : Nat} {o : Nat → Bool} (h : GridAt W B o) : unseen (outOf W B) = unseen o := unseen_congr (fun p hp => by unfold outOf; rw [h.cell p hp])
theorem infoQ : (Try.prog.info? 89).map (fun i => (i.zero, i.size, i.bytes)) = some (some (.agg #[.int .i64 0, .int .i64 0]), 2, 16) := by kernel_rfl
theorem kQ_M (W : World) (base : Nat) (ok : Nat → Prop) (a b : Int) : kQ.M W base ok (a, b) [.int .i64 a, .int .i64 b] := ⟨[.int .i64 a], [.int .i64 b], rfl, rfl, rfl⟩
theorem yieldsP_grid {ops : Array Oper} {S : World → Prop} {op : Oper} {a : Act} (hw : Region.wanted op (yielded ops a.tmps) = true) (x : Operand) (ho : op.op = .load 66 x)
    (B : Nat) (hx : a.eval x = .pointer (some ⟨B, 0, none⟩)) (g : Nat → Bool) (hS : ∀ w, S w → GridAt w B g) : YieldsIf Try.prog ops S op (.agg (gc g)) a :=
  .inl ⟨hw, fun w hw' => by
    unfold execOp
    simp only [ho, hx, Instr.loadAt, Instr.sureAddr, Sem.run_bind, Sem.run_pure, Result.andThen_ok, run_loadVar_row w B 66 66 (gc g) (0, 0) (.array 16 64) (hS w hw') underlying66 rfl (by rw [gc_size]; exact info66)]⟩
theorem yieldsP_int {ops : Array Oper} {S : World → Prop} {op : Oper} {a : Act} (hw : Region.wanted op (yielded ops a.tmps) = true) (x : Operand) (ho : op.op = .load 3 x)
    (ad : Addr) (hx : a.eval x = .pointer (some ad)) (v : Int) (hS : ∀ w, S w → w.cell? ad = some (.int .i64 v)) : YieldsIf Try.prog ops S op (.int .i64 v) a :=
  .inl ⟨hw, fun w hw' => by
    have h := hS w hw'
    unfold execOp
    simp only [ho, hx]
    go_simp⟩
theorem yieldsP_bool {ops : Array Oper} {S : World → Prop} {op : Oper} {a : Act} (hw : Region.wanted op (yielded ops a.tmps) = true) (x : Operand) (ho : op.op = .load 4 x)
    (ad : Addr) (hx : a.eval x = .pointer (some ad)) (v : Bool) (hS : ∀ w, S w → w.cell? ad = some (.bool v)) : YieldsIf Try.prog ops S op (.bool v) a :=
  .inl ⟨hw, fun w hw' => by
    have h := hS w hw'
    unfold execOp
    simp only [ho, hx]
    go_simp⟩
theorem setRow_keepP {W : World} {k g : Nat} {o : Obj} (h : W.heap[k]? = some o) (cs : Array Value) (hk : k ≠ g) : (W.setRow g cs).heap[k]? = some o := (setRow_other W g k cs hk).trans h
def nbList (F : Nat → Int × Int) : List (Int × Int) := [F 0, F 1, F 2, F 3]
theorem nbList_drop (F : Nat → Int × Int) (i : Nat) (h : i < 4) : (nbList F).drop i = ((F i).1, (F i).2) :: (nbList F).drop (i + 1) := by
  obtain rfl | rfl | rfl | rfl : i = 0 ∨ i = 1 ∨ i = 2 ∨ i = 3 := by omega
  all_goals rfl
theorem nb_mem (x y : Int) (p r : Nat) (hx : x = ((p % 16 : Nat) : Int)) (hy : y = ((p / 16 : Nat) : Int)) (hp : p < 256) (hr : r < 256) (ha : Adj p r) : (((r % 16 : Nat) : Int), ((r / 16 : Nat) : Int)) ∈ nbList (nbI x y) := by
  have := adj_nb p r hp hr ha
  subst hx hy
  unfold nbList nbI
  simp only [List.mem_cons, Prod.mk.injEq]
  rcases this with h | h | h | h
  · exact .inl h
  · exact .inr (.inl h)
  · exact .inr (.inr (.inl h))
  · exact .inr (.inr (.inr (.inl h)))
theorem nb_near (x y : Int) (p i : Nat) (hx : x = ((p % 16 : Nat) : Int)) (hy : y = ((p / 16 : Nat) : Int)) (hp : p < 256) (hi : i < 4) (h0 : 0 ≤ (nbI x y i).1) (h1 : (nbI x y i).1 < 16) (h2 : 0 ≤ (nbI x y i).2) (h3 : (nbI x y i).2 < 16) :
    Adj p ((nbI x y i).2.toNat * 16 + (nbI x y i).1.toNat) := by
  subst hx hy
  refine nb_adj p hp _ _ h0 h1 h2 h3 ?_
  obtain rfl | rfl | rfl | rfl : i = 0 ∨ i = 1 ∨ i = 2 ∨ i = 3 := by omega
  · exact .inl ⟨rfl, rfl⟩
  · exact .inr (.inl ⟨rfl, rfl⟩)
  · exact .inr (.inr (.inl ⟨rfl, rfl⟩))
  · exact .inr (.inr (.inr ⟨rfl, rfl⟩))

set_option maxHeartbeats 1600000 in
set_option maxRecDepth 100000 in
theorem part_calls (g : Nat → Bool) (x y : Nat) (hx : x < 16) (hy : y < 16) (w : World) :
    Calls Try.prog 90 #[.agg (gc g), .int .i64 (x : Int), .int .i64 (y : Int)] w fun e w' => e = .returned (.agg (gc (comp g (y * 16 + x)))) ∧ Below w.heap.size w w' := by
  have z0 := zero66
  have HSZ := Aside0.mk (fun g g' : Nat → Bool => show (gc g).size = (gc g').size by rw [gc_size, gc_size])
  have HO := Aside0.mk (fun g : Nat → Bool => gc_one g)
  have HI := Aside0.mk (fun g : Nat → Bool => show (Try.prog.info? 66).map (·.size) = some (gc g).size by rw [gc_size]; exact info66)
  go_enter Try.func90, Try.ntmps90
  have hz2 : (((w.alloc (.cells (gc g) 66)).alloc (.cells (gc fun _ => false) 66)).alloc (.cells (gc fun _ => false) 66)).heap[w.heap.size + 2]? = some (.cells (gc fun _ => false) 66 (0, 0)) := by
    have h := GridAt.new ((w.alloc (.cells (gc g) 66)).alloc (.cells (gc fun _ => false) 66)) (fun _ => false)
    simp only [World.size_alloc] at h
    exact h
  have HZ1 := Aside0.mk (GridAt.alloc (GridAt.new (w.alloc (.cells (gc g) 66)) (fun _ => false)) (.cells (gc fun _ => false) 66))
  simp only [World.size_alloc] at HZ1
  have HZG := Aside0.mk (GridAt.alloc (GridAt.alloc (GridAt.new w g) (.cells (gc fun _ => false) 66)) (.cells (gc fun _ => false) 66))
  have HBa := Aside0.mk (below_alloc (below_alloc (below_alloc (Below.refl w.heap.size w) (.cells (gc g) 66)) (.cells (gc fun _ => false) 66)) (.cells (gc fun _ => false) 66))
  have HS := Aside0.mk (GridAt.setRow (g := fun _ => false) hz2 (fun _ => false))
  have hcc := HS.out.cell (y * 16 + x) (by omega)
  have hcf := HS.out.free (y * 16 + x)
  have HS2 := Aside0.mk (HS.out.set_ (y * 16 + x) true)
  have HS1 := Aside0.mk (blk_far (setRow_keepP HZ1.out (gc fun _ => false) (show w.heap.size + 1 ≠ w.heap.size + 2 by omega)) (show w.heap.size + 1 ≠ (⟨w.heap.size + 2, y * 16 + x, none⟩ : Addr).block by simp) (.bool true))
  have HSG := Aside0.mk (blk_far (setRow_keepP HZG.out (gc fun _ => false) (show w.heap.size ≠ w.heap.size + 2 by omega)) (show w.heap.size ≠ (⟨w.heap.size + 2, y * 16 + x, none⟩ : Addr).block by simp) (.bool true))
  have HBs := Aside0.mk (below_set (g := w.heap.size + 2) (j := y * 16 + x) (v := .bool true) (below_setRow (g := w.heap.size + 2) HBa.out (by omega) (gc fun _ => false)) (by omega))
  have HZ2 := Aside0.mk hz2
  clear hz2 HS HZ1 HZG HBa
  go_wp2_with (first
    | ((with_reducible refine wpList_store_row rfl 66 (.tmp 7) (.tmp 12) rfl (w.heap.size + 2) (gc fun _ => false) ?hx ?hy 66 (gc fun _ => false) HZ2.out (HI.out _) (HSZ.out _ _) (HO.out _) ?_); (case hx => rfl); (case hy => rfl))
    | ((with_reducible refine gate_dst (N := 20) rfl ?_); refine Kd.R_lit kQ w.heap.size 89 ?hg (N := 20) ?hd (xs := [((x : Int), (y : Int))]) (inner := [.int .i64 (x : Int), .int .i64 (y : Int)]) (ok := fun _ => True) (okp := fun _ => True) ?hr ?hp (fun _ hk => hk) trivial HBs.out HBs.out.size (by simp) ?_; (case hd => rfl); (case hg => rfl); (case hr => first | (go_simp; done) | (go_simp; rfl)); (case hp => exact Reps.snoc (Reps.none _ _) (kQ_M _ _ _ _ _) rfl); intro v20 W0 ho hb hg_ hnew_; have HQ0 := Aside0.mk (Kd.Q_of_R ho); have HB0 := Aside0.mk hb; have HG0 : Aside0 (GridAt W0 w.heap.size g) := Aside0.mk (blk_grown HSG.out hg_ (by simp)); have HZ0 : Aside0 (GridAt W0 (w.heap.size + 1) (fun _ => false)) := Aside0.mk (blk_grown HS1.out hg_ (by simp)); have HX0 := Aside0.mk (blk_grown HS2.out hg_ (by simp)); clear ho hb hg_ hnew_))
  have hinit : (fun p => if p = y * 16 + x then true else false) = fun q => decide (q = y * 16 + x) := by
    funext p
    by_cases e : p = y * 16 + x
    · rw [if_pos e, decide_eq_true e]
    · rw [if_neg e, decide_eq_false e]
  have HM0 := Aside0.mk (mid_init g (y * 16 + x) (by omega))
  rw [← hinit] at HM0
  have HU0 : unseen (fun p => if p = y * 16 + x then true else false) + 1 = 256 := by
    have h := unseen_set (fun _ => false) (y * 16 + x) (by omega) rfl
    have h2 : unseen (fun _ => false) = 256 := by simp [unseen]
    rw [h2] at h
    exact h
  clear hinit
  go_loopw [8] (fun v8 W => ∃ (out : Nat → Bool) (qs : List (Int × Int)) (p0 : Nat), Aside0 (kQ.Q 89 W w.heap.size (fun _ => True) v8 qs ∧ GridAt W w.heap.size g ∧ GridAt W (w.heap.size + 1) (fun _ => false) ∧ GridAt W (w.heap.size + 2) out ∧ Below w.heap.size w W) ∧ Aside0 (Mid g (y * 16 + x) out (qs.map posI) p0 [] ∧ (∀ q ∈ qs, 0 ≤ q.1 ∧ q.1 < 16 ∧ 0 ≤ q.2 ∧ q.2 < 16) ∧ qs.length + unseen out ≤ 256)) (fun v8 W => 2 * unseen (outOf W (w.heap.size + 2)) + lenOf v8)
  case atStart =>
    refine ⟨_, _, y * 16 + x, ⟨HQ0.out, HG0.out, HZ0.out, HX0.out, HB0.out⟩, ⟨HM0.out, ?_, ?_⟩⟩
    · intro q hq
      rw [List.mem_singleton] at hq
      subst hq
      simp only
      omega
    · simp only [List.length_singleton]; omega
  case round =>
    obtain ⟨out, qs, p0, HW, HM⟩ := hrel
    clear HM0 HU0 HQ0 HB0 HG0 HZ0 HX0 HBs HSG HS1 HS2 HZ2 hcc hcf
    obtain ⟨wo, rfl⟩ : ∃ wo : World, wo = wr := ⟨_, rfl⟩
    have HMS := Aside0.mk (unseen_out HW.out.2.2.2.1)
    obtain ⟨A, c, rfl, hcl, hC⟩ := Kd.Q_reads HW.out.1
    cases qs with
    | nil =>
      have hgo : wo.heap[w.heap.size + 2]? = some (.cells (gc out) 66 (0, 0)) := HW.out.2.2.2.1
      have hgz : wo.heap[w.heap.size + 1]? = some (.cells (gc fun _ => false) 66 (0, 0)) := HW.out.2.2.1
      have hend := mid_end (g := g) (s := y * 16 + x) (by omega) HM.out.1
      have HE := Aside0.mk (gc_congr hend)
      clear hend hC hcl
      go_wp2_with (first
        | ((with_reducible refine gate_dst (N := 64) rfl ?_); refine wpList_load_row rfl 66 (.tmp 7) rfl (w.heap.size + 2) rfl 66 (gc out) (0, 0) (.array 16 64) hgo underlying66 rfl (HI.out _) ?_)
        | ((with_reducible refine wpList_store_row rfl 66 (.tmp 6) (.tmp 64) rfl (w.heap.size + 1) (gc out) ?hx ?hy 66 (gc fun _ => false) hgz (HI.out _) (HSZ.out _ _) (HO.out _) ?_); (case hx => rfl); (case hy => rfl)))
      refine bodyPost_ret (results_cell_row rfl _ _ (w.heap.size + 1) 66 (gc out) (0, 0) (.array 16 64) rfl (GridAt.setRow (g := fun _ => false) hgz out) underlying66 rfl (HI.out _)) rfl ?_
      exact ⟨by rw [HE.out], below_setRow HW.out.2.2.2.2 (Nat.le_succ _) _⟩
    | cons q0 rest =>
      obtain ⟨x0, y0⟩ := q0
      have hr := HM.out.2.1 (x0, y0) (by simp)
      simp only at hr
      obtain ⟨x0, rfl⟩ := Int.eq_ofNat_of_zero_le hr.1
      obtain ⟨y0, rfl⟩ := Int.eq_ofNat_of_zero_le hr.2.2.1
      have hx0 : x0 < 16 := by omega
      have hy0 : y0 < 16 := by omega
      clear hr
      obtain ⟨ad, hA, hrd⟩ := hC.2.2 (by simp)
      subst hA
      obtain ⟨cs, hcs, ⟨c0, c1, hcc, hk0, hk1⟩, hat⟩ := hrd 0 ((x0 : Int), (y0 : Int)) rfl
      have hk0' : c0 = [.int .i64 (x0 : Int)] := hk0
      have hk1' : c1 = [.int .i64 (y0 : Int)] := hk1
      subst hk0' hk1' hcc
      have ha0 := hat 0 _ rfl
      have ha1 := hat 1 _ rfl
      clear hat hrd hC hk0 hk1 hcs
      have hb0 : wo.cell? ad = some (.int .i64 (x0 : Int)) := by
        have e : ad.add (0 * kQ.sz + 0) = ad := by show ad.add 0 = ad; simp [Addr.add]
        rw [e] at ha0; exact ha0
      have hb1 : wo.cell? ⟨ad.block, ad.off + 1, none⟩ = some (.int .i64 (y0 : Int)) := by
        have e : ad.add (0 * kQ.sz + 1) = ⟨ad.block, ad.off + 1, none⟩ := by
          show ad.add 1 = _
          have h := add_field ad 0 1 (by omega)
          rw [Nat.zero_add] at h
          rw [h]; simp [Addr.add]
        rw [e] at ha1; exact ha1
      have hb2 : wo.cell? (ad.add 1) = some (.int .i64 (y0 : Int)) := ha1
      clear ha0 ha1
      obtain ⟨i0, hi0, _, hsz0, _⟩ := info_parts infoQ
      have hcut := cut_from (P := Try.prog) 94 89 .i64 Try.underlying94 hi0 2 hsz0 (some ad) (((x0 : Int), (y0 : Int)) :: rest).length c 1 (by omega) (by simp; omega)
      have hdrop := Kd.Q_drop (k := 1) HW.out.1 (by simp)
      obtain ⟨A1, hA1⟩ : ∃ A1, A1 = (if c = 1 then (some ad : Option Addr) else (some ad : Option Addr).map (·.add (1 * 2))) := ⟨_, rfl⟩
      obtain ⟨c1, hc1⟩ : ∃ c1, c1 = c - 1 := ⟨_, rfl⟩
      rw [show (1 : Int).toNat = 1 from rfl, ← hA1, ← hc1] at hcut
      have hdrop' : kQ.Q 89 wo w.heap.size (fun _ => True) (.slice A1 ((((x0 : Int), (y0 : Int)) :: rest).length - 1) c1) rest := by
        rw [hA1, hc1]; exact hdrop
      have HQ1 := Aside0.mk hdrop'
      clear hdrop hdrop' hA1 hc1 hi0 hsz0
      have hl1 : (((x0 : Int), (y0 : Int)) :: rest).length - 1 = rest.length := by simp
      rw [hl1] at hcut HQ1
      have HN := Aside0.mk (neighbours_calls (x0 : Int) (y0 : Int) (by omega))
      obtain ⟨n, hn⟩ : ∃ n, n = (((x0 : Int), (y0 : Int)) :: rest).length := ⟨_, rfl⟩
      rw [← hn] at hcut hcl ⊢
      have hnr : n = rest.length + 1 := by rw [hn]; simp
      have hnp : decide ((0 : Int) < (n : Int)) = true := by simp; omega
      have hn0 : (0 : Int) < (n : Int) := by omega
      clear hl1 hn
      have HBN := Aside0.mk (below_alloc (Below.refl wo.heap.size wo) (.cells #[.int .i64 (x0 : Int), .int .i64 (y0 : Int)] 89))
      have HCUT := Aside0.mk hcut
      clear hcut
      go_wp2_with (first
        | ((with_reducible refine gate_dst (N := 28) rfl ?_); refine Kd.event_run (v := .slice A1 rest.length c1) (w1 := wo.alloc (.cells #[.int .i64 (x0 : Int), .int .i64 (y0 : Int)] 89)) rfl ?hr ?_; (case hr => (have hc_ := HCUT.out (wo.alloc (.cells #[.int .i64 (x0 : Int), .int .i64 (y0 : Int)] 89)); simp [execOp, Act.eval, Instr.sliceAt, Result.andThen, hc_])))
        | (go_at_call 84; refine (HN.out _).mono ?_; rintro e w1 ⟨rfl, hb1⟩; have HB1 := Aside0.mk (below_then HBN.out HBN.out.size hb1); clear hb1))
      have HW1 := Aside0.mk (show kQ.Q 89 w1 w.heap.size (fun _ => True) (.slice A1 rest.length c1) rest ∧ GridAt w1 w.heap.size g ∧ GridAt w1 (w.heap.size + 1) (fun _ => false) ∧ GridAt w1 (w.heap.size + 2) out ∧ Below w.heap.size w w1 from
        ⟨Kd.Q_below HQ1.out HB1.out, HW.out.2.1.below HB1.out, HW.out.2.2.1.below HB1.out, HW.out.2.2.2.1.below HB1.out, below_then HW.out.2.2.2.2 HW.out.2.2.2.2.size HB1.out⟩)
      have hpe : posI ((x0 : Int), (y0 : Int)) = y0 * 16 + x0 := by simp [posI]
      have hpx : (x0 : Int) = (((y0 * 16 + x0) % 16 : Nat) : Int) := by omega
      have hpy : (y0 : Int) = (((y0 * 16 + x0) / 16 : Nat) : Int) := by omega
      have HM1 := Aside0.mk (show Mid g (y * 16 + x) out (rest.map posI) (y0 * 16 + x0) (nbList (nbI (x0 : Int) (y0 : Int))) from
        mid_pop HM.out.1 (p := y0 * 16 + x0) (by rw [List.map_cons, hpe]; simp) (fun q hq => by rw [List.map_cons, hpe, List.mem_cons] at hq; exact hq) (fun q hq => by rw [List.map_cons]; exact List.mem_cons_of_mem _ hq)
          (fun r hr ha => nb_mem _ _ _ r hpx hpy (by omega) hr ha))
      have HNR := Aside0.mk (fun i (hi : i < 4) => nb_near (x0 : Int) (y0 : Int) (y0 * 16 + x0) i hpx hpy (by omega) hi)
      have HR1 := Aside0.mk (show (∀ q ∈ rest, 0 ≤ q.1 ∧ q.1 < 16 ∧ 0 ≤ q.2 ∧ q.2 < 16) ∧ rest.length + unseen out ≤ 256 from ⟨fun q hq => HM.out.2.1 q (List.mem_cons_of_mem _ hq), by have := HM.out.2.2; rw [List.length_cons] at this; omega⟩)
      clear hpe hpx hpy hb0 hb1 hb2 HQ1 HBN HCUT HN
      obtain ⟨U, hU⟩ : ∃ U, U = 2 * unseen out + n := ⟨_, rfl⟩
      have HUB := Aside0.mk (show 2 * unseen out + rest.length < U by omega)
      have HUE := Aside0.mk hU
      clear hU
      unfold nbv
      go_loopw [8, 34] (fun v8 v34 W => ∃ (out' : Nat → Bool) (qs' : List (Int × Int)) (i : Nat), v34 = .int .i64 i ∧ i ≤ 4 ∧ Aside0 (kQ.Q 89 W w.heap.size (fun _ => True) v8 qs' ∧ GridAt W w.heap.size g ∧ GridAt W (w.heap.size + 1) (fun _ => false) ∧ GridAt W (w.heap.size + 2) out' ∧ Below w.heap.size w W) ∧
        Aside0 (Mid g (y * 16 + x) out' (qs'.map posI) (y0 * 16 + x0) ((nbList (nbI (x0 : Int) (y0 : Int))).drop i) ∧ (∀ q ∈ qs', 0 ≤ q.1 ∧ q.1 < 16 ∧ 0 ≤ q.2 ∧ q.2 < 16) ∧ qs'.length + unseen out' ≤ 256 ∧ 2 * unseen out' + qs'.length < U)) (fun _ v34 _ => 4 - (intOf v34).toNat)
      case atStart => exact ⟨out, rest, 0, rfl, by omega, HW1, ⟨HM1.out, HR1.out.1, HR1.out.2, HUB.out⟩⟩
      case round =>
        obtain ⟨out', qs', i, rfl, hi, HV, HT⟩ := hrel
        clear HW1 HM1 HR1 HUB HB1
        obtain ⟨wi, rfl⟩ : ∃ wi : World, wi = wr := ⟨_, rfl⟩
        by_cases h4 : i < 4
        · have hd : decide ((i : Int) < 4) = true := by simp; omega
          have HNE := Aside0.mk (HNR.out i h4)
          have HDR := Aside0.mk (nbList_drop (nbI (x0 : Int) (y0 : Int)) i h4)
          obtain ⟨nx, hnx⟩ : ∃ z, z = (nbI (x0 : Int) (y0 : Int) i).1 := ⟨_, rfl⟩
          obtain ⟨ny, hny⟩ : ∃ z, z = (nbI (x0 : Int) (y0 : Int) i).2 := ⟨_, rfl⟩
          have HRUN := Aside0.mk hnx
          have HRUN2 := Aside0.mk hny
          rw [← hnx, ← hny] at HDR HNE
          clear hnx hny
          have HM2 := Aside0.mk (show Mid g (y * 16 + x) out' (qs'.map posI) (y0 * 16 + x0) ((nx, ny) :: (nbList (nbI (x0 : Int) (y0 : Int))).drop (i + 1)) from by have h := HT.out.1; rw [HDR.out] at h; exact h)
          have HBL := Aside0.mk (blk_new wi (.cells #[.int .i64 nx, .int .i64 ny] 89))
          have HGG := Aside0.mk (GridAt.alloc HV.out.2.1 (.cells #[.int .i64 nx, .int .i64 ny] 89))
          have HGO := Aside0.mk (GridAt.alloc HV.out.2.2.2.1 (.cells #[.int .i64 nx, .int .i64 ny] 89))
          cases hv : hasP g nx ny with
          | false =>
            have HSK := Aside0.mk (mid_skip HM2.out (.inl hv))
            go_wp2_with (first
              | ((with_reducible refine gate_dst (N := 36) rfl ?_); refine Kd.event_run (v := .agg #[.int .i64 nx, .int .i64 ny]) (w1 := wi) rfl ?hr ?_; (case hr => (rw [HRUN.out, HRUN2.out]; (obtain e | e | e | e : i = 0 ∨ i = 1 ∨ i = 2 ∨ i = 3 := by omega); all_goals (subst e; kernel_rfl)))))
            refine wp_region_held_drew (S := fun W => Aside0 (Below (wi.alloc (.cells #[.int .i64 nx, .int .i64 ny] 89)).heap.size (wi.alloc (.cells #[.int .i64 nx, .int .i64 ny] 89)) W)) (by kernel_rfl) ⟨below_drew (Below.refl _ _)⟩ (fun hH => ?_)
            obtain ⟨W3, hW3⟩ : ∃ W, W = (wi.alloc (.cells #[.int .i64 nx, .int .i64 ny] 89)).drew := ⟨_, rfl⟩
            rw [← hW3] at hH ⊢
            clear hW3
            refine wpAnyH_take (i := 0) rfl (by kernel_rfl) (by kernel_rfl) (by kernel_rfl) (fun _ _ _ h => h) (yieldsP_grid (by kernel_rfl) _ rfl w.heap.size rfl g (fun W hW => GridAt.below HGG.out hW.out)) hH ?_
            simp only [Act.put, List.setIfInBounds_toArray, List.set_cons_zero, List.set_cons_succ, List.getElem_toArray, List.getElem_cons_zero, List.getElem_cons_succ]
            refine wpAnyH_take (i := 1) (v := .pointer (some ⟨wi.heap.size, 0, none⟩)) rfl (by kernel_rfl) (by kernel_rfl) (by kernel_rfl) (fun _ _ _ h => h) (.inl ⟨by kernel_rfl, fun W hW => by first | (go_simp; done) | (go_simp; intro h_; omega)⟩) hH ?_
            simp only [Act.put, List.setIfInBounds_toArray, List.set_cons_zero, List.set_cons_succ, List.getElem_toArray, List.getElem_cons_zero, List.getElem_cons_succ]
            refine wpAnyH_take (i := 2) rfl (by kernel_rfl) (by kernel_rfl) (by kernel_rfl) (fun _ _ _ h => h) (yieldsP_int (by kernel_rfl) _ rfl ⟨wi.heap.size, 0, none⟩ rfl nx (fun W hW => (blk_cell (blk_below HBL.out hW.out) 0).trans rfl)) hH ?_
            simp only [Act.put, List.setIfInBounds_toArray, List.set_cons_zero, List.set_cons_succ, List.getElem_toArray, List.getElem_cons_zero, List.getElem_cons_succ]
            refine wpAnyH_take (i := 3) (v := .pointer (some ⟨wi.heap.size, 1, none⟩)) rfl (by kernel_rfl) (by kernel_rfl) (by kernel_rfl) (fun _ _ _ h => h) (.inl ⟨by kernel_rfl, fun W hW => by first | (go_simp; done) | (go_simp; intro h_; omega)⟩) hH ?_
            simp only [Act.put, List.setIfInBounds_toArray, List.set_cons_zero, List.set_cons_succ, List.getElem_toArray, List.getElem_cons_zero, List.getElem_cons_succ]
            refine wpAnyH_take (i := 4) rfl (by kernel_rfl) (by kernel_rfl) (by kernel_rfl) (fun _ _ _ h => h) (yieldsP_int (by kernel_rfl) _ rfl ⟨wi.heap.size, 1, none⟩ rfl ny (fun W hW => (blk_cell (blk_below HBL.out hW.out) 1).trans rfl)) hH ?_
            simp only [Act.put, List.setIfInBounds_toArray, List.set_cons_zero, List.set_cons_succ, List.getElem_toArray, List.getElem_cons_zero, List.getElem_cons_succ]
            refine wpAnyH_ready (rs := [5]) (by kernel_rfl) (by simp) ?_
            refine AllReadyH.cons (i := 5) rfl ?_ AllReadyH.nil
            intro K hK
            rw [if_pos (by rfl)]
            go_simp
            go_wp2_with (first | (go_at_call 60; refine (has_calls _ _ _ _).mono ?_; rintro e W4 ⟨rfl, hb⟩))
            refine hK.out _ _ ⟨below_then hH.out hH.out.size hb⟩ (fun hH1 => ?_)
            clear hK K hb hH
            have hH := hH1
            clear hH1
            try rw [hv]
            try simp only [Act.put, List.setIfInBounds_toArray, List.set_cons_zero, List.set_cons_succ, List.getElem_toArray, List.getElem_cons_zero, List.getElem_cons_succ]
            refine wpAnyH_take (i := 6) (v := .bool false) rfl (by kernel_rfl) (by kernel_rfl) (by kernel_rfl) (fun _ _ _ h => h) (.inl ⟨by kernel_rfl, fun W hW => by first | (go_simp; done) | (go_simp; intro h_; omega)⟩) hH ?_
            simp only [Act.put, List.setIfInBounds_toArray, List.set_cons_zero, List.set_cons_succ, List.getElem_toArray, List.getElem_cons_zero, List.getElem_cons_succ]
            refine wpAnyH_take (i := 7) (v := undef) rfl (by kernel_rfl) (by kernel_rfl) (by kernel_rfl) (fun _ _ _ h => h) (.inr ⟨by kernel_rfl, rfl⟩) hH ?_
            simp only [Act.put, List.setIfInBounds_toArray, List.set_cons_zero, List.set_cons_succ, List.getElem_toArray, List.getElem_cons_zero, List.getElem_cons_succ]
            refine wpAnyH_take (i := 8) (v := undef) rfl (by kernel_rfl) (by kernel_rfl) (by kernel_rfl) (fun _ _ _ h => h) (.inr ⟨by kernel_rfl, rfl⟩) hH ?_
            simp only [Act.put, List.setIfInBounds_toArray, List.set_cons_zero, List.set_cons_succ, List.getElem_toArray, List.getElem_cons_zero, List.getElem_cons_succ]
            refine wpAnyH_take (i := 9) (v := undef) rfl (by kernel_rfl) (by kernel_rfl) (by kernel_rfl) (fun _ _ _ h => h) (.inr ⟨by kernel_rfl, rfl⟩) hH ?_
            simp only [Act.put, List.setIfInBounds_toArray, List.set_cons_zero, List.set_cons_succ, List.getElem_toArray, List.getElem_cons_zero, List.getElem_cons_succ]
            refine wpAnyH_take (i := 10) (v := undef) rfl (by kernel_rfl) (by kernel_rfl) (by kernel_rfl) (fun _ _ _ h => h) (.inr ⟨by kernel_rfl, rfl⟩) hH ?_
            simp only [Act.put, List.setIfInBounds_toArray, List.set_cons_zero, List.set_cons_succ, List.getElem_toArray, List.getElem_cons_zero, List.getElem_cons_succ]
            refine wpAnyH_take (i := 11) (v := undef) rfl (by kernel_rfl) (by kernel_rfl) (by kernel_rfl) (fun _ _ _ h => h) (.inr ⟨by kernel_rfl, rfl⟩) hH ?_
            simp only [Act.put, List.setIfInBounds_toArray, List.set_cons_zero, List.set_cons_succ, List.getElem_toArray, List.getElem_cons_zero, List.getElem_cons_succ]
            refine wpAnyH_take (i := 12) (v := undef) rfl (by kernel_rfl) (by kernel_rfl) (by kernel_rfl) (fun _ _ _ h => h) (.inr ⟨by kernel_rfl, rfl⟩) hH ?_
            simp only [Act.put, List.setIfInBounds_toArray, List.set_cons_zero, List.set_cons_succ, List.getElem_toArray, List.getElem_cons_zero, List.getElem_cons_succ]
            refine wpAnyH_take (i := 13) (v := undef) rfl (by kernel_rfl) (by kernel_rfl) (by kernel_rfl) (fun _ _ _ h => h) (.inr ⟨by kernel_rfl, rfl⟩) hH ?_
            simp only [Act.put, List.setIfInBounds_toArray, List.set_cons_zero, List.set_cons_succ, List.getElem_toArray, List.getElem_cons_zero, List.getElem_cons_succ]
            refine wpAnyH_take (i := 14) (v := undef) rfl (by kernel_rfl) (by kernel_rfl) (by kernel_rfl) (fun _ _ _ h => h) (.inr ⟨by kernel_rfl, rfl⟩) hH ?_
            simp only [Act.put, List.setIfInBounds_toArray, List.set_cons_zero, List.set_cons_succ, List.getElem_toArray, List.getElem_cons_zero, List.getElem_cons_succ]
            refine wpAnyH_take (i := 15) (v := .bool false) rfl (by kernel_rfl) (by kernel_rfl) (by kernel_rfl) (fun _ _ _ h => h) (.inl ⟨by kernel_rfl, fun W hW => by first | (go_simp; done) | (go_simp; intro h_; omega)⟩) hH ?_
            simp only [Act.put, List.setIfInBounds_toArray, List.set_cons_zero, List.set_cons_succ, List.getElem_toArray, List.getElem_cons_zero, List.getElem_cons_succ]
            refine wpAnyH_done (by kernel_rfl) ?_ _
            go_wp2
            go_roundw
            case rel => exact ⟨out', qs', i + 1, by go_num, by omega, ⟨Kd.Q_below (Kd.Q_alloc HV.out.1 _) hH.out, (HV.out.2.1.alloc _).below hH.out, (HV.out.2.2.1.alloc _).below hH.out, (HV.out.2.2.2.1.alloc _).below hH.out, below_then (below_alloc HV.out.2.2.2.2 _) (below_alloc HV.out.2.2.2.2 _).size hH.out⟩, ⟨HSK.out, HT.out.2.1, HT.out.2.2.1, HT.out.2.2.2⟩⟩
            case measure => simp [intOf]; omega
          | true =>
            have hq := (hasP_iff g nx ny).1 hv
            obtain ⟨mx_, rfl⟩ := Int.eq_ofNat_of_zero_le hq.1
            obtain ⟨my, rfl⟩ := Int.eq_ofNat_of_zero_le hq.2.2.1
            have hmx : mx_ < 16 := by omega
            have hmy : my < 16 := by omega
            have HAD := Aside0.mk (HNE.out (by omega) (by omega) (by omega) (by omega))
            rw [Int.toNat_natCast, Int.toNat_natCast] at HAD
            clear hq
            cases ho : out' (my * 16 + mx_) with
            | true =>
              have HSK := Aside0.mk (mid_skip HM2.out (.inr (by rw [Int.toNat_natCast, Int.toNat_natCast]; exact ho)))
              go_wp2_with (first
                | ((with_reducible refine gate_dst (N := 36) rfl ?_); refine Kd.event_run (v := .agg #[.int .i64 (mx_ : Int), .int .i64 (my : Int)]) (w1 := wi) rfl ?hr ?_; (case hr => (rw [HRUN.out, HRUN2.out]; (obtain e | e | e | e : i = 0 ∨ i = 1 ∨ i = 2 ∨ i = 3 := by omega); all_goals (subst e; kernel_rfl)))))
              refine wp_region_held_drew (S := fun W => Aside0 (Below (wi.alloc (.cells #[.int .i64 (mx_ : Int), .int .i64 (my : Int)] 89)).heap.size (wi.alloc (.cells #[.int .i64 (mx_ : Int), .int .i64 (my : Int)] 89)) W)) (by kernel_rfl) ⟨below_drew (Below.refl _ _)⟩ (fun hH => ?_)
              obtain ⟨W3, hW3⟩ : ∃ W, W = (wi.alloc (.cells #[.int .i64 (mx_ : Int), .int .i64 (my : Int)] 89)).drew := ⟨_, rfl⟩
              rw [← hW3] at hH ⊢
              clear hW3
              refine wpAnyH_take (i := 0) rfl (by kernel_rfl) (by kernel_rfl) (by kernel_rfl) (fun _ _ _ h => h) (yieldsP_grid (by kernel_rfl) _ rfl w.heap.size rfl g (fun W hW => GridAt.below HGG.out hW.out)) hH ?_
              simp only [Act.put, List.setIfInBounds_toArray, List.set_cons_zero, List.set_cons_succ, List.getElem_toArray, List.getElem_cons_zero, List.getElem_cons_succ]
              refine wpAnyH_take (i := 1) (v := .pointer (some ⟨wi.heap.size, 0, none⟩)) rfl (by kernel_rfl) (by kernel_rfl) (by kernel_rfl) (fun _ _ _ h => h) (.inl ⟨by kernel_rfl, fun W hW => by first | (go_simp; done) | (go_simp; intro h_; omega)⟩) hH ?_
              simp only [Act.put, List.setIfInBounds_toArray, List.set_cons_zero, List.set_cons_succ, List.getElem_toArray, List.getElem_cons_zero, List.getElem_cons_succ]
              refine wpAnyH_take (i := 2) rfl (by kernel_rfl) (by kernel_rfl) (by kernel_rfl) (fun _ _ _ h => h) (yieldsP_int (by kernel_rfl) _ rfl ⟨wi.heap.size, 0, none⟩ rfl (mx_ : Int) (fun W hW => (blk_cell (blk_below HBL.out hW.out) 0).trans rfl)) hH ?_
              simp only [Act.put, List.setIfInBounds_toArray, List.set_cons_zero, List.set_cons_succ, List.getElem_toArray, List.getElem_cons_zero, List.getElem_cons_succ]
              refine wpAnyH_take (i := 3) (v := .pointer (some ⟨wi.heap.size, 1, none⟩)) rfl (by kernel_rfl) (by kernel_rfl) (by kernel_rfl) (fun _ _ _ h => h) (.inl ⟨by kernel_rfl, fun W hW => by first | (go_simp; done) | (go_simp; intro h_; omega)⟩) hH ?_
              simp only [Act.put, List.setIfInBounds_toArray, List.set_cons_zero, List.set_cons_succ, List.getElem_toArray, List.getElem_cons_zero, List.getElem_cons_succ]
              refine wpAnyH_take (i := 4) rfl (by kernel_rfl) (by kernel_rfl) (by kernel_rfl) (fun _ _ _ h => h) (yieldsP_int (by kernel_rfl) _ rfl ⟨wi.heap.size, 1, none⟩ rfl (my : Int) (fun W hW => (blk_cell (blk_below HBL.out hW.out) 1).trans rfl)) hH ?_
              simp only [Act.put, List.setIfInBounds_toArray, List.set_cons_zero, List.set_cons_succ, List.getElem_toArray, List.getElem_cons_zero, List.getElem_cons_succ]
              refine wpAnyH_ready (rs := [5]) (by kernel_rfl) (by simp) ?_
              refine AllReadyH.cons (i := 5) rfl ?_ AllReadyH.nil
              intro K hK
              rw [if_pos (by rfl)]
              go_simp
              go_wp2_with (first | (go_at_call 60; refine (has_calls _ _ _ _).mono ?_; rintro e W4 ⟨rfl, hb⟩))
              refine hK.out _ _ ⟨below_then hH.out hH.out.size hb⟩ (fun hH1 => ?_)
              clear hK K hb hH
              have hH := hH1
              clear hH1
              try rw [hv]
              try simp only [Act.put, List.setIfInBounds_toArray, List.set_cons_zero, List.set_cons_succ, List.getElem_toArray, List.getElem_cons_zero, List.getElem_cons_succ]
              refine wpAnyH_take (i := 6) (v := .bool true) rfl (by kernel_rfl) (by kernel_rfl) (by kernel_rfl) (fun _ _ _ h => h) (.inl ⟨by kernel_rfl, fun W hW => by first | (go_simp; done) | (go_simp; intro h_; omega)⟩) hH ?_
              simp only [Act.put, List.setIfInBounds_toArray, List.set_cons_zero, List.set_cons_succ, List.getElem_toArray, List.getElem_cons_zero, List.getElem_cons_succ]
              refine wpAnyH_take (i := 7) (v := .pointer (some ⟨wi.heap.size, 1, none⟩)) rfl (by kernel_rfl) (by kernel_rfl) (by kernel_rfl) (fun _ _ _ h => h) (.inl ⟨by kernel_rfl, fun W hW => by first | (go_simp; done) | (go_simp; intro h_; omega)⟩) hH ?_
              simp only [Act.put, List.setIfInBounds_toArray, List.set_cons_zero, List.set_cons_succ, List.getElem_toArray, List.getElem_cons_zero, List.getElem_cons_succ]
              refine wpAnyH_take (i := 8) rfl (by kernel_rfl) (by kernel_rfl) (by kernel_rfl) (fun _ _ _ h => h) (yieldsP_int (by kernel_rfl) _ rfl ⟨wi.heap.size, 1, none⟩ rfl (my : Int) (fun W hW => (blk_cell (blk_below HBL.out hW.out) 1).trans rfl)) hH ?_
              simp only [Act.put, List.setIfInBounds_toArray, List.set_cons_zero, List.set_cons_succ, List.getElem_toArray, List.getElem_cons_zero, List.getElem_cons_succ]
              refine wpAnyH_take (i := 9) (v := .pointer (some ⟨wi.heap.size, 0, none⟩)) rfl (by kernel_rfl) (by kernel_rfl) (by kernel_rfl) (fun _ _ _ h => h) (.inl ⟨by kernel_rfl, fun W hW => by first | (go_simp; done) | (go_simp; intro h_; omega)⟩) hH ?_
              simp only [Act.put, List.setIfInBounds_toArray, List.set_cons_zero, List.set_cons_succ, List.getElem_toArray, List.getElem_cons_zero, List.getElem_cons_succ]
              refine wpAnyH_take (i := 10) rfl (by kernel_rfl) (by kernel_rfl) (by kernel_rfl) (fun _ _ _ h => h) (yieldsP_int (by kernel_rfl) _ rfl ⟨wi.heap.size, 0, none⟩ rfl (mx_ : Int) (fun W hW => (blk_cell (blk_below HBL.out hW.out) 0).trans rfl)) hH ?_
              simp only [Act.put, List.setIfInBounds_toArray, List.set_cons_zero, List.set_cons_succ, List.getElem_toArray, List.getElem_cons_zero, List.getElem_cons_succ]
              refine wpAnyH_take (i := 11) (v := .pointer (some ⟨w.heap.size + 1 + 1, my * 16, none⟩)) rfl (by kernel_rfl) (by kernel_rfl) (by kernel_rfl) (fun _ _ _ h => h) (.inl ⟨by kernel_rfl, fun W hW => by first | (go_simp; done) | (go_simp; intro h_; omega)⟩) hH ?_
              simp only [Act.put, List.setIfInBounds_toArray, List.set_cons_zero, List.set_cons_succ, List.getElem_toArray, List.getElem_cons_zero, List.getElem_cons_succ]
              refine wpAnyH_take (i := 12) (v := .pointer (some ⟨w.heap.size + 1 + 1, my * 16 + mx_, none⟩)) rfl (by kernel_rfl) (by kernel_rfl) (by kernel_rfl) (fun _ _ _ h => h) (.inl ⟨by kernel_rfl, fun W hW => by first | (go_simp; done) | (go_simp; intro h_; omega)⟩) hH ?_
              simp only [Act.put, List.setIfInBounds_toArray, List.set_cons_zero, List.set_cons_succ, List.getElem_toArray, List.getElem_cons_zero, List.getElem_cons_succ]
              refine wpAnyH_take (i := 13) rfl (by kernel_rfl) (by kernel_rfl) (by kernel_rfl) (fun _ _ _ h => h) (yieldsP_bool (by kernel_rfl) _ rfl ⟨w.heap.size + 1 + 1, my * 16 + mx_, none⟩ rfl true (fun W hW => (GridAt.cell (GridAt.below HGO.out hW.out) (my * 16 + mx_) (by omega)).trans (by rw [ho]))) hH ?_
              simp only [Act.put, List.setIfInBounds_toArray, List.set_cons_zero, List.set_cons_succ, List.getElem_toArray, List.getElem_cons_zero, List.getElem_cons_succ]
              refine wpAnyH_take (i := 14) (v := .bool (!true)) rfl (by kernel_rfl) (by kernel_rfl) (by kernel_rfl) (fun _ _ _ h => h) (.inl ⟨by kernel_rfl, fun W hW => by first | (go_simp; done) | (go_simp; intro h_; omega)⟩) hH ?_
              simp only [Act.put, List.setIfInBounds_toArray, List.set_cons_zero, List.set_cons_succ, List.getElem_toArray, List.getElem_cons_zero, List.getElem_cons_succ]
              refine wpAnyH_take (i := 15) (v := .bool (!true)) rfl (by kernel_rfl) (by kernel_rfl) (by kernel_rfl) (fun _ _ _ h => h) (.inl ⟨by kernel_rfl, fun W hW => by first | (go_simp; done) | (go_simp; intro h_; omega)⟩) hH ?_
              simp only [Act.put, List.setIfInBounds_toArray, List.set_cons_zero, List.set_cons_succ, List.getElem_toArray, List.getElem_cons_zero, List.getElem_cons_succ]
              refine wpAnyH_done (by kernel_rfl) ?_ _
              go_wp2
              go_roundw
              case rel => exact ⟨out', qs', i + 1, by go_num, by omega, ⟨Kd.Q_below (Kd.Q_alloc HV.out.1 _) hH.out, (HV.out.2.1.alloc _).below hH.out, (HV.out.2.2.1.alloc _).below hH.out, (HV.out.2.2.2.1.alloc _).below hH.out, below_then (below_alloc HV.out.2.2.2.2 _) (below_alloc HV.out.2.2.2.2 _).size hH.out⟩, ⟨HSK.out, HT.out.2.1, HT.out.2.2.1, HT.out.2.2.2⟩⟩
              case measure => simp [intOf]; omega
            | false =>
              go_wp2_with (first
                | ((with_reducible refine gate_dst (N := 36) rfl ?_); refine Kd.event_run (v := .agg #[.int .i64 (mx_ : Int), .int .i64 (my : Int)]) (w1 := wi) rfl ?hr ?_; (case hr => (rw [HRUN.out, HRUN2.out]; (obtain e | e | e | e : i = 0 ∨ i = 1 ∨ i = 2 ∨ i = 3 := by omega); all_goals (subst e; kernel_rfl)))))
              refine wp_region_held_drew (S := fun W => Aside0 (Below (wi.alloc (.cells #[.int .i64 (mx_ : Int), .int .i64 (my : Int)] 89)).heap.size (wi.alloc (.cells #[.int .i64 (mx_ : Int), .int .i64 (my : Int)] 89)) W)) (by kernel_rfl) ⟨below_drew (Below.refl _ _)⟩ (fun hH => ?_)
              obtain ⟨W3, hW3⟩ : ∃ W, W = (wi.alloc (.cells #[.int .i64 (mx_ : Int), .int .i64 (my : Int)] 89)).drew := ⟨_, rfl⟩
              rw [← hW3] at hH ⊢
              clear hW3
              refine wpAnyH_take (i := 0) rfl (by kernel_rfl) (by kernel_rfl) (by kernel_rfl) (fun _ _ _ h => h) (yieldsP_grid (by kernel_rfl) _ rfl w.heap.size rfl g (fun W hW => GridAt.below HGG.out hW.out)) hH ?_
              simp only [Act.put, List.setIfInBounds_toArray, List.set_cons_zero, List.set_cons_succ, List.getElem_toArray, List.getElem_cons_zero, List.getElem_cons_succ]
              refine wpAnyH_take (i := 1) (v := .pointer (some ⟨wi.heap.size, 0, none⟩)) rfl (by kernel_rfl) (by kernel_rfl) (by kernel_rfl) (fun _ _ _ h => h) (.inl ⟨by kernel_rfl, fun W hW => by first | (go_simp; done) | (go_simp; intro h_; omega)⟩) hH ?_
              simp only [Act.put, List.setIfInBounds_toArray, List.set_cons_zero, List.set_cons_succ, List.getElem_toArray, List.getElem_cons_zero, List.getElem_cons_succ]
              refine wpAnyH_take (i := 2) rfl (by kernel_rfl) (by kernel_rfl) (by kernel_rfl) (fun _ _ _ h => h) (yieldsP_int (by kernel_rfl) _ rfl ⟨wi.heap.size, 0, none⟩ rfl (mx_ : Int) (fun W hW => (blk_cell (blk_below HBL.out hW.out) 0).trans rfl)) hH ?_
              simp only [Act.put, List.setIfInBounds_toArray, List.set_cons_zero, List.set_cons_succ, List.getElem_toArray, List.getElem_cons_zero, List.getElem_cons_succ]
              refine wpAnyH_take (i := 3) (v := .pointer (some ⟨wi.heap.size, 1, none⟩)) rfl (by kernel_rfl) (by kernel_rfl) (by kernel_rfl) (fun _ _ _ h => h) (.inl ⟨by kernel_rfl, fun W hW => by first | (go_simp; done) | (go_simp; intro h_; omega)⟩) hH ?_
              simp only [Act.put, List.setIfInBounds_toArray, List.set_cons_zero, List.set_cons_succ, List.getElem_toArray, List.getElem_cons_zero, List.getElem_cons_succ]
              refine wpAnyH_take (i := 4) rfl (by kernel_rfl) (by kernel_rfl) (by kernel_rfl) (fun _ _ _ h => h) (yieldsP_int (by kernel_rfl) _ rfl ⟨wi.heap.size, 1, none⟩ rfl (my : Int) (fun W hW => (blk_cell (blk_below HBL.out hW.out) 1).trans rfl)) hH ?_
              simp only [Act.put, List.setIfInBounds_toArray, List.set_cons_zero, List.set_cons_succ, List.getElem_toArray, List.getElem_cons_zero, List.getElem_cons_succ]
              refine wpAnyH_ready (rs := [5]) (by kernel_rfl) (by simp) ?_
              refine AllReadyH.cons (i := 5) rfl ?_ AllReadyH.nil
              intro K hK
              rw [if_pos (by rfl)]
              go_simp
              go_wp2_with (first | (go_at_call 60; refine (has_calls _ _ _ _).mono ?_; rintro e W4 ⟨rfl, hb⟩))
              refine hK.out _ _ ⟨below_then hH.out hH.out.size hb⟩ (fun hH1 => ?_)
              clear hK K hb hH
              have hH := hH1
              clear hH1
              try rw [hv]
              try simp only [Act.put, List.setIfInBounds_toArray, List.set_cons_zero, List.set_cons_succ, List.getElem_toArray, List.getElem_cons_zero, List.getElem_cons_succ]
              refine wpAnyH_take (i := 6) (v := .bool true) rfl (by kernel_rfl) (by kernel_rfl) (by kernel_rfl) (fun _ _ _ h => h) (.inl ⟨by kernel_rfl, fun W hW => by first | (go_simp; done) | (go_simp; intro h_; omega)⟩) hH ?_
              simp only [Act.put, List.setIfInBounds_toArray, List.set_cons_zero, List.set_cons_succ, List.getElem_toArray, List.getElem_cons_zero, List.getElem_cons_succ]
              refine wpAnyH_take (i := 7) (v := .pointer (some ⟨wi.heap.size, 1, none⟩)) rfl (by kernel_rfl) (by kernel_rfl) (by kernel_rfl) (fun _ _ _ h => h) (.inl ⟨by kernel_rfl, fun W hW => by first | (go_simp; done) | (go_simp; intro h_; omega)⟩) hH ?_
              simp only [Act.put, List.setIfInBounds_toArray, List.set_cons_zero, List.set_cons_succ, List.getElem_toArray, List.getElem_cons_zero, List.getElem_cons_succ]
              refine wpAnyH_take (i := 8) rfl (by kernel_rfl) (by kernel_rfl) (by kernel_rfl) (fun _ _ _ h => h) (yieldsP_int (by kernel_rfl) _ rfl ⟨wi.heap.size, 1, none⟩ rfl (my : Int) (fun W hW => (blk_cell (blk_below HBL.out hW.out) 1).trans rfl)) hH ?_
              simp only [Act.put, List.setIfInBounds_toArray, List.set_cons_zero, List.set_cons_succ, List.getElem_toArray, List.getElem_cons_zero, List.getElem_cons_succ]
              refine wpAnyH_take (i := 9) (v := .pointer (some ⟨wi.heap.size, 0, none⟩)) rfl (by kernel_rfl) (by kernel_rfl) (by kernel_rfl) (fun _ _ _ h => h) (.inl ⟨by kernel_rfl, fun W hW => by first | (go_simp; done) | (go_simp; intro h_; omega)⟩) hH ?_
              simp only [Act.put, List.setIfInBounds_toArray, List.set_cons_zero, List.set_cons_succ, List.getElem_toArray, List.getElem_cons_zero, List.getElem_cons_succ]
              refine wpAnyH_take (i := 10) rfl (by kernel_rfl) (by kernel_rfl) (by kernel_rfl) (fun _ _ _ h => h) (yieldsP_int (by kernel_rfl) _ rfl ⟨wi.heap.size, 0, none⟩ rfl (mx_ : Int) (fun W hW => (blk_cell (blk_below HBL.out hW.out) 0).trans rfl)) hH ?_
              simp only [Act.put, List.setIfInBounds_toArray, List.set_cons_zero, List.set_cons_succ, List.getElem_toArray, List.getElem_cons_zero, List.getElem_cons_succ]
              refine wpAnyH_take (i := 11) (v := .pointer (some ⟨w.heap.size + 1 + 1, my * 16, none⟩)) rfl (by kernel_rfl) (by kernel_rfl) (by kernel_rfl) (fun _ _ _ h => h) (.inl ⟨by kernel_rfl, fun W hW => by first | (go_simp; done) | (go_simp; intro h_; omega)⟩) hH ?_
              simp only [Act.put, List.setIfInBounds_toArray, List.set_cons_zero, List.set_cons_succ, List.getElem_toArray, List.getElem_cons_zero, List.getElem_cons_succ]
              refine wpAnyH_take (i := 12) (v := .pointer (some ⟨w.heap.size + 1 + 1, my * 16 + mx_, none⟩)) rfl (by kernel_rfl) (by kernel_rfl) (by kernel_rfl) (fun _ _ _ h => h) (.inl ⟨by kernel_rfl, fun W hW => by first | (go_simp; done) | (go_simp; intro h_; omega)⟩) hH ?_
              simp only [Act.put, List.setIfInBounds_toArray, List.set_cons_zero, List.set_cons_succ, List.getElem_toArray, List.getElem_cons_zero, List.getElem_cons_succ]
              refine wpAnyH_take (i := 13) rfl (by kernel_rfl) (by kernel_rfl) (by kernel_rfl) (fun _ _ _ h => h) (yieldsP_bool (by kernel_rfl) _ rfl ⟨w.heap.size + 1 + 1, my * 16 + mx_, none⟩ rfl false (fun W hW => (GridAt.cell (GridAt.below HGO.out hW.out) (my * 16 + mx_) (by omega)).trans (by rw [ho]))) hH ?_
              simp only [Act.put, List.setIfInBounds_toArray, List.set_cons_zero, List.set_cons_succ, List.getElem_toArray, List.getElem_cons_zero, List.getElem_cons_succ]
              refine wpAnyH_take (i := 14) (v := .bool (!false)) rfl (by kernel_rfl) (by kernel_rfl) (by kernel_rfl) (fun _ _ _ h => h) (.inl ⟨by kernel_rfl, fun W hW => by first | (go_simp; done) | (go_simp; intro h_; omega)⟩) hH ?_
              simp only [Act.put, List.setIfInBounds_toArray, List.set_cons_zero, List.set_cons_succ, List.getElem_toArray, List.getElem_cons_zero, List.getElem_cons_succ]
              refine wpAnyH_take (i := 15) (v := .bool (!false)) rfl (by kernel_rfl) (by kernel_rfl) (by kernel_rfl) (fun _ _ _ h => h) (.inl ⟨by kernel_rfl, fun W hW => by first | (go_simp; done) | (go_simp; intro h_; omega)⟩) hH ?_
              simp only [Act.put, List.setIfInBounds_toArray, List.set_cons_zero, List.set_cons_succ, List.getElem_toArray, List.getElem_cons_zero, List.getElem_cons_succ]
              refine wpAnyH_done (by kernel_rfl) ?_ _
              go_upto_region 11 with (fail)
              have hq1 := (blk_cell (blk_below HBL.out hH.out) 0).trans (show (#[.int .i64 (mx_ : Int), .int .i64 (my : Int)] : Array Value)[0]? = some (.int .i64 (mx_ : Int)) from rfl)
              have hq2 := (blk_cell (blk_below HBL.out hH.out) 1).trans (show (#[.int .i64 (mx_ : Int), .int .i64 (my : Int)] : Array Value)[1]? = some (.int .i64 (my : Int)) from rfl)
              have HQ4 := Aside0.mk (Kd.Q_below (Kd.Q_alloc HV.out.1 (.cells #[.int .i64 (mx_ : Int), .int .i64 (my : Int)] 89)) hH.out)
              have HG4 := Aside0.mk (GridAt.below HGG.out hH.out)
              have HO4 := Aside0.mk (GridAt.below HGO.out hH.out)
              have HZ4 := Aside0.mk (GridAt.below (GridAt.alloc HV.out.2.2.1 (.cells #[.int .i64 (mx_ : Int), .int .i64 (my : Int)] 89)) hH.out)
              have HB4 := Aside0.mk (below_then (below_alloc HV.out.2.2.2.2 (.cells #[.int .i64 (mx_ : Int), .int .i64 (my : Int)] 89)) (below_alloc HV.out.2.2.2.2 _).size hH.out)
              have hwi : w.heap.size + 2 < wi.heap.size := GridAt.lt HV.out.2.2.2.1
              clear hH
              refine wp_region_held_drew (S := fun W => Aside0 (W.cell? ⟨wi.heap.size, 0, none⟩ = some (.int .i64 (mx_ : Int)) ∧ W.cell? ⟨wi.heap.size, 1, none⟩ = some (.int .i64 (my : Int)))) (by kernel_rfl) ⟨hq1, hq2⟩ (fun hH => ?_)
              obtain ⟨W5, hW5⟩ : ∃ W, W = W4.drew := ⟨_, rfl⟩
              rw [← hW5] at hH ⊢
              have HQ5 : Aside0 (kQ.Q 89 W5 w.heap.size (fun _ => True) u8 qs') := Aside0.mk (by rw [hW5]; exact Kd.Q_drew HQ4.out)
              have HG5 : Aside0 (W5.heap[w.heap.size]? = some (.cells (gc g) 66 (0, 0))) := Aside0.mk (by rw [hW5]; exact HG4.out)
              have HZ5 : Aside0 (W5.heap[w.heap.size + 1]? = some (.cells (gc fun _ => false) 66 (0, 0))) := Aside0.mk (by rw [hW5]; exact HZ4.out)
              have HO5 : Aside0 (GridAt W5 (w.heap.size + 2) out') := Aside0.mk (by rw [hW5]; exact HO4.out)
              have HB5 : Aside0 (Below w.heap.size w W5) := Aside0.mk (by rw [hW5]; exact below_drew HB4.out)
              clear hW5 hq1 hq2 HQ4 HG4 HZ4 HO4 HB4
              refine wpAnyH_take (i := 0) (v := .pointer (some ⟨wi.heap.size, 1, none⟩)) rfl (by kernel_rfl) (by kernel_rfl) (by kernel_rfl) (fun _ _ _ h => h) (.inl ⟨by kernel_rfl, fun W hW => by first | (go_simp; done) | (go_simp; intro h_; omega)⟩) hH ?_
              simp only [Act.put, List.setIfInBounds_toArray, List.set_cons_zero, List.set_cons_succ, List.getElem_toArray, List.getElem_cons_zero, List.getElem_cons_succ]
              refine wpAnyH_take (i := 1) rfl (by kernel_rfl) (by kernel_rfl) (by kernel_rfl) (fun _ _ _ h => h) (yieldsP_int (by kernel_rfl) _ rfl ⟨wi.heap.size, 1, none⟩ rfl (my : Int) (fun W hW => hW.out.2)) hH ?_
              simp only [Act.put, List.setIfInBounds_toArray, List.set_cons_zero, List.set_cons_succ, List.getElem_toArray, List.getElem_cons_zero, List.getElem_cons_succ]
              refine wpAnyH_take (i := 2) (v := .pointer (some ⟨wi.heap.size, 0, none⟩)) rfl (by kernel_rfl) (by kernel_rfl) (by kernel_rfl) (fun _ _ _ h => h) (.inl ⟨by kernel_rfl, fun W hW => by first | (go_simp; done) | (go_simp; intro h_; omega)⟩) hH ?_
              simp only [Act.put, List.setIfInBounds_toArray, List.set_cons_zero, List.set_cons_succ, List.getElem_toArray, List.getElem_cons_zero, List.getElem_cons_succ]
              refine wpAnyH_take (i := 3) rfl (by kernel_rfl) (by kernel_rfl) (by kernel_rfl) (fun _ _ _ h => h) (yieldsP_int (by kernel_rfl) _ rfl ⟨wi.heap.size, 0, none⟩ rfl (mx_ : Int) (fun W hW => hW.out.1)) hH ?_
              simp only [Act.put, List.setIfInBounds_toArray, List.set_cons_zero, List.set_cons_succ, List.getElem_toArray, List.getElem_cons_zero, List.getElem_cons_succ]
              refine wpAnyH_take (i := 4) (v := .pointer (some ⟨w.heap.size + 1 + 1, my * 16, none⟩)) rfl (by kernel_rfl) (by kernel_rfl) (by kernel_rfl) (fun _ _ _ h => h) (.inl ⟨by kernel_rfl, fun W hW => by first | (go_simp; done) | (go_simp; intro h_; omega)⟩) hH ?_
              simp only [Act.put, List.setIfInBounds_toArray, List.set_cons_zero, List.set_cons_succ, List.getElem_toArray, List.getElem_cons_zero, List.getElem_cons_succ]
              refine wpAnyH_take (i := 5) (v := .pointer (some ⟨w.heap.size + 1 + 1, my * 16 + mx_, none⟩)) rfl (by kernel_rfl) (by kernel_rfl) (by kernel_rfl) (fun _ _ _ h => h) (.inl ⟨by kernel_rfl, fun W hW => by first | (go_simp; done) | (go_simp; intro h_; omega)⟩) hH ?_
              simp only [Act.put, List.setIfInBounds_toArray, List.set_cons_zero, List.set_cons_succ, List.getElem_toArray, List.getElem_cons_zero, List.getElem_cons_succ]
              have hco := HO5.out.cell (my * 16 + mx_) (by omega)
              have hcf := HO5.out.free (my * 16 + mx_)
              refine wpAnyH_ready (rs := [6]) (by kernel_rfl) (by simp) ?_
              refine AllReadyH.cons (i := 6) rfl ?_ AllReadyH.nil
              intro K hK
              rw [if_pos (by rfl)]
              go_simp
              have HQ6 := Aside0.mk (Kd.Q_set HQ5.out HO5.out (by decide) (my * 16 + mx_) (.bool true))
              have HG6 := Aside0.mk (blk_far HG5.out (show w.heap.size ≠ (⟨w.heap.size + 2, my * 16 + mx_, none⟩ : Addr).block by simp) (.bool true))
              have HZ6 := Aside0.mk (blk_far HZ5.out (show w.heap.size + 1 ≠ (⟨w.heap.size + 2, my * 16 + mx_, none⟩ : Addr).block by simp) (.bool true))
              have HO6 : Aside0 ((W5.setCell ⟨w.heap.size + 2, my * 16 + mx_, none⟩ (.bool true)).heap[w.heap.size + 2]? = some (.cells (gc fun p => if p = my * 16 + mx_ then true else out' p) 66 (0, 0))) := Aside0.mk (HO5.out.set_ (my * 16 + mx_) true)
              have HB6 := Aside0.mk (below_set (g := w.heap.size + 2) (j := my * 16 + mx_) (v := .bool true) HB5.out (by omega))
              have hH1 : Aside0 ((W5.setCell ⟨w.heap.size + 2, my * 16 + mx_, none⟩ (.bool true)).cell? ⟨wi.heap.size, 0, none⟩ = some (.int .i64 (mx_ : Int)) ∧ (W5.setCell ⟨w.heap.size + 2, my * 16 + mx_, none⟩ (.bool true)).cell? ⟨wi.heap.size, 1, none⟩ = some (.int .i64 (my : Int))) := ⟨(World.cell?_setCell_far W5 _ _ _ (by show w.heap.size + 2 ≠ wi.heap.size; omega)).trans hH.out.1, (World.cell?_setCell_far W5 _ _ _ (by show w.heap.size + 2 ≠ wi.heap.size; omega)).trans hH.out.2⟩
              refine hK.out _ _ hH1 (fun _ => ?_)
              clear hK K hH hco hcf
              obtain ⟨W6, hW6⟩ : ∃ W, W = W5.setCell ⟨w.heap.size + 2, my * 16 + mx_, none⟩ (.bool true) := ⟨_, rfl⟩
              have hW6' : W5.setCell ⟨w.heap.size + 1 + 1, my * 16 + mx_, none⟩ (.bool true) = W6 := hW6.symm
              rw [← hW6] at HQ6 HG6 HZ6 HO6 HB6 hH1
              (first | rw [hW6'] | rw [← hW6])
              clear hW6 hW6'
              have hq1 := hH1.out.1
              have hq2 := hH1.out.2
              try simp only [Act.put, List.setIfInBounds_toArray, List.set_cons_zero, List.set_cons_succ, List.getElem_toArray, List.getElem_cons_zero, List.getElem_cons_succ]
              refine wpAnyH_done (by kernel_rfl) ?_ _
              have hpz : my * 16 + mx_ < 256 := by omega
              have HPU := Aside0.mk (mid_push (todo' := (qs' ++ [((mx_ : Int), (my : Int))]).map posI) HM2.out hv (by rw [Int.toNat_natCast, Int.toNat_natCast]; exact HAD.out) (fun q hq => by rw [List.map_append, List.mem_append] at hq; rcases hq with hq | hq; exact .inr hq; left; simpa [posI] using hq) (fun q hq => by rw [List.map_append, List.mem_append]; exact .inl hq) (by rw [List.map_append, List.mem_append]; right; simp [posI]))
              rw [Int.toNat_natCast, Int.toNat_natCast] at HPU
              have HUN := Aside0.mk (unseen_set out' (my * 16 + mx_) hpz ho)
              clear hpz ho
              go_wp2_with (first
                | ((with_reducible refine gate_builtin (b := .append) (xs := #[.tmp 59, .tmp 61]) rfl ?_); at_builtin; refine Kd.Q_append kQ (w0 := w) w.heap.size rfl (.tmp 59) (.tmp 61) 94 89 (.agg #[.int .i64 0, .int .i64 0]) 16 rfl Try.underlying94 infoQ rfl (by decide) (by omega) u8 qs' ((mx_ : Int), (my : Int)) [.int .i64 (mx_ : Int), .int .i64 (my : Int)] (fun _ => True) (fun _ => False) rfl ?aX ?aP (fun _ hk => hk.elim) (fun _ _ => trivial) HQ6.out HB6.out HB6.out.size ?aL ?_; (case aX => rfl); (case aP => exact kQ_M _ _ _ _ _); (case aL => (have hl_ := HT.out.2.2.1; omega)); intro v7 W7 ho hb hg hat; have HQ7 := Aside0.mk ho; have HB7 := Aside0.mk hb; have HG7 : Aside0 (GridAt W7 w.heap.size g) := Aside0.mk (blk_grown HG6.out hg (Kd.Q_ne HQ6.out HG6.out (by decide))); have HZ7 : Aside0 (GridAt W7 (w.heap.size + 1) (fun _ => false)) := Aside0.mk (blk_grown HZ6.out hg (Kd.Q_ne HQ6.out HZ6.out (by decide))); have HO7 : Aside0 (GridAt W7 (w.heap.size + 2) (fun p => if p = my * 16 + mx_ then true else out' p)) := Aside0.mk (blk_grown HO6.out hg (Kd.Q_ne HQ6.out HO6.out (by decide))); clear ho hb hg hat))
              go_roundw
              case rel => exact ⟨_, qs' ++ [((mx_ : Int), (my : Int))], i + 1, by go_num, by omega, ⟨HQ7.out, HG7.out, HZ7.out, HO7.out, HB7.out⟩, ⟨HPU.out, fun q hq => by
                rcases List.mem_append.1 hq with hq | hq
                · exact HT.out.2.1 q hq
                · rw [List.mem_singleton] at hq; subst hq; simp only; omega, by have h1 := HUN.out; have h2 := HT.out.2.2.1; rw [List.length_append, List.length_singleton]; omega, by have h1 := HUN.out; have h2 := HT.out.2.2.2; rw [List.length_append, List.length_singleton]; omega⟩⟩
              case measure => simp [intOf]; omega
        · have hi4 : i = 4 := by omega
          subst hi4
          go_wp2
          go_roundw
          case rel => exact ⟨out', qs', y0 * 16 + x0, HV, ⟨HT.out.1, HT.out.2.1, HT.out.2.2.1⟩⟩
          case measure =>
            obtain ⟨A2, c2, e2, _⟩ := Kd.Q_slice HV.out.1
            have h1 := unseen_out HV.out.2.2.2.1
            have h2 := HMS.out
            have h3 := HT.out.2.2.2
            have h5 := HUE.out
            subst e2
            show 2 * unseen (outOf wi (w.heap.size + 2)) + qs'.length < 2 * unseen (outOf wo (w.heap.size + 2)) + n
            rw [h1, h2]
            omega
end Go.Proofs.Ytfgeickfheogoaa.Q

/- impl.partsOf: the connected parts of a region, as runs. -/
namespace Go.Proofs.Ytfgeickfheogoaa.Q
open Go.RowKit Go.Proofs.YtfgeickfheogoaaW.PrintWords Go.Proofs.YtfgeickfheogoaaW.PrintLast Go.Proofs.YtfgeickfheogoaaW.PrintMore
attribute [local go_sem] max2_int min2_int max_two min_two max_three min_three max_four min_four
set_option linter.unusedVariables false
set_option linter.unusedSimpArgs false

/-- the parts that begin at pixels of a list, but for what has been seen -/
noncomputable def partsFrom (g : Nat → Bool) : List Nat → (Nat → Bool) → List (List S57)
  | [], _ => []
  | p :: ps, seen => if seen p = true then partsFrom g ps seen else runsL (comp g p) :: partsFrom g ps (gso (fun x y => seen (y * 16 + x) || comp g p (y * 16 + x)) 256)
/-- the pixels of a run from column x on -/
def pixRun (r : S57) (x : Nat) : List Nat := (List.range' x (r.f2.toNat - x)).map fun x => r.f0.toNat * 16 + x
def pixels (l : List S57) : List Nat := l.flatMap fun r => pixRun r r.f1.toNat
theorem pixels_drop (l : List S57) (k : Nat) (h : k < l.length) : pixels (l.drop k) = pixRun l[k] l[k].f1.toNat ++ pixels (l.drop (k + 1)) := by
  rw [List.drop_eq_getElem_cons h]; rfl
theorem pixRun_in (r : S57) (x : Nat) (h : (x : Int) < r.f2) : pixRun r x = (r.f0.toNat * 16 + x) :: pixRun r (x + 1) := by
  unfold pixRun
  rw [show r.f2.toNat - x = (r.f2.toNat - (x + 1)) + 1 by omega, List.range'_succ, List.map_cons]
theorem pixRun_end (r : S57) (x : Nat) (h : ¬ (x : Int) < r.f2) : pixRun r x = [] := by
  unfold pixRun
  rw [show r.f2.toNat - x = 0 by omega]; rfl
theorem unseen_add (seen c : Nat → Bool) (p : Nat) (hp : p < 256) (h : seen p = false) (hc : c p = true) : unseen (fun q => seen q || c q) + 1 ≤ unseen seen := by
  have h1 := unseen_set seen p hp h
  have h2 : unseen (fun q => seen q || c q) ≤ unseen (fun q => if q = p then true else seen q) := by
    unfold unseen
    refine List.countP_mono_left (fun q _ hq => ?_)
    have hq' : (!(seen q || c q)) = true := hq
    show (!(if q = p then true else seen q)) = true
    by_cases e : q = p
    · subst e; rw [hc] at hq'; simp at hq'
    · rw [if_neg e]
      cases hs : seen q with
      | false => rfl
      | true => rw [hs] at hq'; simp at hq'
  omega

set_option maxHeartbeats 1600000 in
set_option maxRecDepth 100000 in
theorem parts1_calls (g e : Nat → Bool) (x y : Nat) (hx : x < 16) (hy : y < 16) (B1 B2 : Nat) (w : World) (h1 : GridAt w B1 g) (h2 : GridAt w B2 e) :
    Calls Try.prog 91 #[.int .i64 (x : Int), .int .i64 (y : Int), .pointer (some ⟨B1, 0, none⟩), .pointer (some ⟨B2, 0, none⟩)] w fun e_ w' => e_ = .returned (.bool (g (y * 16 + x) || e (y * 16 + x))) ∧ Below w.heap.size w w' := by
  have c1 := h1.cell (y * 16 + x) (by omega)
  have c2 := h2.cell (y * 16 + x) (by omega)
  clear h1 h2
  cases hp : g (y * 16 + x) <;> cases hq : e (y * 16 + x) <;> rw [hp] at c1 <;> rw [hq] at c2
  all_goals
    clear hp hq
    go_enter Try.func91, Try.ntmps91
    go_wp2
    go_ret
    exact ⟨rfl, Below.refl _ _⟩
theorem setRow_keepQ {W : World} {k g : Nat} {o : Obj} (h : W.heap[k]? = some o) (cs : Array Value) (hk : k ≠ g) : (W.setRow g cs).heap[k]? = some o := (setRow_other W g k cs hk).trans h

set_option maxHeartbeats 1600000 in
set_option maxRecDepth 100000 in
theorem partsOf_calls (A0 : Option Addr) (c0 : Nat) (l0 : List S57) (w : World) (hr0 : Kd.C k57 w A0 l0.length l0) (hok : ∀ r ∈ l0, 0 ≤ r.f0 ∧ r.f0 < 16 ∧ 0 ≤ r.f1 ∧ r.f2 ≤ 16) :
    Calls Try.prog 82 #[.slice A0 l0.length c0] w fun e w' => ∃ v0_ : Value, e = .returned v0_ ∧ Kd.S (Kd.slice 57 k57) 25 w' w.heap.size (fun _ => True) v0_ (partsFrom (gridF l0) (pixels l0) (fun _ => false)) ∧ Below w.heap.size w w' := by
  have hm : l0.length ≤ 9223372036854775807 := hr0.2.1
  have HR := Aside0.mk hr0
  have HOK := Aside0.mk hok
  clear hr0 hok
  have z0 := zero66
  have HSZ := Aside0.mk (fun g g' : Nat → Bool => show (gc g).size = (gc g').size by rw [gc_size, gc_size])
  have HO := Aside0.mk (fun g : Nat → Bool => gc_one g)
  have HI := Aside0.mk (fun g : Nat → Bool => show (Try.prog.info? 66).map (·.size) = some (gc g).size by rw [gc_size]; exact info66)
  obtain ⟨gF, hgF⟩ : ∃ gF, gF = gridF l0 := ⟨_, rfl⟩
  have HGC := Aside0.mk (gridOf_calls A0 c0 l0 w HR.out HOK.out)
  rw [← hgF] at HGC ⊢
  clear hgF
  go_enter Try.func82, Try.ntmps82
  go_wp2_with (first
    | (go_at_call 59; refine HGC.out.mono ?_; rintro e w1 ⟨rfl, hb1⟩; have HB1 := Aside0.mk hb1; clear hb1;
        have HN1 : Aside0 ((w1.alloc (.cells (gc fun _ => false) 66)).heap[w1.heap.size]? = some (.cells (gc fun _ => false) 66 (0, 0))) := Aside0.mk (blk_new _ _);
        have HN2 : Aside0 ((((w1.alloc (.cells (gc fun _ => false) 66)).setRow w1.heap.size (gc gF)).alloc (.cells (gc fun _ => false) 66)).heap[w1.heap.size + 1]? = some (.cells (gc fun _ => false) 66 (0, 0))) := Aside0.mk (by have h := blk_new ((w1.alloc (.cells (gc fun _ => false) 66)).setRow w1.heap.size (gc gF)) (.cells (gc fun _ => false) 66); rw [setRow_size] at h; simp only [World.size_alloc] at h; exact h);
        have HG2 : Aside0 (GridAt ((((w1.alloc (.cells (gc fun _ => false) 66)).setRow w1.heap.size (gc gF)).alloc (.cells (gc fun _ => false) 66)).setRow (w1.heap.size + 1) (gc fun _ => false)) w1.heap.size gF) := Aside0.mk (setRow_keepQ (blk_alloc (GridAt.setRow (g := fun _ => false) HN1.out gF) (.cells (gc fun _ => false) 66)) _ (by omega));
        have HS2 : Aside0 (GridAt ((((w1.alloc (.cells (gc fun _ => false) 66)).setRow w1.heap.size (gc gF)).alloc (.cells (gc fun _ => false) 66)).setRow (w1.heap.size + 1) (gc fun _ => false)) (w1.heap.size + 1) (fun _ => false)) := Aside0.mk (GridAt.setRow (g := fun _ => false) HN2.out _);
        have HB2 := Aside0.mk (below_setRow (below_alloc (below_setRow (below_alloc HB1.out (.cells (gc fun _ => false) 66)) HB1.out.size (gc gF)) (.cells (gc fun _ => false) 66)) (Nat.le_succ_of_le HB1.out.size) (gc fun _ => false)))
    | ((with_reducible refine wpList_store_row rfl 66 (.tmp 3) (.tmp 11) rfl w1.heap.size (gc gF) ?hx ?hy 66 (gc fun _ => false) HN1.out (HI.out _) (HSZ.out _ _) (HO.out _) ?_); (case hx => rfl); (case hy => rfl))
    | ((with_reducible refine wpList_store_row rfl 66 (.tmp 4) (.tmp 12) rfl (w1.heap.size + 1) (gc fun _ => false) ?hx ?hy 66 (gc fun _ => false) HN2.out (HI.out _) (HSZ.out _ _) (HO.out _) ?_); (case hx => rfl); (case hy => rfl)))
  have HBW := Aside0.mk HB1.out.size
  obtain ⟨B, hB⟩ : ∃ B, B = w1.heap.size := ⟨_, rfl⟩
  go_loopw [5, 16] (fun v5 v16 W => ∃ (k : Nat) (seen : Nat → Bool) (parts : List (List S57)), v16 = .int .i64 k ∧ k ≤ l0.length ∧
    Aside0 (Kd.S (Kd.slice 57 k57) 25 W w.heap.size (fun _ => True) v5 parts ∧ GridAt W w1.heap.size gF ∧ GridAt W (w1.heap.size + 1) seen ∧ Below w.heap.size w W) ∧
    Aside0 (parts ++ partsFrom gF (pixels (l0.drop k)) seen = partsFrom gF (pixels l0) (fun _ => false) ∧ parts.length + unseen seen ≤ 256)) (fun _ v16 _ => l0.length - (intOf v16).toNat)
  case atStart =>
    have h : Kd.S (Kd.slice 57 k57) 25 _ _ _ _ [] := ⟨fun _ => 0, R_empty (Kd.tag (fun _ => 0) (Kd.slice 57 k57)) 25 w.heap.size ((((w1.alloc (.cells (gc fun _ => false) 66)).setRow w1.heap.size (gc gF)).alloc (.cells (gc fun _ => false) 66)).setRow (w1.heap.size + 1) (gc fun _ => false)) HB2.out.size⟩
    simp only [World.size_alloc, setRow_size] at h
    refine ⟨0, (fun _ => false), [], rfl, by omega, ⟨h, HG2.out.alloc _, HS2.out.alloc _, below_alloc HB2.out _⟩, ⟨rfl, ?_⟩⟩
    have h2 : unseen (fun _ => false) = 256 := by simp [unseen]
    rw [h2]; simp
  case round =>
    obtain ⟨k, seen, parts, rfl, hk, HW, HT⟩ := hrel
    clear HN1 HN2 HG2 HS2 HB2
    obtain ⟨wo, rfl⟩ : ∃ wo : World, wo = wr := ⟨_, rfl⟩
    by_cases hlt : k < l0.length
    · have hdk : decide ((k : Int) < (l0.length : Int)) = true := by simp; omega
      obtain ⟨ad, e, hx0, hx1, hx2⟩ := at_T57 HR.out (k : Int) (by omega) (by omega)
      cases e
      have er : rd_T57 l0 (k : Int) = l0[k] := by simp [rd_T57, hlt]
      have ho := HOK.out l0[k] (List.getElem_mem hlt)
      have HPD := Aside0.mk (pixels_drop l0 k hlt)
      rw [er, Int.toNat_natCast] at hx0 hx1 hx2
      clear er
      generalize l0[k] = r at *
      obtain ⟨Y, hY⟩ := Int.eq_ofNat_of_zero_le ho.1
      obtain ⟨F, hF⟩ := Int.eq_ofNat_of_zero_le ho.2.2.1
      have ho2 := ho.2.1
      have ho4 := ho.2.2.2
      clear ho
      rw [hY] at hx0 ho2
      rw [hF] at hx1
      replace hx0 := (HW.out.2.2.2.cell (World.block_lt_of_cell? w _ hx0)).trans hx0
      replace hx1 := (HW.out.2.2.2.cell (World.block_lt_of_cell? w _ hx1)).trans hx1
      replace hx2 := (HW.out.2.2.2.cell (World.block_lt_of_cell? w _ hx2)).trans hx2
      have HY := Aside0.mk hY
      have HF := Aside0.mk hF
      clear hY hF
      go_wp2
      have hlt2 := HW.out.2.2.1.lt
      have HT1 := Aside0.mk (show parts ++ partsFrom gF (pixRun r F ++ pixels (l0.drop (k + 1))) seen = partsFrom gF (pixels l0) (fun _ => false) from by have h := HT.out.1; rw [HPD.out, HF.out, Int.toNat_natCast] at h; exact h)
      go_loopw [5, 8] (fun v5 v8 W => ∃ (x : Nat) (seen' : Nat → Bool) (parts' : List (List S57)), v8 = .int .i64 x ∧ F ≤ x ∧ ((x : Int) ≤ r.f2 ∨ x = F) ∧
        Aside0 (Kd.S (Kd.slice 57 k57) 25 W w.heap.size (fun _ => True) v5 parts' ∧ GridAt W w1.heap.size gF ∧ GridAt W (w1.heap.size + 1) seen' ∧ Below w.heap.size w W) ∧
        Aside0 (W.heap[wo.heap.size]? = some (.cells #[.int .i64 (Y : Int), .int .i64 (F : Int), .int .i64 r.f2] 57 (0, 0))) ∧
        Aside0 (parts' ++ partsFrom gF (pixRun r x ++ pixels (l0.drop (k + 1))) seen' = partsFrom gF (pixels l0) (fun _ => false) ∧ parts'.length + unseen seen' ≤ 256)) (fun _ v8 _ => 17 - (intOf v8).toNat + (r.f2 - (intOf v8)).toNat)
      case atStart =>
        exact ⟨F, seen, parts, rfl, Nat.le_refl _, .inr rfl, ⟨Kd.S_alloc HW.out.1 _, HW.out.2.1.alloc _, HW.out.2.2.1.alloc _, below_alloc HW.out.2.2.2 _⟩, ⟨blk_new _ _⟩, ⟨HT1.out, HT.out.2⟩⟩
      case round =>
        obtain ⟨x, seen', parts', rfl, hFx, hx, HV, HK, HU⟩ := hrel
        clear HT1 hx0 hx1 hx2
        obtain ⟨wi, rfl⟩ : ∃ wi : World, wi = wr := ⟨_, rfl⟩
        have hc0 : wi.cell? ⟨wo.heap.size, 0, none⟩ = some (.int .i64 (Y : Int)) := (blk_cell HK.out 0).trans rfl
        have hc2 : wi.cell? ⟨wo.heap.size, 2, none⟩ = some (.int .i64 r.f2) := (blk_cell HK.out 2).trans rfl
        by_cases hxt : (x : Int) < r.f2
        · have hdx : decide ((x : Int) < r.f2) = true := by simpa using hxt
          have hx16 : x < 16 := by omega
          have hY16 : Y < 16 := by omega
          have hcs := HV.out.2.2.1.cell (Y * 16 + x) (by omega)
          have HPI := Aside0.mk (pixRun_in r x hxt)
          cases hs : seen' (Y * 16 + x) with
          | true =>
            rw [hs] at hcs
            have HU2 := Aside0.mk (show parts' ++ partsFrom gF (pixRun r (x + 1) ++ pixels (l0.drop (k + 1))) seen' = partsFrom gF (pixels l0) (fun _ => false) from by
              have h := HU.out.1
              rw [HPI.out, HY.out, Int.toNat_natCast, List.cons_append, partsFrom, if_pos hs] at h
              exact h)
            clear hs
            go_wp2
            go_roundw
            case rel => exact ⟨x + 1, seen', parts', by go_num, by omega, .inl (by omega), HV, HK, ⟨HU2.out, HU.out.2⟩⟩
            case measure => simp [intOf]; omega
          | false =>
            rw [hs] at hcs
            have hg' : wi.heap[w1.heap.size]? = some (.cells (gc gF) 66 (0, 0)) := HV.out.2.1
            have HU2 := Aside0.mk (show (parts' ++ [runsL (comp gF (Y * 16 + x))]) ++ partsFrom gF (pixRun r (x + 1) ++ pixels (l0.drop (k + 1))) (gso (fun x_ y_ => seen' (y_ * 16 + x_) || comp gF (Y * 16 + x) (y_ * 16 + x_)) 256) = partsFrom gF (pixels l0) (fun _ => false) from by
              have h := HU.out.1
              rw [HPI.out, HY.out, Int.toNat_natCast, List.cons_append, partsFrom, if_neg (by rw [hs]; simp)] at h
              rw [List.append_assoc]
              exact h)
            have HUN := Aside0.mk (unseen_add seen' (comp gF (Y * 16 + x)) (Y * 16 + x) (by omega) hs ((comp_iff _ _ _).2 .here))
            clear hs
            go_wp2_with (first
              | ((with_reducible refine gate_dst (N := 34) rfl ?_); refine wpList_load_row rfl 66 (.tmp 3) rfl w1.heap.size rfl 66 (gc gF) (0, 0) (.array 16 64) hg' underlying66 rfl (HI.out _) ?_)
              | (go_at_call 90; refine (part_calls gF x Y hx16 hY16 _).mono ?_; rintro e W3 ⟨rfl, hb3⟩; have HB3 := Aside0.mk hb3; clear hb3;
                  have HN3 : Aside0 ((W3.alloc (.cells (gc fun _ => false) 66)).heap[W3.heap.size]? = some (.cells (gc fun _ => false) 66 (0, 0))) := Aside0.mk (blk_new _ _);
                  have HP4 : Aside0 (GridAt ((W3.alloc (.cells (gc fun _ => false) 66)).setRow W3.heap.size (gc (comp gF (Y * 16 + x)))) W3.heap.size (comp gF (Y * 16 + x))) := Aside0.mk (GridAt.setRow (g := fun _ => false) HN3.out _);
                  have HB4 : Aside0 (Below wi.heap.size wi ((W3.alloc (.cells (gc fun _ => false) 66)).setRow W3.heap.size (gc (comp gF (Y * 16 + x))))) := Aside0.mk (below_setRow (below_alloc HB3.out (.cells (gc fun _ => false) 66)) HB3.out.size _))
              | ((with_reducible refine wpList_store_row rfl 66 (.tmp 9) (.tmp 38) rfl W3.heap.size (gc (comp gF (Y * 16 + x))) ?hx ?hy 66 (gc fun _ => false) HN3.out (HI.out _) (HSZ.out _ _) (HO.out _) ?_); (case hx => rfl); (case hy => rfl))
              | (go_at_call 62; refine (gridBy_calls 91 #[.pointer (some ⟨w1.heap.size + 1, 0, none⟩), .pointer (some ⟨W3.heap.size, 0, none⟩)] (fun x_ y_ => seen' (y_ * 16 + x_) || comp gF (Y * 16 + x) (y_ * 16 + x_)) ((W3.alloc (.cells (gc fun _ => false) 66)).setRow W3.heap.size (gc (comp gF (Y * 16 + x)))) (enters_of Try.func91 (by kernel_rfl) rfl) (fun W a b ha hb hW => parts1_calls seen' (comp gF (Y * 16 + x)) a b ha hb _ _ W (GridAt.below (GridAt.below HV.out.2.2.1 HB4.out) hW) (GridAt.below HP4.out hW))).mono ?_; rintro e W5 ⟨rfl, hb5⟩;
                  have HB5 : Aside0 (Below wi.heap.size wi W5) := Aside0.mk (below_then HB4.out HB4.out.size hb5);
                  have HS5 : Aside0 (W5.heap[w1.heap.size + 1]? = some (.cells (gc seen') 66 (0, 0))) := Aside0.mk (GridAt.below HV.out.2.2.1 HB5.out);
                  have HP6 : Aside0 ((W5.setRow (w1.heap.size + 1) (gc (gso (fun x_ y_ => seen' (y_ * 16 + x_) || comp gF (Y * 16 + x) (y_ * 16 + x_)) 256))).heap[W3.heap.size]? = some (.cells (gc (comp gF (Y * 16 + x))) 66 (0, 0))) := Aside0.mk (setRow_keepQ (GridAt.below HP4.out hb5) _ (by have := HB3.out.size; have := GridAt.lt HV.out.2.2.1; omega));
                  have HR6 := Aside0.mk (Kd.S_mono (Kd.S_move (w1 := W5.setRow (w1.heap.size + 1) (gc (gso (fun x_ y_ => seen' (y_ * 16 + x_) || comp gF (Y * 16 + x) (y_ * 16 + x_)) 256))) (Kd.S_types (Kd.S_below HV.out.1 HB5.out) HS5.out (by decide)) (fun k hk => setRow_other _ _ _ _ hk.2)) (fun _ h => h.1));
                  have HG6 : Aside0 (GridAt (W5.setRow (w1.heap.size + 1) (gc (gso (fun x_ y_ => seen' (y_ * 16 + x_) || comp gF (Y * 16 + x) (y_ * 16 + x_)) 256))) w1.heap.size gF) := Aside0.mk (setRow_keepQ (GridAt.below HV.out.2.1 HB5.out) _ (by omega));
                  have HS6 : Aside0 (GridAt (W5.setRow (w1.heap.size + 1) (gc (gso (fun x_ y_ => seen' (y_ * 16 + x_) || comp gF (Y * 16 + x) (y_ * 16 + x_)) 256))) (w1.heap.size + 1) (gso (fun x_ y_ => seen' (y_ * 16 + x_) || comp gF (Y * 16 + x) (y_ * 16 + x_)) 256)) := Aside0.mk (GridAt.setRow (g := seen') HS5.out _);
                  have HK6 := Aside0.mk (setRow_keepQ (blk_below HK.out HB5.out) (gc (gso (fun x_ y_ => seen' (y_ * 16 + x_) || comp gF (Y * 16 + x) (y_ * 16 + x_)) 256)) (show wo.heap.size ≠ w1.heap.size + 1 by omega));
                  have HB6 := Aside0.mk (below_setRow (below_then HV.out.2.2.2 HV.out.2.2.2.size HB5.out) (show w.heap.size ≤ w1.heap.size + 1 from Nat.le_succ_of_le HBW.out) (gc (gso (fun x_ y_ => seen' (y_ * 16 + x_) || comp gF (Y * 16 + x) (y_ * 16 + x_)) 256)));
                  have HL6 := Aside0.mk (show wi.heap.size ≤ (W5.setRow (w1.heap.size + 1) (gc (gso (fun x_ y_ => seen' (y_ * 16 + x_) || comp gF (Y * 16 + x) (y_ * 16 + x_)) 256))).heap.size by rw [setRow_size]; exact HB5.out.size); clear hb5)
              | ((with_reducible refine wpList_store_row rfl 66 (.tmp 4) (.tmp 40) rfl (w1.heap.size + 1) (gc (gso (fun x_ y_ => seen' (y_ * 16 + x_) || comp gF (Y * 16 + x) (y_ * 16 + x_)) 256)) ?hx ?hy 66 (gc seen') HS5.out (HI.out _) (HSZ.out _ _) (HO.out _) ?_); (case hx => rfl); (case hy => rfl))
              | ((with_reducible refine gate_dst (N := 42) rfl ?_); refine wpList_load_row rfl 66 (.tmp 9) rfl W3.heap.size rfl 66 (gc (comp gF (Y * 16 + x))) (0, 0) (.array 16 64) HP6.out underlying66 rfl (HI.out _) ?_)
              | (go_at_call 65; refine (runs_calls (comp gF (Y * 16 + x)) (W5.setRow (w1.heap.size + 1) (gc (gso (fun x_ y_ => seen' (y_ * 16 + x_) || comp gF (Y * 16 + x) (y_ * 16 + x_)) 256)))).mono ?_; rintro e W7 ⟨v7, rfl, hr7, hb7⟩; obtain ⟨A7, c7, hv7, _⟩ := Kd.Q_slice (Kd.Q_of_R hr7); subst hv7;
                  have HV7 := Aside0.mk (Kd.R_lower (Kd.R_mono (Kd.R_bound hr7) (fun k hk => hk.2.1)) HB6.out.size);
                  have HR7 := Aside0.mk (Kd.S_below (Kd.S_mono (Kd.S_bound HR6.out) (fun k hk => (⟨trivial, Nat.not_le.2 hk.2.2.1⟩ : True ∧ ¬ ((W5.setRow (w1.heap.size + 1) (gc (gso (fun x_ y_ => seen' (y_ * 16 + x_) || comp gF (Y * 16 + x) (y_ * 16 + x_)) 256))).heap.size ≤ k)))) hb7); have HG7 := Aside0.mk (GridAt.below HG6.out hb7); have HS7 := Aside0.mk (GridAt.below HS6.out hb7); have HK7 := Aside0.mk (blk_below HK6.out hb7); have HB7 := Aside0.mk (below_then HB6.out HB6.out.size hb7); have HQ7 := Aside0.mk (Kd.S_lt HV.out.1); clear hr7 hb7)
              | ((with_reducible refine gate_builtin (b := .append) (xs := #[.tmp 41, .tmp 44]) rfl ?_); at_builtin; refine Kd.S_append (Kd.slice 57 k57) (w0 := w) w.heap.size rfl (.tmp 41) (.tmp 44) 52 25 (.slice none 0 0) 24 rfl Try.underlying52 info25 rfl (by decide) (by omega) u5 parts' (runsL (comp gF (Y * 16 + x))) [.slice A7 (runsL (comp gF (Y * 16 + x))).length c7] (fun _ => True) (fun k => (W5.setRow (w1.heap.size + 1) (gc (gso (fun x_ y_ => seen' (y_ * 16 + x_) || comp gF (Y * 16 + x) (y_ * 16 + x_)) 256))).heap.size ≤ k) rfl ?aX (Kd.M_row HV7.out) (fun k hk => ⟨trivial, fun e => by have h1 := HQ7.out k e.symm; have h2 := HL6.out; omega⟩) (fun _ _ => trivial) HR7.out HB7.out HB7.out.size ?aL ?_; (case aX => rfl); (case aL => (have hl_ := HU.out.2; omega)); intro v8 W8 ho hb hg hat;
                  have HR8 := Aside0.mk ho; have HB8 := Aside0.mk hb; have HG8 : Aside0 (GridAt W8 w1.heap.size gF) := Aside0.mk (blk_grown HG7.out hg (Kd.S_ne HR7.out HG7.out (by decide))); have HS8 : Aside0 (GridAt W8 (w1.heap.size + 1) (gso (fun x_ y_ => seen' (y_ * 16 + x_) || comp gF (Y * 16 + x) (y_ * 16 + x_)) 256)) := Aside0.mk (blk_grown HS7.out hg (Kd.S_ne HR7.out HS7.out (by decide))); have HK8 := Aside0.mk (blk_grown HK7.out hg (Kd.S_ne HR7.out HK7.out (by decide))); clear ho hb hg hat))
            go_roundw
            case rel => exact ⟨x + 1, (gso (fun x_ y_ => seen' (y_ * 16 + x_) || comp gF (Y * 16 + x) (y_ * 16 + x_)) 256), parts' ++ [runsL (comp gF (Y * 16 + x))], by go_num, by omega, .inl (by omega), ⟨HR8.out, HG8.out, HS8.out, HB8.out⟩, HK8, ⟨HU2.out, by
              have h1 := HUN.out
              have h2 := HU.out.2
              have h3 : unseen (gso (fun x_ y_ => seen' (y_ * 16 + x_) || comp gF (Y * 16 + x) (y_ * 16 + x_)) 256) = unseen (fun q => seen' q || (comp gF (Y * 16 + x)) q) := unseen_congr (fun p hp => by unfold gso; rw [decide_eq_true hp, Bool.true_and]; show (seen' (p / 16 * 16 + p % 16) || comp gF (Y * 16 + x) (p / 16 * 16 + p % 16)) = _; rw [show p / 16 * 16 + p % 16 = p by omega])
              rw [h3, List.length_append, List.length_singleton]
              omega⟩⟩
            case measure => simp [intOf]; omega
        · have hdx : decide ((x : Int) < r.f2) = false := by simpa using hxt
          have HU2 := Aside0.mk (show parts' ++ partsFrom gF (pixels (l0.drop (k + 1))) seen' = partsFrom gF (pixels l0) (fun _ => false) from by
            have h := HU.out.1
            rw [pixRun_end r x hxt, List.nil_append] at h
            exact h)
          go_wp2
          go_roundw
          case rel => exact ⟨k + 1, seen', parts', by go_num, by omega, HV, ⟨HU2.out, HU.out.2⟩⟩
          case measure => simp [intOf]; omega
    · have hdk : decide ((k : Int) < (l0.length : Int)) = false := by simp; omega
      have hkl : k = l0.length := by omega
      subst hkl
      have HE := Aside0.mk (show parts = partsFrom gF (pixels l0) (fun _ => false) from by
        have h := HT.out.1
        rw [List.drop_length] at h
        simpa [pixels, partsFrom] using h)
      go_wp2
      go_ret
      exact ⟨_, rfl, by rw [← HE.out]; exact HW.out.1, HW.out.2.2.2⟩
end Go.Proofs.Ytfgeickfheogoaa.Q

/- Copies of runs: they are the runs. -/
namespace Go.Proofs.Ytfgeickfheogoaa.Pure
open Go.RowKit Go.Proofs.Ytfgeickfheogoaa.Q Go.Proofs.YtfgeickfheogoaaW.PrintWords Go.Proofs.YtfgeickfheogoaaW.PrintLast Go.Proofs.YtfgeickfheogoaaW.PrintMore
set_option linter.unusedVariables false
set_option linter.unusedSimpArgs false

abbrev LRun := S59
theorem rdLRun (l : List LRun) (i : Nat) (h : i < l.length) : rd_T59 l (i : Int) = l[i] := by simp [rd_T59, h]
/-! copies -/
def cRun (r : LRun) : Run := ⟨r.f0, r.f1, r.f2⟩
theorem toRunS_eq (l : List LRun) (hl : l.length ≤ 2000000) (k : Nat) (hk : l.length < k) : laws_toRunS.f k l = some (l.map cRun) := by
  have h := loop_up 0 l.length (fun k i s => laws_toRunS.l0 k l s (i : Int)) (fun i s => s.length = l.length) (fun i s => s.take i ++ (l.drop i).map cRun)
    (by
      intro i s k hi hs _
      refine .inr ⟨s.set i (cRun l[i]), ?_, by simpa using hs, ?_⟩
      · simp only [laws_toRunS.l0]
        rw [if_pos (by omega), if_pos (by omega), rdLRun l i hi]
        simp only [laws_toRun.f, Option.bind_some]
        rw [if_pos (by omega), w64n i (by omega)]; rfl
      · skip
        rw [take_set s i _ (by omega), List.drop_eq_getElem_cons hi, List.map_cons, List.append_assoc]; rfl)
    (by
      intro s k hs _
      simp only [laws_toRunS.l0]
      rw [if_neg (by omega), List.drop_length]; simp [← hs])
    l.length 0 (List.replicate l.length z57) k (by omega) (by simp) (by omega)
  unfold laws_toRunS.f
  rw [if_pos (by omega), if_pos (by omega)]
  simpa using h
theorem eqRunS_refl (l : List Run) (hl : l.length ≤ 1000000000000) (k : Nat) (hk : l.length < k) : laws_eqRunS.f k l l = some true := by
  have h := loop_up 0 l.length (fun k i (_ : Unit) => laws_eqRunS.l0 k l l (i : Int)) (fun _ _ => True) (fun _ _ => true)
    (by
      intro i s k hi _ _
      refine .inr ⟨(), ?_, trivial, rfl⟩
      simp only [laws_eqRunS.l0]
      rw [if_pos (by omega), if_pos (by omega), if_pos (by omega), w64n i (by omega)]
      simp [laws_eqRun.f])
    (by
      intro s k _ _
      simp only [laws_eqRunS.l0]
      rw [if_neg (by omega)])
    l.length 0 () k (by omega) trivial (by omega)
  unfold laws_eqRunS.f
  rw [if_pos rfl]
  simpa using h
theorem szRunS_eq (l : List LRun) (n : Int) (h0 : 0 ≤ n) (h1 : n ≤ 1048576) (hl : l.length ≤ 9223372036854775807) :
    (l.length ≤ 1048576 ∧ n - (l.length : Int) ≥ 0 ∧ laws_szRunS.f l n = some (n - (l.length : Int))) ∨ laws_szRunS.f l n = some (-1) := by
  unfold laws_szRunS.f
  by_cases c : (l.length : Int) ≤ n
  · left
    rw [w64 (by omega) (by omega), if_neg (by omega)]
    exact ⟨by omega, by omega, rfl⟩
  · right
    rw [w64 (by omega) (by omega), if_pos (by omega)]
end Go.Proofs.Ytfgeickfheogoaa.Pure

/- impl.PartsOf: the connected parts of a region. -/
namespace Go.Proofs.Ytfgeickfheogoaa.Q
open Go.RowKit Go.Proofs.YtfgeickfheogoaaW.PrintWords Go.Proofs.YtfgeickfheogoaaW.PrintLast Go.Proofs.YtfgeickfheogoaaW.PrintMore
attribute [local go_sem] max2_int min2_int max_two min_two max_three min_three max_four min_four
set_option linter.unusedVariables false
set_option linter.unusedSimpArgs false
open Go.Proofs.Ytfgeickfheogoaa.Pure

noncomputable def impl_PartsOf.f (l0 : List S57) : Option (List (List S57)) := some (if validR l0 = true then partsFrom (gridF l0) (pixels l0) (fun _ => false) else [])

set_option maxHeartbeats 1000000 in
set_option maxRecDepth 100000 in
theorem impl_PartsOf.calls (A0 : Option Addr) (c0 : Nat) (l0 : List S57) (r : List (List S57)) (w : World) (hr0 : Kd.C k57 w A0 l0.length l0) (hc0 : l0.length ≤ c0) (h : impl_PartsOf.f l0 = some r) :
    Calls Try.prog 49 #[.slice A0 l0.length c0] w fun e w' => ∃ v0_ : Value, e = .returned (v0_) ∧ Kd.S (Kd.slice 57 k57) 25 w' w.heap.size (fun _ => True) v0_ r ∧ Below w.heap.size w w' := by
  obtain rfl := Option.some.inj h
  clear h
  have HC := Aside0.mk (impl_isRegion.calls (2 * l0.length + 2) A0 c0 l0 (validR l0) w hr0 hc0 (impl_isRegion_eq l0 hr0.2.1 _ (by omega)))
  have HR := Aside0.mk hr0
  clear hr0
  by_cases hv : validR l0 = true
  · rw [if_pos hv]
    have HV := Aside0.mk (valid_ranges hv)
    rw [hv] at HC
    clear hv
    go_enter Try.func49, Try.ntmps49
    go_wp2_with (first
      | (go_at_call 55; refine HC.out.mono ?_; rintro e w1 ⟨rfl, hb1⟩; have HB1 := Aside0.mk hb1; clear hb1)
      | (go_at_call 82; refine (partsOf_calls _ _ _ _ (Kd.C_below HR.out HB1.out) HV.out).mono ?_; rintro e w4 ⟨v4, rfl, hr4, hb4⟩; have HR4 := Aside0.mk (Kd.S_lower hr4 HB1.out.size); have HB4 := Aside0.mk (below_then HB1.out HB1.out.size hb4); clear hb4 hr4))
    go_ret
    exact ⟨v4, rfl, HR4.out, HB4.out⟩
  · replace hv : validR l0 = false := by simpa using hv
    rw [if_neg (by simp [hv])]
    rw [hv] at HC
    clear hv
    go_enter Try.func49, Try.ntmps49
    go_wp2_with (first
      | (go_at_call 55; refine HC.out.mono ?_; rintro e w1 ⟨rfl, hb1⟩; have HB1 := Aside0.mk hb1; clear hb1))
    go_ret
    exact ⟨_, rfl, Kd.S_nil _ _ _ _ _, HB1.out⟩
end Go.Proofs.Ytfgeickfheogoaa.Q

/- The law FnExactPartsOf: its walk. -/
namespace Go.Proofs.Ytfgeickfheogoaa.Q
open Go.RowKit Go.Proofs.YtfgeickfheogoaaW.PrintWords Go.Proofs.YtfgeickfheogoaaW.PrintLast Go.Proofs.YtfgeickfheogoaaW.PrintMore
attribute [local go_sem] max2_int min2_int max_two min_two max_three min_three max_four min_four
set_option linter.unusedVariables false
set_option linter.unusedSimpArgs false

def laws_FnExactPartsOf.Goes (k : Nat) (l0 : List S59) : Prop := (∃ s0 : Int, laws_szRunS.f l0 1048576 = some s0 ∧ s0 < 0) ∨ (∃ (s0 : Int) (x : List S57) (v : List (List S57)) (k1 : Int) (y : List S57) (m : Int) (u : List (List S57)), laws_szRunS.f l0 1048576 = some s0 ∧ ¬ s0 < 0 ∧ laws_toRunS.f k l0 = some x ∧ spec_PartsOf.f k x = some v ∧ impl_PartsOf.f x = some v ∧ laws_eqRunSS.f k v v = some true ∧ laws_eqRunS.f k x x = some true ∧ laws_markRunS.f k x 1 = some (k1, y) ∧ ¬ k1 < 0 ∧ laws_markRunSS.f k v 1 = some (m, u) ∧ laws_heldRunSS.f k u 1 = some m ∧ ¬ m < 0)
noncomputable def laws_FnExactPartsOf.f (k : Nat) (l0 : List S59) : Option Bool := @ite _ (laws_FnExactPartsOf.Goes k l0) (Classical.propDecidable _) (some true) none
theorem laws_FnExactPartsOf.f_of {k : Nat} {l0 : List S59} (h : laws_FnExactPartsOf.Goes k l0) : laws_FnExactPartsOf.f k l0 = some true := by unfold laws_FnExactPartsOf.f; rw [if_pos h]
set_option maxHeartbeats 8000000 in
set_option maxRecDepth 100000 in
theorem laws_FnExactPartsOf.big0 (k : Nat) (A0 : Option Addr) (c0 : Nat) (l0 : List S59) (w : World) (hr0 : Kd.C k59 w A0 l0.length l0) (hc0 : l0.length ≤ c0) (s0 : Int) (hs0 : laws_szRunS.f l0 1048576 = some s0) (hn0 : s0 < 0) : Calls Try.prog 16 #[.slice A0 l0.length c0] w fun e w' => e = .returned (.bool true) ∧ Below w.heap.size w w' := by
  have HC0 := Aside0.mk hc0
  have HR0 := Aside0.mk hr0
  have HB := Aside0.mk (Below.refl w.heap.size w)
  clear hc0 hr0
  have HS := Aside0.mk hs0
  have dn : decide (s0 < 0) = true := decide_eq_true hn0
  clear hs0 hn0
  go_enter Try.func16, Try.ntmps16
  go_wp2_with (first
    | (go_at_call 17; (with_reducible refine (laws_szRunS.calls A0 c0 l0 1048576 s0 w (Kd.C_below HR0.out HB.out) HC0.out HS.out).mono ?_); rintro e w1 ⟨rfl, hb⟩; replace hb := hb.below; replace HB := Aside0.mk (below_then HB.out HB.out.size hb); have Zw1 := Aside0.mk hb.size; clear hb))
  go_ret
  exact ⟨rfl, HB.out⟩
set_option maxHeartbeats 8000000 in
set_option maxRecDepth 100000 in
theorem laws_FnExactPartsOf.way (k : Nat) (A0 : Option Addr) (c0 : Nat) (l0 : List S59) (w : World) (hr0 : Kd.C k59 w A0 l0.length l0) (hc0 : l0.length ≤ c0) (s0 : Int) (x : List S57) (v : List (List S57)) (k1 : Int) (y : List S57) (m : Int) (u : List (List S57)) (HS : laws_szRunS.f l0 1048576 = some s0) (HN : ¬ s0 < 0) (HT : laws_toRunS.f k l0 = some x) (HSP : spec_PartsOf.f k x = some v) (HIM : impl_PartsOf.f x = some v) (HEV : laws_eqRunSS.f k v v = some true) (HE : laws_eqRunS.f k x x = some true) (HM0 : laws_markRunS.f k x 1 = some (k1, y)) (HKN : ¬ k1 < 0) (HMR : laws_markRunSS.f k v 1 = some (m, u)) (HHR : laws_heldRunSS.f k u 1 = some m) (HMN : ¬ m < 0) : Calls Try.prog 16 #[.slice A0 l0.length c0] w fun e w' => e = .returned (.bool true) ∧ Below w.heap.size w w' := by
  have HC0 := Aside0.mk hc0
  have HR0 := Aside0.mk hr0
  have HB := Aside0.mk (Below.refl w.heap.size w)
  clear hc0 hr0
  replace HS := Aside0.mk HS
  replace HN := Aside0.mk HN
  replace HT := Aside0.mk HT
  replace HSP := Aside0.mk HSP
  replace HIM := Aside0.mk HIM
  replace HEV := Aside0.mk HEV
  replace HE := Aside0.mk HE
  replace HM0 := Aside0.mk HM0
  replace HKN := Aside0.mk HKN
  replace HMR := Aside0.mk HMR
  replace HHR := Aside0.mk HHR
  replace HMN := Aside0.mk HMN
  have dn : decide (s0 < 0) = false := decide_eq_false HN.out
  have dk : decide (k1 < 0) = false := decide_eq_false HKN.out
  have dm : decide (m < 0) = false := decide_eq_false HMN.out
  go_enter Try.func16, Try.ntmps16
  go_wp2_with (first
    | (go_at_call 17; (with_reducible refine (laws_szRunS.calls A0 c0 l0 1048576 s0 w (Kd.C_below HR0.out HB.out) HC0.out HS.out).mono ?_); rintro e w1 ⟨rfl, hb⟩; replace hb := hb.below; replace HB := Aside0.mk (below_then HB.out HB.out.size hb); have Zw1 := Aside0.mk hb.size; clear hb)
    | (go_at_call 19; (with_reducible refine (laws_toRunS.calls k A0 c0 l0 x w1 (Kd.C_below HR0.out HB.out) HC0.out HT.out).mono ?_); rintro e w2 ⟨vt_, rfl, hr, hb⟩; obtain ⟨At1, ct1, rfl, hl_, hC_⟩ := Kd.R_reads hr; replace HB := Aside0.mk (below_then HB.out HB.out.size hb); have Zw2 := Aside0.mk hb.size; have HT_1 := Aside0.mk hC_; have HL_1 := Aside0.mk hl_; clear hr hb hl_ hC_)
    | (go_at_call 48; (with_reducible refine (spec_PartsOf.calls k At1 ct1 x v w2 HT_1.out HL_1.out HSP.out).mono ?_); rintro e w3 ⟨v_, rfl, hr, hb⟩; obtain ⟨Aw, cw, ev_⟩ := Kd.S_slice hr; subst ev_; have Rw := Aside0.mk (Kd.S_lower (Kd.S_mono (Kd.S_bound hr) (fun k_ hk_ => (⟨hk_.2.1, hk_.2.2.1⟩ : w2.heap.size ≤ k_ ∧ k_ < w3.heap.size))) HB.out.size); replace HB := Aside0.mk (below_then HB.out HB.out.size hb); have Zw3 := Aside0.mk hb.size; clear hr hb HT_1 HL_1)
    | (go_at_call 19; (with_reducible refine (laws_toRunS.calls k A0 c0 l0 x w3 (Kd.C_below HR0.out HB.out) HC0.out HT.out).mono ?_); rintro e w4 ⟨v_, rfl, hr, hb⟩; obtain ⟨Ax, cx, ev_⟩ := Kd.R_slice hr; subst ev_; have Rx := Aside0.mk (Kd.R_lower (Kd.R_mono (Kd.R_bound hr) (fun k_ hk_ => (⟨hk_.2.1, hk_.2.2.1⟩ : w3.heap.size ≤ k_ ∧ k_ < w4.heap.size))) HB.out.size); replace Rw := Aside0.mk (Kd.S_below Rw.out hb); replace HB := Aside0.mk (below_then HB.out HB.out.size hb); have Zw4 := Aside0.mk hb.size; clear hr hb)
    | (go_at_call 49; (with_reducible refine (impl_PartsOf.calls Ax cx x v w4 (Kd.R_reads' Rx.out).2.2 (Kd.R_reads' Rx.out).2.1 HIM.out).mono ?_); rintro e w5 ⟨v_, rfl, hr, hb⟩; obtain ⟨Ag, cg, ev_⟩ := Kd.S_slice hr; subst ev_; have Rg := Aside0.mk (Kd.S_lower (Kd.S_mono (Kd.S_bound hr) (fun k_ hk_ => (⟨hk_.2.1, hk_.2.2.1⟩ : w4.heap.size ≤ k_ ∧ k_ < w5.heap.size))) HB.out.size); replace Rw := Aside0.mk (Kd.S_below Rw.out hb); replace Rx := Aside0.mk (Kd.R_below Rx.out hb); replace HB := Aside0.mk (below_then HB.out HB.out.size hb); have Zw5 := Aside0.mk hb.size; clear hr hb)
    | (go_at_call 50; (with_reducible refine (laws_eqRunSS.calls k Ag cg v Aw cw v true w5 (Kd.S_reads' Rg.out).2.2 (Kd.S_reads' Rg.out).2.1 (Kd.S_reads' Rw.out).2.2 (Kd.S_reads' Rw.out).2.1 HEV.out).mono ?_); rintro e w6 ⟨rfl, hb⟩; replace Rw := Aside0.mk (Kd.S_below Rw.out hb); replace Rx := Aside0.mk (Kd.R_below Rx.out hb); replace Rg := Aside0.mk (Kd.S_below Rg.out hb); replace HB := Aside0.mk (below_then HB.out HB.out.size hb); have Zw6 := Aside0.mk hb.size; clear hb)
    | (go_at_call 19; (with_reducible refine (laws_toRunS.calls k A0 c0 l0 x w6 (Kd.C_below HR0.out HB.out) HC0.out HT.out).mono ?_); rintro e w7 ⟨vt_, rfl, hr, hb⟩; obtain ⟨At2, ct2, rfl, hl_, hC_⟩ := Kd.R_reads hr; replace Rw := Aside0.mk (Kd.S_below Rw.out hb); replace Rx := Aside0.mk (Kd.R_below Rx.out hb); replace Rg := Aside0.mk (Kd.S_below Rg.out hb); replace HB := Aside0.mk (below_then HB.out HB.out.size hb); have Zw7 := Aside0.mk hb.size; have HT_2 := Aside0.mk hC_; have HL_2 := Aside0.mk hl_; clear hr hb hl_ hC_)
    | (go_at_call 21; (with_reducible refine (laws_eqRunS.calls k Ax cx x At2 ct2 x true w7 (Kd.R_reads' Rx.out).2.2 (Kd.R_reads' Rx.out).2.1 HT_2.out HL_2.out HE.out).mono ?_); rintro e w8 ⟨rfl, hb⟩; replace Rw := Aside0.mk (Kd.S_below Rw.out hb); replace Rx := Aside0.mk (Kd.R_below Rx.out hb); replace Rg := Aside0.mk (Kd.S_below Rg.out hb); replace HB := Aside0.mk (below_then HB.out HB.out.size hb); have Zw8 := Aside0.mk hb.size; clear hb HT_2 HL_2)
    | (go_at_call 29; (with_reducible refine (laws_markRunS.calls k (fun k_ => w3.heap.size ≤ k_ ∧ k_ < w4.heap.size) (.slice Ax x.length cx) x 1 k1 y w w8 HB.out Rx.out HM0.out).mono ?_); rintro e w9 ⟨rfl, hr, hb, hK⟩; replace Rw := Aside0.mk (Kd.S_kept Rw.out hK (by rintro k_ ⟨h1_, h2_⟩ ⟨h3_, h4_⟩; have z_Zw1 := Zw1.out; have z_Zw2 := Zw2.out; have z_Zw3 := Zw3.out; have z_Zw4 := Zw4.out; have z_Zw5 := Zw5.out; have z_Zw6 := Zw6.out; have z_Zw7 := Zw7.out; have z_Zw8 := Zw8.out; omega)); replace Rg := Aside0.mk (Kd.S_kept Rg.out hK (by rintro k_ ⟨h1_, h2_⟩ ⟨h3_, h4_⟩; have z_Zw1 := Zw1.out; have z_Zw2 := Zw2.out; have z_Zw3 := Zw3.out; have z_Zw4 := Zw4.out; have z_Zw5 := Zw5.out; have z_Zw6 := Zw6.out; have z_Zw7 := Zw7.out; have z_Zw8 := Zw8.out; omega)); replace HB := Aside0.mk hb; replace Rx := Aside0.mk hr; have Zw9 := Aside0.mk hK.1; clear hr hb hK; clear Rx)
    | (go_at_call 50; (with_reducible refine (laws_eqRunSS.calls k Ag cg v Aw cw v true w9 (Kd.S_reads' Rg.out).2.2 (Kd.S_reads' Rg.out).2.1 (Kd.S_reads' Rw.out).2.2 (Kd.S_reads' Rw.out).2.1 HEV.out).mono ?_); rintro e w10 ⟨rfl, hb⟩; replace Rw := Aside0.mk (Kd.S_below Rw.out hb); replace Rg := Aside0.mk (Kd.S_below Rg.out hb); replace HB := Aside0.mk (below_then HB.out HB.out.size hb); have Zw10 := Aside0.mk hb.size; clear hb)
    | (go_at_call 51; (with_reducible refine (laws_markRunSS.calls k (fun k_ => w4.heap.size ≤ k_ ∧ k_ < w5.heap.size) (.slice Ag v.length cg) v 1 m u w w10 HB.out Rg.out HMR.out).mono ?_); rintro e w11 ⟨rfl, hr, hb, hK⟩; replace Rw := Aside0.mk (Kd.S_kept Rw.out hK (by rintro k_ ⟨h1_, h2_⟩ ⟨h3_, h4_⟩; have z_Zw1 := Zw1.out; have z_Zw2 := Zw2.out; have z_Zw3 := Zw3.out; have z_Zw4 := Zw4.out; have z_Zw5 := Zw5.out; have z_Zw6 := Zw6.out; have z_Zw7 := Zw7.out; have z_Zw8 := Zw8.out; have z_Zw9 := Zw9.out; have z_Zw10 := Zw10.out; omega)); replace HB := Aside0.mk hb; replace Rg := Aside0.mk hr; have Zw11 := Aside0.mk hK.1; clear hr hb hK; have eu := Aside0.mk (Kd.S_reads' Rg.out).1)
    | (go_at_call 52; (with_reducible refine (show Calls Try.prog 52 #[.slice Ag v.length cg, .int .i64 1] w11 (fun e w' => e = .returned (.int .i64 m) ∧ Drawn0 w11 w') from (by rw [eu.out]; exact laws_heldRunSS.calls k Ag cg u 1 m w11 (Kd.S_reads' Rg.out).2.2 (by rw [← eu.out]; exact (Kd.S_reads' Rg.out).2.1) HHR.out)).mono ?_); rintro e w12 ⟨rfl, hb⟩; replace hb := hb.below; replace Rw := Aside0.mk (Kd.S_below Rw.out hb); replace Rg := Aside0.mk (Kd.S_below Rg.out hb); replace HB := Aside0.mk (below_then HB.out HB.out.size hb); have Zw12 := Aside0.mk hb.size; clear hb)
    | (go_at_call 19; (with_reducible refine (laws_toRunS.calls k A0 c0 l0 x w12 (Kd.C_below HR0.out HB.out) HC0.out HT.out).mono ?_); rintro e w13 ⟨vt_, rfl, hr, hb⟩; obtain ⟨At3, ct3, rfl, hl_, hC_⟩ := Kd.R_reads hr; replace Rw := Aside0.mk (Kd.S_below Rw.out hb); replace Rg := Aside0.mk (Kd.S_below Rg.out hb); replace HB := Aside0.mk (below_then HB.out HB.out.size hb); have Zw13 := Aside0.mk hb.size; have HT_3 := Aside0.mk hC_; have HL_3 := Aside0.mk hl_; clear hr hb hl_ hC_)
    | (go_at_call 49; (with_reducible refine (impl_PartsOf.calls At3 ct3 x v w13 HT_3.out HL_3.out HIM.out).mono ?_); rintro e w14 ⟨v_, rfl, hr, hb⟩; obtain ⟨Ah, ch, ev_⟩ := Kd.S_slice hr; subst ev_; have Rh := Aside0.mk (Kd.S_lower (Kd.S_mono (Kd.S_bound hr) (fun k_ hk_ => (⟨hk_.2.1, hk_.2.2.1⟩ : w13.heap.size ≤ k_ ∧ k_ < w14.heap.size))) HB.out.size); replace Rw := Aside0.mk (Kd.S_below Rw.out hb); replace Rg := Aside0.mk (Kd.S_below Rg.out hb); replace HB := Aside0.mk (below_then HB.out HB.out.size hb); have Zw14 := Aside0.mk hb.size; clear hr hb HT_3 HL_3)
    | (go_at_call 50; (with_reducible refine (laws_eqRunSS.calls k Ah ch v Aw cw v true w14 (Kd.S_reads' Rh.out).2.2 (Kd.S_reads' Rh.out).2.1 (Kd.S_reads' Rw.out).2.2 (Kd.S_reads' Rw.out).2.1 HEV.out).mono ?_); rintro e w15 ⟨rfl, hb⟩; replace Rw := Aside0.mk (Kd.S_below Rw.out hb); replace Rg := Aside0.mk (Kd.S_below Rg.out hb); replace Rh := Aside0.mk (Kd.S_below Rh.out hb); replace HB := Aside0.mk (below_then HB.out HB.out.size hb); have Zw15 := Aside0.mk hb.size; clear hb)
    | (go_at_call 52; (with_reducible refine (show Calls Try.prog 52 #[.slice Ag v.length cg, .int .i64 1] w15 (fun e w' => e = .returned (.int .i64 m) ∧ Drawn0 w15 w') from (by rw [eu.out]; exact laws_heldRunSS.calls k Ag cg u 1 m w15 (Kd.S_reads' Rg.out).2.2 (by rw [← eu.out]; exact (Kd.S_reads' Rg.out).2.1) HHR.out)).mono ?_); rintro e w16 ⟨rfl, hb⟩; replace hb := hb.below; replace Rw := Aside0.mk (Kd.S_below Rw.out hb); replace Rg := Aside0.mk (Kd.S_below Rg.out hb); replace Rh := Aside0.mk (Kd.S_below Rh.out hb); replace HB := Aside0.mk (below_then HB.out HB.out.size hb); have Zw16 := Aside0.mk hb.size; clear hb))
  go_ret
  exact ⟨rfl, HB.out⟩
theorem laws_FnExactPartsOf.calls (k : Nat) (A0 : Option Addr) (c0 : Nat) (l0 : List S59) (r : Bool) (w : World) (hr0 : Kd.C k59 w A0 l0.length l0) (hc0 : l0.length ≤ c0) (h : laws_FnExactPartsOf.f k l0 = some r) : Calls Try.prog 16 #[.slice A0 l0.length c0] w fun e w' => e = .returned (.bool r) ∧ Below w.heap.size w w' := by
  unfold laws_FnExactPartsOf.f at h
  by_cases hg : laws_FnExactPartsOf.Goes k l0
  · rw [if_pos hg] at h
    obtain rfl : true = r := Option.some.inj h
    clear h
    unfold laws_FnExactPartsOf.Goes at hg
    rcases hg with ⟨s0, hs0, hn0⟩ | ⟨s0, x, v, k1, y, m, u, HS, HN, HT, HSP, HIM, HEV, HE, HM0, HKN, HMR, HHR, HMN⟩
    · exact laws_FnExactPartsOf.big0 k A0 c0 l0 w hr0 hc0 s0 hs0 hn0
    · exact laws_FnExactPartsOf.way k A0 c0 l0 w hr0 hc0 s0 x v k1 y m u HS HN HT HSP HIM HEV HE HM0 HKN HMR HHR HMN
  · rw [if_neg hg] at h; cases h
end Go.Proofs.Ytfgeickfheogoaa.Q

/- What an argument's reading as data tells: numbers, bools, slices and structs of them, by their kinds. -/
namespace Go.Proofs.Ytfgeickfheogoaa.Q
open Go.RowKit Go.Proofs.YtfgeickfheogoaaW.PrintWords Go.Proofs.YtfgeickfheogoaaW.PrintLast Go.Proofs.YtfgeickfheogoaaW.PrintMore
attribute [local go_sem] max2_int min2_int max_two min_two max_three min_three max_four min_four
set_option linter.unusedVariables false
set_option linter.unusedSimpArgs false
open Go.ChangeShapes Go.WideShapes Go.Deep

/-- A number of 64 bits. -/
def I64 (n : Int) : Prop := -9223372036854775808 ≤ n ∧ n ≤ 9223372036854775807
theorem i64_of (n : Int) (h : (Lit.int .i64 n).wf = true) : I64 n := by
  simp only [Lit.wf, Bool.and_eq_true, decide_eq_true_eq] at h
  have e1 : IntKind.min .i64 = -9223372036854775808 := by decide
  have e2 : IntKind.max .i64 = 9223372036854775807 := by decide
  unfold I64
  omega
/-- Whatever reads at type t as data is a y of this kind, of which Q holds. -/
def Opens {α : Type} (P : Program) (t : TypeId) (d : Kd α) (Q : α → Prop) : Prop :=
  ∀ (H : Type) (enc : TypeId × Value → H) (w : World) (fuel : Nat) (cs : List Value) (x : DataW H × List MemPlace),
    DataW.trod enc P w 0 (fun _ => true) true fuel t cs = some x → ∃ y : α, d.K w y cs ∧ Q y
section
variable {P : Program} {t : TypeId} {α β : Type}
theorem opens_i64 (ht : P.underlying t = some (.int .i64)) : Opens P t (Kd.int .i64) I64 := by
  intro H enc w fuel cs x h
  obtain ⟨n, rfl, _, hw⟩ := DataW.trod_int ht h
  exact ⟨n, rfl, i64_of n hw⟩
theorem opens_bool (ht : P.underlying t = some .bool) : Opens P t Kd.bool (fun _ => True) := by
  intro H enc w fuel cs x h
  obtain ⟨b, rfl, _⟩ := DataW.trod_bool ht h
  exact ⟨b, rfl, trivial⟩
theorem opens_sliceB {e : TypeId} {d : Kd α} {Q : α → Prop} (ht : P.underlying t = some (.slice e)) (hc : P.cellsOf e = d.sz) (ho : Opens P e d Q) :
    Opens P t (Kd.slice e d) (fun l => (∀ x ∈ l, Q x) ∧ l.length ≤ 9223372036854775807) := by
  intro H enc w fuel cs x h
  rcases open_slice ht h with ⟨rfl, _⟩ | ⟨a, len, cap, m, n, D, Pl, rfl, _, hl, hm, hmm, _, hi⟩
  · exact ⟨[], ⟨none, 0, rfl, Nat.le_refl _, rfl, by simp, fun h0 => absurd h0 (by simp)⟩, ⟨fun x hx => absurd hx (by simp), by simp⟩⟩
  · have hmc : m = cap := by simpa using hmm
    subst hmc
    have each : ∀ i, i < len → ∃ y : α, (∃ c, c.length = d.sz ∧ d.K w y c ∧ ∀ j u, c[j]? = some u → w.cell? (a.add (i * d.sz + j)) = some u) ∧ Q y := by
      intro i hil
      obtain ⟨cs', hcs, htr⟩ := hi i (by omega)
      rw [hc] at hcs
      obtain ⟨_, hcl, hat⟩ := World.cells?_some hcs
      obtain ⟨y, hK, hQ⟩ := ho H enc w n cs' _ htr
      refine ⟨y, ⟨cs', hcl, hK, fun j u hu => ?_⟩, hQ⟩
      have hj : j < d.sz := by rw [← hcl]; exact (List.getElem?_eq_some_iff.1 hu).1
      rw [← Go.Deep.add_add, hat j hj, hu]
    have hY : ∃ ys : List α, ys.length = len ∧ ∀ i, i < len → ∃ y, ys[i]? = some y ∧ (∃ c, c.length = d.sz ∧ d.K w y c ∧ ∀ j u, c[j]? = some u → w.cell? (a.add (i * d.sz + j)) = some u) ∧ Q y := by
      have key : ∀ q, q ≤ len → ∃ ys : List α, ys.length = q ∧ ∀ i, i < q → ∃ y, ys[i]? = some y ∧ (∃ c, c.length = d.sz ∧ d.K w y c ∧ ∀ j u, c[j]? = some u → w.cell? (a.add (i * d.sz + j)) = some u) ∧ Q y := by
        intro q
        induction q with
        | zero => intro _; exact ⟨[], rfl, fun i hi' => absurd hi' (by omega)⟩
        | succ q ih =>
          intro hq
          obtain ⟨ys, hyl, hys⟩ := ih (by omega)
          obtain ⟨y, hy⟩ := each q (by omega)
          refine ⟨ys ++ [y], by simp [hyl], fun i hi' => ?_⟩
          by_cases e : i = q
          · subst e
            exact ⟨y, by rw [List.getElem?_append_right (by omega)]; simp [hyl], hy⟩
          · obtain ⟨z, hz, hz2⟩ := hys i (by omega)
            exact ⟨z, by rw [List.getElem?_append_left (by omega)]; exact hz, hz2⟩
      exact key len (Nat.le_refl _)
    obtain ⟨ys, hyl, hys⟩ := hY
    refine ⟨ys, ⟨some a, m, by rw [hyl], by omega, rfl, by rw [hyl]; simp only [maxLen] at hm; omega, fun _ => ⟨a, rfl, fun j p hj => ?_⟩⟩, ⟨fun x hx => ?_, by rw [hyl]; simp only [maxLen] at hm; omega⟩⟩
    · have hjl : j < len := by rw [← hyl]; exact (List.getElem?_eq_some_iff.1 hj).1
      obtain ⟨y, hy, hc2, _⟩ := hys j hjl
      rw [hy] at hj
      obtain rfl := Option.some.inj hj
      exact hc2
    · obtain ⟨j, hj, rfl⟩ := List.getElem_of_mem hx
      obtain ⟨y, hy, _, hq⟩ := hys j (by omega)
      rw [List.getElem?_eq_getElem hj] at hy
      obtain rfl := Option.some.inj hy
      exact hq
theorem opens_slice {e : TypeId} {d : Kd α} {Q : α → Prop} (ht : P.underlying t = some (.slice e)) (hc : P.cellsOf e = d.sz) (ho : Opens P e d Q) :
    Opens P t (Kd.slice e d) (fun l => ∀ x ∈ l, Q x) := by
  intro H enc w fuel cs x h
  obtain ⟨y, h1, h2, _⟩ := opens_sliceB ht hc ho H enc w fuel cs x h
  exact ⟨y, h1, h2⟩
/-- Fields in line, from the cell 'off' on. -/
def OpensF (P : Program) (fs : List Field) (off : Nat) (d : Kd α) (Q : α → Prop) : Prop :=
  ∀ (H : Type) (enc : TypeId × Value → H) (w : World) (n : Nat) (cs : List Value), cs.length = off + d.sz →
    (∀ f ∈ fs, ∃ x, DataW.trod enc P w 0 (fun _ => true) true n f.type ((cs.drop f.offset).take (P.cellsOf f.type)) = some x) → ∃ y : α, d.K w y (cs.drop off) ∧ Q y
theorem opensF_one {f : Field} {off : Nat} {d : Kd α} {Q : α → Prop} (ho : f.offset = off) (hc : P.cellsOf f.type = d.sz) (h : Opens P f.type d Q) : OpensF P [f] off d Q := by
  intro H enc w n cs hl hf
  obtain ⟨x, hx⟩ := hf f (by simp)
  rw [ho, hc, List.take_of_length_le (by rw [List.length_drop]; omega)] at hx
  exact h H enc w n _ _ hx
theorem opensF_cons {f : Field} {fs : List Field} {off : Nat} {d : Kd α} {Q : α → Prop} {d' : Kd β} {Q' : β → Prop} (ho : f.offset = off) (hc : P.cellsOf f.type = d.sz) (h : Opens P f.type d Q) (h' : OpensF P fs (off + d.sz) d' Q') :
    OpensF P (f :: fs) off (Kd.pair d d') (fun p => Q p.1 ∧ Q' p.2) := by
  intro H enc w n cs hl hf
  have hl' : cs.length = off + (d.sz + d'.sz) := hl
  obtain ⟨x, hx⟩ := hf f (by simp)
  rw [ho, hc] at hx
  obtain ⟨y, hK, hQ⟩ := h H enc w n _ _ hx
  obtain ⟨y', hK', hQ'⟩ := h' H enc w n cs (by omega) (fun g hg => hf g (by simp [hg]))
  refine ⟨(y, y'), ⟨(cs.drop off).take d.sz, cs.drop (off + d.sz), ?_, hK, hK'⟩, hQ, hQ'⟩
  rw [← List.drop_drop, List.take_append_drop]
theorem opens_struct {fs : Array Field} {d : Kd α} {Q : α → Prop} (ht : P.underlying t = some (.struct fs)) (hc : P.cellsOf t = d.sz) (h : OpensF P fs.toList 0 d Q) : Opens P t d Q := by
  intro H enc w fuel cs x hx
  obtain ⟨xs, n, _, _, hcl, hxl, hg⟩ := DataW.trod_struct ht hx
  obtain ⟨y, hK, hQ⟩ := h H enc w n cs (by omega) (fun f hf => by
    obtain ⟨i, hi, rfl⟩ := List.getElem_of_mem hf
    have hi' : i < fs.size := by simpa using hi
    have h1 := hg i (fs.toList[i]) (by simp [hi'])
    rw [List.getElem?_eq_getElem (by omega)] at h1
    exact ⟨_, h1⟩)
  exact ⟨y, by simpa using hK, hQ⟩
theorem opens_iso {d : Kd α} {Q : α → Prop} (f : β → α) (g : α → β) (hfg : ∀ a, f (g a) = a) (h : Opens P t d Q) : Opens P t (Kd.iso d f) (fun b => Q (f b)) := by
  intro H enc w fuel cs x hx
  obtain ⟨y, hK, hQ⟩ := h H enc w fuel cs x hx
  refine ⟨g y, ?_, ?_⟩
  · show d.K w (f (g y)) cs
    rw [hfg]; exact hK
  · show Q (f (g y))
    rw [hfg]; exact hQ
end
end Go.Proofs.Ytfgeickfheogoaa.Q

/- What is known of structs that came in. -/
namespace Go.Proofs.Ytfgeickfheogoaa.Q
open Go.RowKit Go.Proofs.YtfgeickfheogoaaW.PrintWords Go.Proofs.YtfgeickfheogoaaW.PrintLast Go.Proofs.YtfgeickfheogoaaW.PrintMore
attribute [local go_sem] max2_int min2_int max_two min_two max_three min_three max_four min_four
set_option linter.unusedVariables false
set_option linter.unusedSimpArgs false
def wf59 (x : S59) : Prop := I64 x.f0 ∧ I64 x.f1 ∧ I64 x.f2
theorem o59 : Opens Try.prog 59 k59 wf59 :=
  opens_iso (fun x : S59 => (x.f0, x.f1, x.f2)) (fun p => (⟨p.1, p.2.1, p.2.2⟩ : S59)) (fun _ => rfl) (opens_struct Try.underlying59 (by kernel_rfl) (opensF_cons rfl (by kernel_rfl) (opens_i64 Try.underlying3) (opensF_cons rfl (by kernel_rfl) (opens_i64 Try.underlying3) (opensF_one rfl (by kernel_rfl) (opens_i64 Try.underlying3)))))
def wf33 (x : S33) : Prop := I64 x.f0 ∧ I64 x.f1 ∧ I64 x.f2 ∧ I64 x.f3
theorem o33 : Opens Try.prog 33 k33 wf33 :=
  opens_iso (fun x : S33 => (x.f0, x.f1, x.f2, x.f3)) (fun p => (⟨p.1, p.2.1, p.2.2.1, p.2.2.2⟩ : S33)) (fun _ => rfl) (opens_struct Try.underlying33 (by kernel_rfl) (opensF_cons rfl (by kernel_rfl) (opens_i64 Try.underlying3) (opensF_cons rfl (by kernel_rfl) (opens_i64 Try.underlying3) (opensF_cons rfl (by kernel_rfl) (opens_i64 Try.underlying3) (opensF_one rfl (by kernel_rfl) (opens_i64 Try.underlying3))))))
end Go.Proofs.Ytfgeickfheogoaa.Q

/- The statement over plain lists and numbers that is left of the law FnExactPartsOf. -/
namespace Go.Proofs.Ytfgeickfheogoaa.Q
open Go.RowKit Go.Proofs.YtfgeickfheogoaaW.PrintWords Go.Proofs.YtfgeickfheogoaaW.PrintLast Go.Proofs.YtfgeickfheogoaaW.PrintMore
attribute [local go_sem] max2_int min2_int max_two min_two max_three min_three max_four min_four
set_option linter.unusedVariables false
set_option linter.unusedSimpArgs false
def laws_FnExactPartsOf.Pure : Prop := ∀ (l0 : List (S59)), (∀ y ∈ l0, wf59 y) → l0.length ≤ 9223372036854775807 → ∃ k, laws_FnExactPartsOf.f k l0 = some true
end Go.Proofs.Ytfgeickfheogoaa.Q

/- The region of a box, as the program and the reference have it. -/
namespace Go.Proofs.Ytfgeickfheogoaa.Pure
open Go.RowKit Go.Proofs.Ytfgeickfheogoaa.Q Go.Proofs.YtfgeickfheogoaaW.PrintWords Go.Proofs.YtfgeickfheogoaaW.PrintLast Go.Proofs.YtfgeickfheogoaaW.PrintMore
set_option linter.unusedVariables false
set_option linter.unusedSimpArgs false

theorem scanRow_len (g : Nat → Bool) (y : Nat) : ∀ d x, 17 ≤ x + d → (scanRow g y x).length ≤ 17 - x := by
  intro d
  induction d with
  | zero => intro x hx; rw [scan_end g y x (by omega)]; simp
  | succ d ih =>
    intro x hx
    by_cases h16 : x < 16
    · cases hv : g (y * 16 + x) with
      | true =>
        have := endAt_ge g y (16 - x) x
        rw [scan_true g y x h16 hv, List.length_cons]
        have := ih (endAt g y (16 - x) x + 1) (by omega)
        omega
      | false =>
        rw [scan_false g y x h16 hv]
        have := ih (x + 1) (by omega)
        omega
    · rw [scan_end g y x (by omega)]; simp
theorem runsTo_len (g : Nat → Bool) (n : Nat) : (runsTo g n).length ≤ 17 * n := by
  induction n with
  | zero => simp [runsTo]
  | succ n ih =>
    rw [runsTo_succ, List.length_append]
    have := scanRow_len g n 17 0 (by omega)
    omega
theorem runsL_len (g : Nat → Bool) : (runsL g).length ≤ 272 := runsTo_len g 16
end Go.Proofs.Ytfgeickfheogoaa.Pure

/- The connected parts of a grid: the program's search through runs and the reference's search through pixels find the same. -/
namespace Go.Proofs.Ytfgeickfheogoaa.Pure
open Go.RowKit Go.Proofs.Ytfgeickfheogoaa.Q Go.Proofs.YtfgeickfheogoaaW.PrintWords Go.Proofs.YtfgeickfheogoaaW.PrintLast Go.Proofs.YtfgeickfheogoaaW.PrintMore
set_option linter.unusedVariables false
set_option linter.unusedSimpArgs false

theorem adj_symm {q r : Nat} (h : Adj q r) : Adj r q := by unfold Adj at *; omega
theorem reach_congr {g g' : Nat → Bool} (h : ∀ p, p < 256 → g p = g' p) {s q : Nat} (hr : Q.Reach g s q) : Q.Reach g' s q := by
  induction hr with
  | here => exact .here
  | step q r _ ha h2 hg ih => exact .step q r ih ha h2 (by rw [← h r h2]; exact hg)
theorem comp_congr {g g' : Nat → Bool} (h : ∀ p, p < 256 → g p = g' p) (s q : Nat) : comp g s q = comp g' s q := by
  rw [Bool.eq_iff_iff, comp_iff, comp_iff]
  exact ⟨reach_congr h, reach_congr (fun p hp => (h p hp).symm)⟩
/-- what has been seen is a sum of parts -/
def Whole (g seen : Nat → Bool) : Prop := ∀ q r, q < 256 → r < 256 → Adj q r → g q = true → g r = true → seen q = true → seen r = true
theorem comp_rest {g seen g2 : Nat → Bool} (hw : Whole g seen) (h2 : ∀ q, q < 256 → g2 q = (g q && !(seen q))) (p : Nat) (hp : p < 256) (hg : g p = true) (hs : seen p = false) (q : Nat) : comp g2 p q = comp g p q := by
  rw [Bool.eq_iff_iff, comp_iff, comp_iff]
  constructor
  · intro h
    induction h with
    | here => exact .here
    | step q r _ ha hr hgr ih =>
      rw [h2 r hr] at hgr
      exact .step q r ih ha hr (by cases h : g r <;> simp [h] at hgr ⊢)
  · intro h
    have key : ∀ q, Q.Reach g p q → q < 256 ∧ g q = true ∧ seen q = false ∧ Q.Reach g2 p q := by
      intro q h
      induction h with
      | here => exact ⟨hp, hg, hs, .here⟩
      | step q r _ ha hr hgr ih =>
        have hsr : seen r = false := by
          rw [Bool.eq_false_iff]
          intro c
          have := hw r q hr ih.1 (adj_symm ha) hgr ih.2.1 c
          rw [ih.2.2.1] at this
          cases this
        exact ⟨hr, hgr, hsr, .step q r ih.2.2.2 ha hr (by rw [h2 r hr, hgr, hsr]; rfl)⟩
    exact (key q h).2.2.2
theorem whole_add {g seen : Nat → Bool} (hw : Whole g seen) (p : Nat) : Whole g (fun q => seen q || comp g p q) := by
  intro q r hq hr ha hgq hgr h
  have h' : (seen q || comp g p q) = true := h
  show (seen r || comp g p r) = true
  rw [Bool.or_eq_true] at h' ⊢
  rcases h' with h' | h'
  · exact .inl (hw q r hq hr ha hgq hgr h')
  · exact .inr ((comp_iff g p r).2 (.step q r ((comp_iff g p q).1 h') ha hr hgr))
theorem whole_congr {g seen seen' : Nat → Bool} (h : ∀ q, q < 256 → seen q = seen' q) (hw : Whole g seen) : Whole g seen' := by
  intro q r hq hr ha hgq hgr hs
  rw [← h r hr]
  exact hw q r hq hr ha hgq hgr (by rw [h q hq]; exact hs)
/-- the parts that begin at pixel a and later, n pixels, of what is left of a grid -/
noncomputable def partsS : Nat → Nat → (Nat → Bool) → List (List Run)
  | 0, _, _ => []
  | n + 1, a, g => if g a = true then runsL (comp g a) :: partsS n (a + 1) (fun q => g q && !(comp g a q)) else partsS n (a + 1) g
theorem parts_same (g : Nat → Bool) : ∀ (n a : Nat) (seen g2 : Nat → Bool), a + n = 256 → Whole g seen → (∀ q, q < 256 → g2 q = (g q && !(seen q))) →
    partsFrom g ((List.range' a n).filter g) seen = partsS n a g2 := by
  intro n
  induction n with
  | zero => intro a seen g2 _ _ _; rfl
  | succ n ih =>
    intro a seen g2 ha hw h2
    rw [List.range'_succ]
    have ha256 : a < 256 := by omega
    cases hg : g a with
    | false =>
      rw [List.filter_cons_of_neg (by simp [hg])]
      unfold partsS
      rw [h2 a ha256, hg, if_neg (by simp)]
      exact ih (a + 1) seen g2 (by omega) hw h2
    | true =>
      rw [List.filter_cons_of_pos hg]
      unfold partsFrom partsS
      rw [h2 a ha256, hg]
      cases hs : seen a with
      | true =>
        rw [if_pos rfl, if_neg (by simp)]
        exact ih (a + 1) seen g2 (by omega) hw h2
      | false =>
        rw [if_neg (by simp), if_pos (by simp)]
        have hc : ∀ q, comp g2 a q = comp g a q := comp_rest hw h2 a ha256 hg hs
        congr 1
        · exact (runsL_congr (fun p _ => hc p)).symm
        · refine ih (a + 1) _ _ (by omega) (whole_congr (fun q hq => ?_) (whole_add hw a)) (fun q hq => ?_)
          · rw [gso_at _ _ hq, show q / 16 * 16 + q % 16 = q by omega]
          · rw [gso_at _ _ hq, show q / 16 * 16 + q % 16 = q by omega, h2 q hq, hc q]
            cases g q <;> cases seen q <;> cases comp g a q <;> rfl
theorem sorted_filter (g : Nat → Bool) : ∀ (n a : Nat) (xs : List Nat), xs.Pairwise (· < ·) → (∀ q ∈ xs, a ≤ q ∧ q < a + n) → (∀ q, a ≤ q → q < a + n → (g q = true ↔ q ∈ xs)) → xs = (List.range' a n).filter g := by
  intro n
  induction n with
  | zero =>
    intro a xs _ h _
    cases xs with
    | nil => rfl
    | cons b t => have := h b (by simp); omega
  | succ n ih =>
    intro a xs hs hb hm
    rw [List.range'_succ]
    cases xs with
    | nil =>
      have hg : ¬ g a = true := fun c => by have := (hm a (by omega) (by omega)).1 c; cases this
      rw [List.filter_cons_of_neg hg]
      exact ih (a + 1) [] hs (fun q hq => by cases hq) (fun q h1 h2 => hm q (by omega) (by omega))
    | cons b t =>
      have hbt := (List.pairwise_cons.1 hs).1
      by_cases e : b = a
      · subst e
        rw [List.filter_cons_of_pos ((hm b (by omega) (by omega)).2 (by simp))]
        congr 1
        refine ih (b + 1) t (List.pairwise_cons.1 hs).2 (fun q hq => ?_) (fun q h1 h2 => ?_)
        · have h1 := hbt q hq
          have h2 := hb q (by simp [hq])
          omega
        · rw [hm q (by omega) (by omega), List.mem_cons]
          constructor
          · rintro (c | c)
            · omega
            · exact c
          · exact .inr
      · have hab : a < b := by have := hb b (by simp); omega
        have hg : ¬ g a = true := fun c => by
          have := (hm a (by omega) (by omega)).1 c
          rcases List.mem_cons.1 this with c | c
          · omega
          · have := hbt a c; omega
        rw [List.filter_cons_of_neg hg]
        refine ih (a + 1) (b :: t) hs (fun q hq => ?_) (fun q h1 h2 => hm q (by omega) (by omega))
        have h2 := hb q hq
        rcases List.mem_cons.1 hq with c | c
        · omega
        · have := hbt q c; omega
theorem pixRun_mem (r : Run) (h : runOK r = true) (q : Nat) : q ∈ pixRun r r.f1.toNat ↔ runIn r q = true := by
  have hr := (runOK_iff r).1 h
  unfold pixRun
  rw [List.mem_map]
  have hi : runIn r q = true ↔ r.f0 = ((q / 16 : Nat) : Int) ∧ r.f1 ≤ ((q % 16 : Nat) : Int) ∧ ((q % 16 : Nat) : Int) < r.f2 := by simp [runIn, and_assoc]
  rw [hi]
  constructor
  · rintro ⟨x, hx, rfl⟩
    rw [List.mem_range'_1] at hx
    omega
  · rintro ⟨h1, h2, h3⟩
    refine ⟨q % 16, ?_, by omega⟩
    rw [List.mem_range'_1]
    omega
theorem pixels_mem (l : List Run) (h : ∀ r ∈ l, runOK r = true) (q : Nat) : q ∈ pixels l ↔ gridF l q = true := by
  unfold pixels gridF
  rw [List.mem_flatMap, List.any_eq_true]
  constructor
  · rintro ⟨r, hr, hq⟩; exact ⟨r, hr, (pixRun_mem r (h r hr) q).1 hq⟩
  · rintro ⟨r, hr, hq⟩; exact ⟨r, hr, (pixRun_mem r (h r hr) q).2 hq⟩
theorem pixRun_sorted (r : Run) (x : Nat) : (pixRun r x).Pairwise (· < ·) := by
  unfold pixRun
  rw [List.pairwise_map]
  exact List.Pairwise.imp (fun h => by omega) (List.pairwise_lt_range' (s := x) (n := r.f2.toNat - x))
theorem pixels_sorted : ∀ (l : List Run) (p : Option Run), validFrom p l = true → (∀ r, p = some r → runOK r = true) → (pixels l).Pairwise (· < ·) ∧ ∀ q ∈ pixels l, ∀ r, p = some r → r.f0.toNat * 16 + r.f2.toNat ≤ q := by
  intro l
  induction l with
  | nil => intro p _ _; exact ⟨List.Pairwise.nil, fun q hq => by cases hq⟩
  | cons r l ih =>
    intro p hv hp
    have hok := validFrom_ok (r :: l) p hv
    have hr := hok r (by simp)
    have hv' : validFrom (some r) l = true := by
      cases p <;> simp [validFrom] at hv <;> exact hv.2
    have h := ih (some r) hv' (fun r' e => by cases e; exact hr)
    have hri := (runOK_iff r).1 hr
    have hcons : pixels (r :: l) = pixRun r r.f1.toNat ++ pixels l := rfl
    rw [hcons]
    have hin : ∀ q ∈ pixRun r r.f1.toNat, r.f0.toNat * 16 + r.f1.toNat ≤ q ∧ q < r.f0.toNat * 16 + r.f2.toNat := by
      intro q hq
      unfold pixRun at hq
      rw [List.mem_map] at hq
      obtain ⟨x, hx, rfl⟩ := hq
      rw [List.mem_range'_1] at hx
      omega
    refine ⟨List.pairwise_append.2 ⟨pixRun_sorted r _, h.1, fun a ha b hb => ?_⟩, fun q hq r' e => ?_⟩
    · have h1 := hin a ha
      have h2 := h.2 b hb r rfl
      omega
    · subst e
      have hr' := (runOK_iff r').1 (hp r' rfl)
      have haf : runAfter r' r = true := by simp [validFrom] at hv; exact hv.1.2
      rw [runAfter_iff] at haf
      rcases List.mem_append.1 hq with c | c
      · have := hin q c; omega
      · have := h.2 q c r rfl; omega
theorem pixels_filter {l : List Run} (h : validR l = true) : pixels l = (List.range' 0 256).filter (gridF l) := by
  have hok := valid_ok h
  refine sorted_filter _ 256 0 _ (pixels_sorted l none h (fun r e => by cases e)).1 (fun q hq => ?_) (fun q _ _ => ?_)
  · have := (pixels_mem l hok q).1 hq
    unfold gridF at this
    rw [List.any_eq_true] at this
    obtain ⟨r, hr, hi⟩ := this
    have h1 := (runOK_iff r).1 (hok r hr)
    have h2 : r.f0 = ((q / 16 : Nat) : Int) := by simp [runIn] at hi; omega
    omega
  · exact (pixels_mem l hok q).symm
theorem parts_valid {l : List Run} (h : validR l = true) : partsFrom (gridF l) (pixels l) (fun _ => false) = partsS 256 0 (gridF l) := by
  rw [pixels_filter h]
  exact parts_same _ 256 0 _ _ (by omega) (fun q r _ _ _ _ _ c => by cases c) (fun q _ => by simp)
theorem partsS_len : ∀ (n a : Nat) (g : Nat → Bool), (partsS n a g).length ≤ n := by
  intro n
  induction n with
  | zero => intro a g; exact Nat.le_refl _
  | succ n ih =>
    intro a g
    unfold partsS
    split
    · rw [List.length_cons]; have := ih (a + 1) (fun q => g q && !(comp g a q)); omega
    · have := ih (a + 1) g; omega
theorem partsS_each : ∀ (n a : Nat) (g : Nat → Bool), ∀ r ∈ partsS n a g, ∃ f, r = runsL f := by
  intro n
  induction n with
  | zero => intro a g r hr; cases hr
  | succ n ih =>
    intro a g r hr
    unfold partsS at hr
    split at hr
    · rcases List.mem_cons.1 hr with c | c
      · exact ⟨_, c⟩
      · exact ih _ _ r c
    · exact ih _ _ r hr
end Go.Proofs.Ytfgeickfheogoaa.Pure

/- The reference's parts of a region. -/
namespace Go.Proofs.Ytfgeickfheogoaa.Pure
open Go.RowKit Go.Proofs.Ytfgeickfheogoaa.Q Go.Proofs.YtfgeickfheogoaaW.PrintWords Go.Proofs.YtfgeickfheogoaaW.PrintLast Go.Proofs.YtfgeickfheogoaaW.PrintMore
set_option linter.unusedVariables false
set_option linter.unusedSimpArgs false

theorem tabD (g : Nat → Bool) (p : Nat) (hp : p < 256) : (tab g).getD p false = g p := by
  simp [tab, List.getD_eq_getElem?_getD, hp]
theorem spread_eq (g : Nat → Bool) (a : Nat) (ha : a < 256) : spec_spreadFrom.f (tab g) (a : Int) = some (tab (comp g a)) := by
  unfold spec_spreadFrom.f
  rw [if_pos ⟨tab_length g, by omega, by omega⟩, Int.toNat_natCast]
  congr 1
  exact tab_congr (fun q _ => comp_congr (fun p hp => tabD g p hp) a q)
theorem spec_parts_from : ∀ (n a : Nat) (g : Nat → Bool) (acc : List (List Run)), a + n = 256 → acc.length ≤ a → Ev (fun k => spec_parts.l0 k acc (tab g) (a : Int)) (acc ++ partsS n a g) := by
  intro n
  induction n with
  | zero =>
    intro a g acc ha _
    refine Ev.step (f := fun _ => some acc) (fun k => ?_) (ev_const (by unfold partsS; rw [List.append_nil]))
    simp only [spec_parts.l0]
    rw [if_neg (by rw [tab_length]; omega)]
  | succ n ih =>
    intro a g acc ha hl
    have ha256 : a < 256 := by omega
    cases hg : g a with
    | false =>
      have e : partsS (n + 1) a g = partsS n (a + 1) g := by
        conv => lhs; unfold partsS
        rw [if_neg (by rw [hg]; simp)]
      rw [e]
      refine Ev.step (fun k => ?_) (ih (a + 1) g acc (by omega) (by omega))
      simp only [spec_parts.l0]
      rw [if_pos (by rw [tab_length]; omega), if_pos (by omega), tab_get g a ha256, if_neg (by rw [hg]; simp), w64n a (by omega)]
    | true =>
      have e : partsS (n + 1) a g = runsL (comp g a) :: partsS n (a + 1) (fun q => g q && !(comp g a q)) := by
        conv => lhs; unfold partsS
        rw [if_pos hg]
      rw [e]
      have hnext : Ev (fun k => spec_parts.l0 k (acc ++ [runsL (comp g a)]) (tab (fun q => g q && !(comp g a q))) ((a + 1 : Nat) : Int)) (acc ++ runsL (comp g a) :: partsS n (a + 1) (fun q => g q && !(comp g a q))) := by
        have h := ih (a + 1) (fun q => g q && !(comp g a q)) (acc ++ [runsL (comp g a)]) (by omega) (by rw [List.length_append, List.length_singleton]; omega)
        rw [List.append_assoc] at h
        exact h
      have hfill := fill_ev (fun q => g q && !(comp g a q)) g (fun k s p => spec_parts.l1 k (acc ++ [runsL (comp g a)]) s (a : Int) (tab (comp g a)) (p : Int)) _
        (by
          intro k s p hp hs
          have hr : rdOf false s (p : Int) = g p := by rw [hs, tab_get _ _ hp, if_neg (by omega)]
          have hsl : (p : Int) < (s.length : Int) := by rw [hs, tab_length]; omega
          have hpl : (p : Int) < ((tab (comp g a)).length : Int) := by rw [tab_length]; omega
          simp only [spec_parts.l1]
          rw [if_pos hsl, if_pos (by omega), hr, w64n p (by omega), Int.toNat_natCast, tab_get _ _ hp]
          cases hgp : g p with
          | true => rw [if_pos rfl, if_pos hpl, Bool.true_and]
          | false => rw [if_neg (by simp), Bool.false_and])
        (by
          refine Ev.step (fun k => ?_) hnext
          simp only [spec_parts.l1]
          rw [if_neg (by rw [tab_length]; omega), w64n a (by omega)])
      have hfill' : Ev (fun k => spec_parts.l1 k (acc ++ [runsL (comp g a)]) (tab g) (a : Int) (tab (comp g a)) 0) _ := hfill
      refine Ev.step (f := fun k => (spec_spreadFrom.f (tab g) (a : Int)).bind fun t => (spec_runsOf.f k t).bind fun u => if acc.length < 5864062014805 then spec_parts.l1 k (acc ++ [u]) (tab g) (a : Int) t 0 else none) (fun k => ?_) (ev_now (spread_eq g a ha256) (ev_bind (spec_runsOf_ev _) (ev_pos (by omega) hfill')))
      simp only [spec_parts.l0]
      rw [if_pos (by rw [tab_length]; omega), if_pos (by omega), tab_get g a ha256, if_pos hg]
theorem spec_parts_ev (l : List Run) (hl : l.length ≤ 1000000000) (hok : ∀ r ∈ l, 0 ≤ r.f0 ∧ r.f0 < 16 ∧ 0 ≤ r.f1 ∧ r.f2 ≤ 16) : Ev (fun k => spec_parts.f k l) (partsS 256 0 (gridF l)) := by
  unfold spec_parts.f
  exact ev_bind (spec_gridOf_ev l hl hok) (spec_parts_from 256 0 (gridF l) [] (by omega) (by simp))
end Go.Proofs.Ytfgeickfheogoaa.Pure

/- Marks on runs: what is written into a list's runs, and read again. -/
namespace Go.Proofs.Ytfgeickfheogoaa.Pure
open Go.RowKit Go.Proofs.Ytfgeickfheogoaa.Q Go.Proofs.YtfgeickfheogoaaW.PrintWords Go.Proofs.YtfgeickfheogoaaW.PrintLast Go.Proofs.YtfgeickfheogoaaW.PrintMore
set_option linter.unusedVariables false
set_option linter.unusedSimpArgs false

/-- run i of a list that has been marked from n on -/
def markOne (n : Int) (i : Nat) : Run := ⟨n + 3 * (i : Int), n + 3 * (i : Int) + 1, n + 3 * (i : Int) + 1 + 1⟩
def marked (m : Nat) (n : Int) : List Run := (List.range m).map (markOne n)
theorem marked_length (m : Nat) (n : Int) : (marked m n).length = m := by simp [marked]
theorem marked_succ (m : Nat) (n : Int) : marked (m + 1) n = marked m n ++ [markOne n m] := by simp [marked, List.range_succ]
theorem marked_get (m : Nat) (n : Int) (i : Nat) (h : i < (marked m n).length) : (marked m n)[i] = markOne n i := by simp [marked]
theorem markRunS_ev (l : List Run) (n : Int) (hl : l.length ≤ 1000000000) (h0 : 0 ≤ n) (h1 : n ≤ 1000000000000) : Ev (fun k => laws_markRunS.f k l n) (n + 3 * (l.length : Int), marked l.length n) := by
  have key := ev_up l.length (fun k i (s : List Run) => laws_markRunS.l0 k s (n + 3 * (i : Int)) (i : Int)) (fun i s => s.length = l.length ∧ s.take i = marked i n) (fun _ _ => (n + 3 * (l.length : Int), marked l.length n))
    (by
      intro i s hi hs
      right
      have hi' : i < s.length := by omega
      refine ⟨s.set i (markOne n i), fun k => ?_, ⟨by rw [List.length_set]; exact hs.1, by rw [take_set s i _ hi', hs.2, marked_succ]⟩, rfl⟩
      simp only [laws_markRunS.l0]
      have r1 : ∀ c : Run, rd_T57 (s.set i c) (i : Int) = c := by
        intro c
        rw [rdRun (s.set i c) i (by rw [List.length_set]; omega), List.getElem_set_self]
      rw [if_pos (by omega), if_pos (by omega)]
      simp only [Option.bind_some, Int.toNat_natCast, List.set_set, r1]
      rw [w64n i (by omega), w64 (x := n + 3 * (i : Int) + 1) (by omega) (by omega), w64 (x := n + 3 * (i : Int) + 1 + 1) (by omega) (by omega), w64 (x := n + 3 * (i : Int) + 1 + 1 + 1) (by omega) (by omega)]
      have e : n + 3 * (i : Int) + 1 + 1 + 1 = n + 3 * ((i + 1 : Nat) : Int) := by omega
      rw [e]
      rfl)
    (by
      intro s hs
      refine Ev.step (f := fun _ => some (n + 3 * (l.length : Int), s)) (fun k => ?_) (ev_const ?_)
      · simp only [laws_markRunS.l0]
        rw [if_neg (by omega)]
      · rw [← hs.2, ← hs.1, List.take_length])
    l.length 0 l (by omega) ⟨rfl, by simp [marked]⟩
  unfold laws_markRunS.f
  simpa using key
theorem heldRunS_ev (m : Nat) (n : Int) (hl : m ≤ 1000000000) (h0 : 0 ≤ n) (h1 : n ≤ 1000000000000) : Ev (fun k => laws_heldRunS.f k (marked m n) n) (n + 3 * (m : Int)) := by
  have key := ev_up m (fun k i (_ : Unit) => laws_heldRunS.l0 k (marked m n) (n + 3 * (i : Int)) (i : Int)) (fun _ _ => True) (fun _ _ => n + 3 * (m : Int))
    (by
      intro i s hi _
      right
      refine ⟨(), fun k => ?_, trivial, rfl⟩
      simp only [laws_heldRunS.l0]
      rw [if_pos (by rw [marked_length]; omega), if_pos (by omega), rdRun _ i (by rw [marked_length]; omega), marked_get, w64n i (by omega), w64 (x := n + 3 * (i : Int) + 1) (by omega) (by omega), w64 (x := n + 3 * (i : Int) + 1 + 1) (by omega) (by omega), w64 (x := n + 3 * (i : Int) + 1 + 1 + 1) (by omega) (by omega)]
      have e : n + 3 * (i : Int) + 1 + 1 + 1 = n + 3 * ((i + 1 : Nat) : Int) := by omega
      rw [if_pos (by simp only [markOne]), if_pos (by simp only [markOne]), if_pos (by simp only [markOne]), e])
    (by
      intro s _
      refine Ev.step (f := fun _ => some (n + 3 * (m : Int))) (fun k => ?_) (ev_const rfl)
      simp only [laws_heldRunS.l0]
      rw [if_neg (by rw [marked_length]; omega)])
    m 0 () (by omega) trivial
  unfold laws_heldRunS.f
  simpa using key
end Go.Proofs.Ytfgeickfheogoaa.Pure

/- The program's PartsOf and the reference's return the same, and what is returned is held by nobody else: over lists of numbers alone. -/
namespace Go.Proofs.Ytfgeickfheogoaa.Pure
open Go.RowKit Go.Proofs.Ytfgeickfheogoaa.Q Go.Proofs.YtfgeickfheogoaaW.PrintWords Go.Proofs.YtfgeickfheogoaaW.PrintLast Go.Proofs.YtfgeickfheogoaaW.PrintMore
set_option linter.unusedVariables false
set_option linter.unusedSimpArgs false

theorem rdLL (l : List (List Run)) (i : Nat) (h : i < l.length) : rd_L12 l (i : Int) = l[i] := by simp [rd_L12, h]
theorem eqSS_ev (l : List (List Run)) (hl : l.length ≤ 1000000000) (hb : ∀ r ∈ l, r.length ≤ 1000000000) : Ev (fun k => laws_eqRunSS.f k l l) true := by
  unfold laws_eqRunSS.f
  refine ev_pos rfl ?_
  exact ev_up2 l.length (fun k i (_ : Unit) => laws_eqRunSS.l0 k l l (i : Int)) (fun _ _ => True) (fun _ _ => true)
    (by
      intro i _ hi _
      right
      have hc : Ev (fun k => laws_eqRunS.f k l[i] l[i]) true := ev_of l[i].length (fun k hk => eqRunS_refl l[i] (by have := hb _ (List.getElem_mem hi); omega) k hk)
      refine ⟨(), fun res hres => ?_, trivial, rfl⟩
      refine Ev.step (f := fun k => (laws_eqRunS.f k l[i] l[i]).bind fun t => if t = true then laws_eqRunSS.l0 k l l ((i + 1 : Nat) : Int) else some false) (fun k => ?_) (ev_bind hc (ev_pos rfl hres))
      simp only [laws_eqRunSS.l0]
      rw [if_pos (by omega), if_pos (by omega), if_pos (by omega), rdLL l i hi, w64n i (by omega)])
    (by
      intro _ _
      exact Ev.step (f := fun _ => some true) (fun k => by simp only [laws_eqRunSS.l0]; rw [if_neg (by omega)]) (Ev.now _))
    l.length 0 () (by omega) trivial
def totR (l : List (List Run)) : Nat := (l.map List.length).sum
def mkL : List (List Run) → Int → List (List Run)
  | [], _ => []
  | r :: rs, n => marked r.length n :: mkL rs (n + 3 * (r.length : Int))
theorem mark_loop : ∀ (rest pre : List (List Run)) (n : Int), 0 ≤ n → n + 3 * (totR rest : Int) ≤ 1000000000 → pre.length + rest.length ≤ 1000000000 →
    Ev (fun k => laws_markRunSS.l0 k (pre ++ rest) n (pre.length : Int)) (n + 3 * (totR rest : Int), pre ++ mkL rest n)
  | [], pre, n, h0, h1, hl => by
    refine ev_val (Ev.step (f := fun _ => some (n, pre ++ [])) (fun k => ?_) (Ev.now _)) (by simp [totR, mkL])
    simp only [laws_markRunSS.l0]
    rw [if_neg (by simp)]
  | x :: rest, pre, n, h0, h1, hl => by
    have htot : (totR (x :: rest) : Int) = (x.length : Int) + (totR rest : Int) := by simp [totR]
    have hM := markRunS_ev x n (by omega) (by omega) (by omega)
    simp only [List.length_cons] at hl
    have ih := mark_loop rest (pre ++ [marked x.length n]) (n + 3 * (x.length : Int)) (by omega) (by omega) (by simp; omega)
    have hrd : rdRunSS (pre ++ x :: rest) (pre.length : Int) = x := by simp [rdRunSS]
    have hset : ∀ c : List Run, (pre ++ x :: rest).set pre.length c = (pre ++ [c]) ++ rest := by intro c; simp
    rw [List.length_append, List.length_singleton, List.append_assoc] at ih
    refine ev_val (Ev.step (f := fun k => (laws_markRunS.f k x n).bind fun t => laws_markRunSS.l0 k ((pre ++ [t.2]) ++ rest) t.1 ((pre.length + 1 : Nat) : Int)) (fun k => ?_) (ev_bind hM (by rw [List.append_assoc]; exact ih))) ?_
    · simp only [laws_markRunSS.l0]
      rw [if_pos (by simp; omega), if_pos (by omega), hrd, w64n _ (by omega)]
      simp only [Int.toNat_natCast, hset]
    · rw [Prod.mk.injEq]
      exact ⟨by omega, by simp [mkL]⟩
theorem held_loop : ∀ (rest pre : List (List Run)) (n : Int), 0 ≤ n → n + 3 * (totR rest : Int) ≤ 1000000000 → pre.length + rest.length ≤ 1000000000 →
    Ev (fun k => laws_heldRunSS.l0 k (pre ++ mkL rest n) n (pre.length : Int)) (n + 3 * (totR rest : Int))
  | [], pre, n, h0, h1, hl => by
    refine ev_val (Ev.step (f := fun _ => some n) (fun k => ?_) (Ev.now _)) (by simp [totR])
    simp only [laws_heldRunSS.l0]
    rw [if_neg (by simp [mkL])]
  | x :: rest, pre, n, h0, h1, hl => by
    have htot : (totR (x :: rest) : Int) = (x.length : Int) + (totR rest : Int) := by simp [totR]
    have hM := heldRunS_ev x.length n (by omega) (by omega) (by omega)
    simp only [List.length_cons] at hl
    have ih := held_loop rest (pre ++ [marked x.length n]) (n + 3 * (x.length : Int)) (by omega) (by omega) (by simp; omega)
    have hrd : rd_L12 (pre ++ mkL (x :: rest) n) (pre.length : Int) = marked x.length n := by simp [rd_L12, mkL]
    rw [List.length_append, List.length_singleton, List.append_assoc] at ih
    refine ev_val (Ev.step (f := fun k => (laws_heldRunS.f k (marked x.length n) n).bind fun t => if t < 0 then some (-1) else laws_heldRunSS.l0 k (pre ++ mkL (x :: rest) n) t ((pre.length + 1 : Nat) : Int)) (fun k => ?_) (ev_bind hM (ev_neg (by omega) ih))) (by omega)
    simp only [laws_heldRunSS.l0]
    rw [if_pos (by simp [mkL]; omega), if_pos (by omega), hrd, w64n _ (by omega)]
theorem tot_le : ∀ (l : List (List Run)) (B : Nat), (∀ r ∈ l, r.length ≤ B) → totR l ≤ l.length * B
  | [], B, _ => by simp [totR]
  | x :: l, B, h => by
    have h1 := tot_le l B (fun r hr => h r (List.mem_cons_of_mem _ hr))
    have h2 := h x (List.mem_cons_self ..)
    have h3 : totR (x :: l) = x.length + totR l := by simp [totR]
    rw [h3, List.length_cons, Nat.add_mul, Nat.one_mul]
    omega
noncomputable def partsV (l : List Run) : List (List Run) := if validR l = true then partsS 256 0 (gridF l) else []
theorem partsV_bound (l : List Run) : (partsV l).length ≤ 256 ∧ ∀ r ∈ partsV l, r.length ≤ 1000 := by
  unfold partsV
  split
  · refine ⟨partsS_len _ _ _, fun r hr => ?_⟩
    obtain ⟨f, rfl⟩ := partsS_each _ _ _ r hr
    have := runsL_len f
    omega
  · simp
theorem FnExactPartsOf : laws_FnExactPartsOf.Pure := by
  intro l
  intros
  rename_i hll
  rcases szRunS_eq l 1048576 (by omega) (by omega) hll with ⟨hn, h0, hs⟩ | hs
  · obtain ⟨K1, e1⟩ : Ev (fun k => laws_toRunS.f k l) (l.map cRun) := ev_of l.length (fun k hk => toRunS_eq l (by omega) k hk)
    have hcl : (l.map cRun).length ≤ 1048576 := by rw [List.length_map]; omega
    generalize l.map cRun = c at e1 hcl
    obtain ⟨K4, e4⟩ : Ev (fun k => spec_PartsOf.f k c) (partsV c) := by
      unfold spec_PartsOf.f partsV
      have hv : Ev (fun k => spec_validRuns.f k c) (validR c) := ev_of (2 * c.length + 1) (fun k hk => spec_validRuns_eq c (by omega) k hk)
      refine ev_bind hv ?_
      by_cases cv : validR c = true
      · rw [if_pos cv]
        exact ev_pos cv (ev_bind (spec_parts_ev c (by omega) (valid_ranges cv)) (Ev.now _))
      · rw [if_neg cv]
        exact ev_neg cv (Ev.now _)
    have e5 : impl_PartsOf.f c = some (partsV c) := by
      unfold impl_PartsOf.f partsV
      by_cases cv : validR c = true
      · rw [if_pos cv, if_pos cv, parts_valid cv]
      · rw [if_neg cv, if_neg cv]
    obtain ⟨hVl, hVb⟩ := partsV_bound c
    generalize partsV c = V at e4 e5 hVl hVb
    have htot := tot_le V 1000 hVb
    obtain ⟨K6, e6⟩ := eqSS_ev V (by omega) (fun r hr => by have := hVb r hr; omega)
    obtain ⟨K7, e7⟩ : Ev (fun k => laws_eqRunS.f k c c) true := ev_of c.length (fun k hk => eqRunS_refl c (by omega) k hk)
    obtain ⟨K8, e8⟩ := markRunS_ev c 1 (by omega) (by omega) (by omega)
    obtain ⟨K9, e9⟩ := mark_loop V [] 1 (by omega) (by omega) (by simp; omega)
    obtain ⟨K10, e10⟩ := held_loop V [] 1 (by omega) (by omega) (by simp; omega)
    refine ⟨K1 + K4 + K6 + K7 + K8 + K9 + K10 + 1, laws_FnExactPartsOf.f_of (Or.inr ?_)⟩
    exact ⟨_, c, V, _, _, _, _, hs, by omega, e1 _ (by omega), e4 _ (by omega), e5, e6 _ (by omega), e7 _ (by omega), e8 _ (by omega), by omega, e9 _ (by omega), e10 _ (by omega), by omega⟩
  · exact ⟨0, laws_FnExactPartsOf.f_of (Or.inl ⟨_, hs, by omega⟩)⟩
end Go.Proofs.Ytfgeickfheogoaa.Pure

/- The head of the translation reads as a plain cut. -/
namespace Go.Proofs.Ytfgeickfheogoaa.Head
set_option maxRecDepth 100000
theorem wordsSigns_word (w r : List Char) (h : w.all (fun c => !(c == Char.ofNat 32)) = true) : wordsSigns (w ++ Char.ofNat 32 :: r) = w :: wordsSigns r := by
  induction w with
  | nil => rfl
  | cons c w ih =>
    simp only [List.all_cons, Bool.and_eq_true, Bool.not_eq_true', beq_eq_false_iff_ne, ne_eq] at h
    have h1 := ih (by simpa using h.2)
    rw [List.cons_append, wordsSigns.eq_3 c _ h.1, h1]
def w1 : List Char := [104, 97, 114, 110, 101, 115, 115].map Char.ofNat
def w2 : List Char := [50, 56, 98, 98, 49, 50, 55, 52, 52, 51, 57, 52, 49, 48, 50, 99, 49, 101, 51, 56, 48, 55, 99, 55, 56, 54, 102, 55, 101, 99, 97, 50, 50, 51, 102, 48, 102, 55, 97, 102, 49, 102, 53, 49, 52, 56, 48, 100, 55, 53, 101, 102, 97, 100, 57, 50, 50, 50, 53, 55, 53, 102, 97, 55].map Char.ofNat
def w3 : List Char := [99, 117, 116].map Char.ofNat
def w4 : List Char := [97, 116, 32, 108, 111, 111, 112, 46, 101, 120, 97, 109, 112, 108, 101, 47, 112, 105, 120, 101, 108, 119, 111, 114, 107, 115, 47, 108, 97, 119, 115, 46, 70, 110, 69, 120, 97, 99, 116, 86, 97, 108, 105, 100, 82, 101, 103, 105, 111, 110, 32, 108, 111, 111, 112, 46, 101, 120, 97, 109, 112, 108, 101, 47, 112, 105, 120, 101, 108, 119, 111, 114, 107, 115, 47, 108, 97, 119, 115, 46, 70, 110, 69, 120, 97, 99, 116, 65, 114, 101, 97, 79, 102, 32, 108, 111, 111, 112, 46, 101, 120, 97, 109, 112, 108, 101, 47, 112, 105, 120, 101, 108, 119, 111, 114, 107, 115, 47, 108, 97, 119, 115, 46, 70, 110, 69, 120, 97, 99, 116, 82, 101, 103, 105, 111, 110, 72, 97, 115, 32, 108, 111, 111, 112, 46, 101, 120, 97, 109, 112, 108, 101, 47, 112, 105, 120, 101, 108, 119, 111, 114, 107, 115, 47, 108, 97, 119, 115, 46, 70, 110, 69, 120, 97, 99, 116, 66, 111, 120, 82, 101, 103, 105, 111, 110, 32, 108, 111, 111, 112, 46, 101, 120, 97, 109, 112, 108, 101, 47, 112, 105, 120, 101, 108, 119, 111, 114, 107, 115, 47, 108, 97, 119, 115, 46, 70, 110, 69, 120, 97, 99, 116, 66, 111, 117, 110, 100, 115, 79, 102, 32, 108, 111, 111, 112, 46, 101, 120, 97, 109, 112, 108, 101, 47, 112, 105, 120, 101, 108, 119, 111, 114, 107, 115, 47, 108, 97, 119, 115, 46, 70, 110, 66, 111, 120, 82, 101, 103, 105, 111, 110, 32, 108, 111, 111, 112, 46, 101, 120, 97, 109, 112, 108, 101, 47, 112, 105, 120, 101, 108, 119, 111, 114, 107, 115, 47, 108, 97, 119, 115, 46, 70, 110, 69, 100, 103, 101, 79, 102, 66, 111, 120, 32, 108, 111, 111, 112, 46, 101, 120, 97, 109, 112, 108, 101, 47, 112, 105, 120, 101, 108, 119, 111, 114, 107, 115, 47, 108, 97, 119, 115, 46, 70, 110, 69, 120, 97, 99, 116, 83, 104, 105, 102, 116, 82, 101, 103, 105, 111, 110, 32, 108, 111, 111, 112, 46, 101, 120, 97, 109, 112, 108, 101, 47, 112, 105, 120, 101, 108, 119, 111, 114, 107, 115, 47, 108, 97, 119, 115, 46, 70, 110, 69, 120, 97, 99, 116, 69, 100, 103, 101, 79, 102, 32, 108, 111, 111, 112, 46, 101, 120, 97, 109, 112, 108, 101, 47, 112, 105, 120, 101, 108, 119, 111, 114, 107, 115, 47, 108, 97, 119, 115, 46, 70, 110, 69, 120, 97, 99, 116, 67, 111, 109, 98, 105, 110, 101, 82, 101, 103, 105, 111, 110, 115, 32, 108, 111, 111, 112, 46, 101, 120, 97, 109, 112, 108, 101, 47, 112, 105, 120, 101, 108, 119, 111, 114, 107, 115, 47, 108, 97, 119, 115, 46, 70, 110, 69, 120, 97, 99, 116, 71, 114, 111, 119, 82, 101, 103, 105, 111, 110, 32, 108, 111, 111, 112, 46, 101, 120, 97, 109, 112, 108, 101, 47, 112, 105, 120, 101, 108, 119, 111, 114, 107, 115, 47, 108, 97, 119, 115, 46, 70, 110, 69, 120, 97, 99, 116, 83, 104, 114, 105, 110, 107, 82, 101, 103, 105, 111, 110, 32, 108, 111, 111, 112, 46, 101, 120, 97, 109, 112, 108, 101, 47, 112, 105, 120, 101, 108, 119, 111, 114, 107, 115, 47, 108, 97, 119, 115, 46, 70, 110, 69, 120, 97, 99, 116, 79, 112, 101, 110, 82, 101, 103, 105, 111, 110, 32, 108, 111, 111, 112, 46, 101, 120, 97, 109, 112, 108, 101, 47, 112, 105, 120, 101, 108, 119, 111, 114, 107, 115, 47, 108, 97, 119, 115, 46, 70, 110, 69, 120, 97, 99, 116, 80, 97, 114, 116, 115, 79, 102].map Char.ofNat
theorem signs0 : Try.prog.initOrder = String.ofList (w1 ++ Char.ofNat 32 :: (w2 ++ Char.ofNat 32 :: (w3 ++ Char.ofNat 32 :: w4))) := by kernel_rfl
theorem behind : behindMainWord (wordsSigns Try.prog.initOrder.toList) = w3 :: wordsSigns w4 := by
  rw [signs0, String.toList_ofList, wordsSigns_word w1 _ (by kernel_rfl), wordsSigns_word w2 _ (by kernel_rfl), wordsSigns_word w3 _ (by kernel_rfl)]
  unfold behindMainWord
  dsimp only
  rw [if_pos (by kernel_rfl)]
theorem strip_cut (R : List (List Char)) : stripLifts liftWords (w3 :: R) = ([], w3 :: R) := by kernel_rfl
theorem mayEnter_of (P : Program) (R : List (List Char)) (h : behindMainWord (wordsSigns P.initOrder.toList) = w3 :: R) (h1 : P.laysLater = false) (h2 : P.bearsReflect = false) (h3 : P.doorFits [] = true) : P.mayEnter = true := by
  unfold Program.mayEnter
  rw [h]
  dsimp only
  rw [strip_cut, h1, h2, h3]
  kernel_rfl
theorem liftsFinal_of (P : Program) (R : List (List Char)) (h : behindMainWord (wordsSigns P.initOrder.toList) = w3 :: R) : P.liftsFinal = false := by
  unfold Program.liftsFinal Program.headLifts
  rw [h]
  dsimp only
  rw [strip_cut]
  kernel_rfl
theorem make_of (P : Program) (R : List (List Char)) (h : behindMainWord (wordsSigns P.initOrder.toList) = w3 :: R) : P.make = some .cut := by
  unfold Program.make
  rw [h]
  kernel_rfl
theorem mayEnter : Try.prog.mayEnter = true := mayEnter_of _ _ behind (by kernel_rfl) (by kernel_rfl) (by kernel_rfl)
theorem liftsFinal : Try.prog.liftsFinal = false := liftsFinal_of _ _ behind
theorem make : Try.prog.make = some .cut := make_of _ _ behind
end Go.Proofs.Ytfgeickfheogoaa.Head

-- the row of the law FnExactPartsOf
namespace Go.Proofs.Ytfgeickfheogoaa.fnExactPartsOf
open Go.ChangeShapes Go.WideShapes Go.ChangeAt Go.RowKit Go.Proofs.Ytfgeickfheogoaa.Q Go.Proofs.YtfgeickfheogoaaW.PrintWords
open Go.ChangeMaps (open_string shut_string)
set_option linter.unusedVariables false
theorem own : ownKnob Try.prog.godebug = none := by kernel_rfl
theorem laidOut : laidOutB Try.prog = true := by kernel_rfl
set_option maxHeartbeats 4000000 in
set_option maxRecDepth 100000 in
theorem lifted (os : Os) (started : os.Started) (H : Type) (enc : TypeId × Value → H) :
    ReturnsInHanded {} Try.checked os 16 .any (Rows.fnExactPartsOfSpec.pre6 enc Try.prog Try.f16 Rows.fnExactPartsOfRow.domain false) (Rows.fnExactPartsOfSpec.post enc Try.prog Try.f16 false true false false) := by
  refine returnsInHanded_of_change_sized (C := Try.checked) own started (by kernel_rfl) Try.func16
    (ChangeSpec.witness6 (enc := enc) (C := Try.checked) false ⟨#[], #[.slice none 0 0], []⟩ 8 (by kernel_rfl) (by kernel_rfl) (by kernel_rfl) (by kernel_rfl)) ?_
  intro W base args ds gs before hval0 hW hcnd hsz0 _
  have hval : ∀ (j : Nat) t v, Try.f16.params[j]? = some t → args[j]? = some v → Value.okWide Try.prog W .any base t v := hval0
  have hW' := hW
  obtain ⟨p, q, hA0, hV, rfl, hfz, hnd⟩ := hW
  have hA : DataW.TrodAll enc Try.prog W 0 (fun _ => true) true Try.f16.params.toList args.toList ds p := hA0
  rw [Try.params16] at hA hval
  obtain ⟨v0, vs0, d0, ds0, p0, q0, hargs, rfl, rfl, h0, r0⟩ := trodAll_cons hA
  obtain ⟨rfl, rfl, rfl⟩ := trodAll_nil r0
  obtain rfl : args = #[v0] := by cases args; simp_all
  obtain ⟨rfl, rfl⟩ := trodVars_none hV
  have k0 := h0
  have lt0 : ∀ x ∈ p0, x.block < W.heap.size := by obtain ⟨m, hm⟩ := k0; exact DataW.trod_lt m _ _ _ hm
  obtain ⟨fuel0, hf0⟩ := h0
  obtain ⟨aa0, len0, cap0, rfl⟩ := okWide_slice Try.underlying22 (hval 0 22 v0 rfl rfl)
  obtain ⟨l0, ⟨A0, c0, hcs0, hc0, hr0⟩, hq0⟩ := (opens_slice Try.underlying22 (by kernel_rfl) o59) _ _ _ _ _ _ hf0
  have hcs0' : [Value.slice aa0 len0 cap0] = [.slice A0 l0.length c0] := hcs0
  injection hcs0' with hcs0' _
  injection hcs0' with e10 e20 e30
  subst e10 e20 e30
  clear hA0 hval0 hsz0
  obtain ⟨k, hh⟩ := Pure.FnExactPartsOf l0 hq0 hr0.2.1
  refine (Q.laws_FnExactPartsOf.calls k _ _ l0 true W hr0 hc0 hh).mono fun e W' hpost => ?_
  obtain ⟨he, bel0⟩ := hpost
  have bel : Below W.heap.size W W' := bel0
  subst he
  exact ⟨_, rfl, _, _, _, [], _, [], hW', trodAll_mk1 (shut_bool Try.underlying4 _), (trodAll_cons_mk (Below.trod laidOut (by kernel_rfl) (of_decide_eq_true (by kernel_rfl)) k0 bel lt0) trodAll_mk0), rfl, bel.frame _, fun h => by cases h⟩
set_option maxHeartbeats 4000000 in
theorem closed : joinedFacts Try.prog 16 Try.f16 Rows.fnExactPartsOfSpec Rows.fnExactPartsOfRow = true := by
  unfold joinedFacts
  rw [Head.mayEnter, Head.liftsFinal, Head.make]
  simp only [Bool.and_eq_true]
  repeat' apply And.intro
  all_goals first | exact True.intro | (as_aux_lemma => kernel_rfl)
set_option maxHeartbeats 4000000 in
theorem over : Rows.fnExactPartsOfRow.holds Try.pinned (OpenSpec.ofChange Rows.fnExactPartsOfSpec) :=
  OpenClaim.holds_of_wide 16 Try.f16 rfl rfl rfl rfl rfl rfl rfl ⟨rfl, rfl, rfl, rfl, rfl⟩ rfl rfl rfl rfl rfl (by kernel_rfl) Try.func16 closed
    (of_decide_eq_true (by kernel_rfl)) (by unfold Func.isWrapper; first | (rw [if_pos (by decide +kernel)]; kernel_rfl) | (rw [if_neg (by decide +kernel)]; exact ⟨rfl, rfl⟩))
    (fun os started H enc _ => lifted os started H enc)
theorem proved : Rows.FnExactPartsOfSaid := over
#print axioms proved
end Go.Proofs.Ytfgeickfheogoaa.fnExactPartsOf
namespace Go.Proofs.Ytfgeickfheogoaa
/-- The row, under a short name, for the claim. -/
theorem fnExactPartsOf_holds : Rows.FnExactPartsOfSaid := fnExactPartsOf.proved
end Go.Proofs.Ytfgeickfheogoaa
