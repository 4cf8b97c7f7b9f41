/- A part of the proof that the statement FnSimplifyStepsTwiceSaid holds, under no condition of its own: Simple steps stay: the law FnSimplifyStepsTwice over lists of numbers alone. -/
import Derived.Test.YtgfjccegehnjcaaCFnSimplifyStepsTwice1
/- A run of elements taken out of a row of one's own, in place, and the cells behind the row made zero. -/
namespace Go.Proofs.Ytgfjccegehnjcaa.Q
open Go.RowKit Go.Proofs.YtgfjccegehnjcaaW.PrintWords Go.Proofs.YtgfjccegehnjcaaW.PrintLast Go.Proofs.YtgfjccegehnjcaaW.PrintMore
attribute [local go_sem] max2_int min2_int max_two min_two max_three min_three max_four min_four
set_option linter.unusedVariables false
set_option linter.unusedSimpArgs false

section
variable {P : Program} {α : Type}
theorem R_cut_run (d : Kd α) {W : World} (base : Nat) (t ty e : TypeId) (i : TypeInfo) (ht : P.underlying t = some (.slice e)) (hi : P.info? e = some i) (hsz : i.size = d.sz)
    {g n c k m : Nat} {xs : List α} {ok : Nat → Prop} (HO : d.R e W base ok (.slice (some ⟨g, 0, none⟩) n c) xs) (hm : 0 < m) (hk : k + m ≤ n) {A : Option Addr} (hA : A = if c = k + m then some ⟨g, 0, none⟩ else (some (⟨g, 0, none⟩ : Addr)).map (·.add ((k + m) * d.sz))) (c2 : Nat) :
    ∃ w1, (Builtin.append_ #[t, t] ty #[.slice (some ⟨g, 0, none⟩) k c, .slice A (n - (k + m)) c2]).run P W = .ok (.slice (some ⟨g, 0, none⟩) (n - m) c) w1 ∧ d.R e w1 base ok (.slice (some ⟨g, 0, none⟩) (n - m) c) (xs.take k ++ xs.drop (k + m)) ∧ W.grownBy w1 (some g) := by
  obtain ⟨hn, hnc, _⟩ := Kd.R_reads' HO
  obtain ⟨hok, inner, hown, hr⟩ := HO
  have hin : inner.length = n * d.sz := by rw [hr.1, hn]
  rcases hown.2 with ⟨hv, _⟩ | ⟨g', cap', cur, hv, hb, hh, _, hcm, hcs, htake⟩
  · cases hv
  injection hv with ha _ hc
  injection ha with ha
  injection ha with hg
  subst hg; subst hc
  rw [← hn] at htake
  obtain ⟨news, hnews⟩ : ∃ news, news = inner.drop ((k + m) * d.sz) := ⟨_, rfl⟩
  have hnl : news.length = (n - (k + m)) * d.sz := by rw [hnews, List.length_drop, hin, Nat.sub_mul]
  have hle : (k + m) * d.sz ≤ n * d.sz := Nat.mul_le_mul_right _ hk
  have hks : (k + m) * d.sz = k * d.sz + m * d.sz := Nat.add_mul _ _ _
  have hnc' : n * d.sz ≤ c * d.sz := Nat.mul_le_mul_right _ hnc
  have hsub : (n - (k + m)) * d.sz = n * d.sz - (k + m) * d.sz := Nat.sub_mul _ _ _
  have hcur : ∀ q, q < n * d.sz → cur.toList[q]? = inner[q]? := by
    intro q hq
    rw [← htake, List.getElem?_take, if_pos hq]
  obtain ⟨a, rfl, hcell⟩ : ∃ a, A = some a ∧ ∀ j u, news[j]? = some u → W.cell? (a.add j) = some u := by
    by_cases hck : c = k + m
    · rw [if_pos hck] at hA
      refine ⟨_, hA, fun j u hu => ?_⟩
      have h0 : news = [] := List.eq_nil_of_length_eq_zero (by rw [hnl, show n - (k + m) = 0 by omega, Nat.zero_mul])
      rw [h0] at hu
      simp at hu
    · rw [if_neg hck, Option.map_some] at hA
      refine ⟨_, hA, fun j u hu => ?_⟩
      have hj : j < news.length := (List.getElem?_eq_some_iff.1 hu).1
      rw [add_add, add_at, cell_of_row W g _ cur e (0, 0) hh, ← Array.getElem?_toList]
      rw [hnews, List.getElem?_drop] at hu
      rw [← hu, Nat.zero_add]
      exact hcur _ (by omega)
  have hone : ∀ u ∈ news, u.oneCell' = true := by
    intro u hu
    have hu' : u ∈ inner := by rw [hnews] at hu; exact List.mem_of_mem_drop hu
    obtain ⟨q, hq, rfl⟩ := List.mem_iff_getElem.1 hu'
    have hs0 : 0 < d.sz := by
      rcases Nat.eq_zero_or_pos d.sz with h | h
      · rw [h, Nat.mul_zero] at hin; omega
      · exact h
    have hql : q / d.sz < xs.length := by
      rw [Nat.div_lt_iff_lt_mul hs0, ← hr.1]
      exact hq
    refine d.K_one (d.K_of_M (hr.2 (q / d.sz) _ (List.getElem?_eq_getElem hql))) _ ?_
    rw [List.mem_iff_getElem?]
    refine ⟨q % d.sz, ?_⟩
    rw [List.getElem?_take, if_pos (Nat.mod_lt _ hs0), List.getElem?_drop, Nat.mul_comm, Nat.div_add_mod, List.getElem?_eq_getElem hq]
  have hfit : 0 + k * d.sz + news.length ≤ cur.size := by omega
  have hrun := run_append_room_cells (P := P) (w := W) t ty e i ht hi g 0 k c a (n - (k + m)) c2 news (by rw [hnl, hsz]) hcell hone (by omega)
    (fun j hj => by rw [hsz, cell_of_row W g _ cur e (0, 0) hh]; simp; omega) (fun j _ => blk_frozen hh _)
  rw [hsz, show k + (n - (k + m)) = n - m by omega] at hrun
  obtain ⟨cur', h3, h4, h5⟩ := setCells_row news (0 + k * d.sz) W cur hh hfit
  obtain ⟨s1, s2, s3, s4⟩ := setCells_same g news (0 + k * d.sz) W
  have hfar : ∀ k', k' ≠ g → (W.setCells g (0 + k * d.sz) news).heap[k']? = W.heap[k']? := fun k' hk' => setCells_far news _ k' hk'
  have hgo : ∀ m, some g = (Value.slice (some ⟨g, 0, none⟩) m c).ownBlock := fun m => by simp [Value.ownBlock]
  have hel : (xs.take k ++ xs.drop (k + m)).length = n - m := by rw [List.length_append, List.length_take, List.length_drop, ← hn]; omega
  refine ⟨_, hrun, ⟨fun k' hk' => hok k' (by rw [← hgo] at hk' ⊢; exact hk'), inner.take (k * d.sz) ++ news, ⟨?_, .inr ⟨g, c, cur', by rw [hel], hb, h3, by rw [hel]; omega, hcm, by rw [h4, hcs], ?_⟩⟩, ?_⟩, ⟨s1, s2, s3, by rw [s4]; exact Nat.le_refl _, fun k' _ hk' => hfar k' (fun he => hk' (by rw [he]))⟩⟩
  · rw [List.length_append, List.length_take, hnl, hel]
    have : (n - m) * d.sz = n * d.sz - m * d.sz := by rw [Nat.sub_mul]
    omega
  · rw [hel, h5, Nat.zero_add]
    have h6 : (n - m) * d.sz = n * d.sz - m * d.sz := by rw [Nat.sub_mul]
    have h7 : cur.toList.take (k * d.sz) = inner.take (k * d.sz) := by
      rw [← htake, List.take_take, Nat.min_eq_left (by omega)]
    rw [h7]
    exact List.take_left' (by rw [List.length_append, List.length_take, hnl]; omega)
  · have hmv : ∀ p q, d.M W base (fun k' => ok k' ∧ some k' ≠ (Value.slice (some ⟨g, 0, none⟩) n c).ownBlock) p q → d.M (W.setCells g (0 + k * d.sz) news) base (fun k' => ok k' ∧ some k' ≠ (Value.slice (some ⟨g, 0, none⟩) (n - m) c).ownBlock) p q := fun p q hp =>
      d.M_mono (fun k' hk' => ⟨hk'.1, by rw [← hgo]; rw [← hgo] at hk'; exact hk'.2⟩) (d.M_move (fun k' hk' => hfar k' (fun he => hk'.2 (by rw [← hgo, he]))) hp)
    subst hnews
    exact Kd.reps_append ((Kd.reps_take hr (by omega)).imp_ hmv) ((Kd.reps_drop hr).imp_ hmv)
theorem R_cut_step {ops : Array Oper} {o : Oper} {a : Act} {Q : Exit → Act → World → Prop} {Kc : Act → World → Prop} (d : Kd α) {w0 W : World} (base : Nat) (hw : Region.wanted o (yielded ops a.tmps) = true) (s x : Operand) (t e : TypeId) (ho : o.op = .call { callee := .builtin .append, args := #[s, x], argTypes := #[t, t] })
    (ht : P.underlying t = some (.slice e)) (hinfo : (P.info? e).map (·.size) = some d.sz) {g n c k j c2 : Nat} {A : Option Addr} {xs : List α} {ok : Nat → Prop}
    (hs : a.eval s = .slice (some ⟨g, 0, none⟩) k c) (hx : a.eval x = .slice A (n - j) c2) (hA : A = if c = j then some ⟨g, 0, none⟩ else (some (⟨g, 0, none⟩ : Addr)).map (·.add (j * d.sz)))
    (HO : d.R e W base ok (.slice (some ⟨g, 0, none⟩) n c) xs) (hk : k < j) (hj : j ≤ n) (HB : Below base w0 W) (hbase : base ≤ W.heap.size)
    (h : ∀ w1, d.R e w1 base ok (.slice (some ⟨g, 0, none⟩) (n - (j - k)) c) (xs.take k ++ xs.drop j) → Below base w0 w1 → W.grownBy w1 (some g) → Kc (a.put o.dst (.slice (some ⟨g, 0, none⟩) (n - (j - k)) c)) w1) :
    if Region.wanted o (yielded ops a.tmps) = true then Oper.wp P o a W Kc Q else Kc (a.put o.dst undef) W := by
  obtain ⟨i0, hi, hsz⟩ := Option.map_eq_some_iff.1 hinfo
  obtain ⟨m, rfl⟩ : ∃ m, j = k + m := ⟨j - k, by omega⟩
  rw [show k + m - k = m by omega] at h
  obtain ⟨w1, hr, h1, h2⟩ := R_cut_run (P := P) d base t o.type e i0 ht hi hsz HO (m := m) (k := k) (by omega) hj hA c2
  rw [if_pos hw]
  unfold Oper.wp execOp
  simp only [ho, resolve, invoke, builtin, Sem.run_bind, Sem.run_pure, Result.andThen_ok, List.map_toArray, List.map_cons, List.map_nil, hs, hx, hr]
  exact h w1 h1 (HB.grown h2 hbase (fun k hk => by injection hk with hk; subst hk; exact Kd.R_base HO _ (by simp [Value.ownBlock]))) h2
theorem R_tail_run (d : Kd α) {W : World} {base g k c m c2 : Nat} {xs : List α} {ok : Nat → Prop} (t e ty : TypeId) (ht : P.underlying t = some (.slice e)) (z : Value) (hz : ∀ w, (zeroValue e).run P w = .ok z w) (hzc : z.cells.size = d.sz) (hs0 : 0 < d.sz) (h1 : ∀ u ∈ z.cells.toList, u.oneCell' = true)
    (HO : d.R e W base ok (.slice (some ⟨g, 0, none⟩) k c) xs) (hm : 0 < m) (hkm : k + m ≤ c) :
    ∃ w1, (Builtin.clear_ #[t] ty #[.slice (some ⟨g, k * d.sz, none⟩) m c2]).run P W = .ok (.tuple #[]) w1 ∧ d.R e w1 base ok (.slice (some ⟨g, 0, none⟩) k c) xs ∧ W.grownBy w1 (some g) := by
  obtain ⟨hn, hnc, _⟩ := Kd.R_reads' HO
  obtain ⟨hok, inner, hown, hr⟩ := HO
  rcases hown.2 with ⟨hv, _⟩ | ⟨g', cap', cur, hv, hb, hh, hle, hcm, hcs, htake⟩
  · cases hv
  injection hv with ha _ hc
  injection ha with ha
  injection ha with hg
  subst hg; subst hc
  obtain ⟨seg, hseg⟩ : ∃ seg, seg = (Builtin.zeroCells z.cells m).toList := ⟨_, rfl⟩
  have hsl : seg.length = m * d.sz := by rw [hseg, Array.length_toList, size_zeroCells, hzc]
  have hone : ∀ u ∈ seg, u.oneCell' = true := by
    intro u hu
    rw [hseg] at hu
    simp only [Builtin.zeroCells, Array.toList_map, List.mem_map] at hu
    obtain ⟨j, _, rfl⟩ := hu
    have hj : j % z.cells.size < z.cells.size := Nat.mod_lt _ (by omega)
    rw [getElem!_pos z.cells _ hj]
    exact h1 _ (by rw [Array.mem_toList_iff]; exact Array.getElem_mem hj)
  have hfit : k * d.sz + seg.length ≤ cur.size := by
    rw [hsl, hcs, ← Nat.add_mul]
    exact Nat.mul_le_mul_right _ hkm
  have hst := run_storeCells_cells (P := P) g (k * d.sz) seg 0 W (fun j hj => by rw [cell_of_row W g _ cur e (0, 0) hh]; simp; omega) (fun j _ => blk_frozen hh _) hone
  simp only [Nat.add_zero] at hst
  obtain ⟨cur', h3, h4, h5⟩ := setCells_row seg (k * d.sz) W cur hh hfit
  obtain ⟨s1, s2, s3, s4⟩ := setCells_same g seg (k * d.sz) W
  have hfar : ∀ k', k' ≠ g → (W.setCells g (k * d.sz) seg).heap[k']? = W.heap[k']? := fun k' hk' => setCells_far seg _ k' hk'
  have hgo : some g = (Value.slice (some ⟨g, 0, none⟩) k c).ownBlock := by simp [Value.ownBlock]
  refine ⟨W.setCells g (k * d.sz) seg, ?_, ⟨hok, inner, ⟨hown.1, .inr ⟨g, c, cur', by rw [hn], hb, h3, hle, hcm, by rw [h4, hcs], ?_⟩⟩, ?_⟩, ⟨s1, s2, s3, by rw [s4]; exact Nat.le_refl _, fun k' _ hk' => hfar k' (fun he => hk' (by rw [he]))⟩⟩
  · obtain ⟨q, rfl⟩ : ∃ q, m = q + 1 := ⟨m - 1, by omega⟩
    simp [Builtin.clear_, run_underlying ht, hz, ← hseg, hst]
  · rw [← htake, h5, ← hn]
    have hcl : cur.toList.length = c * d.sz := by rw [Array.length_toList, hcs]
    have hkc : k * d.sz ≤ c * d.sz := Nat.mul_le_mul_right _ (by omega)
    rw [List.append_assoc, List.take_append_of_le_length (by rw [List.length_take]; omega), List.take_take, Nat.min_self]
  · exact hr.imp_ (fun p q hp => d.M_move (fun k' hk' => hfar k' (fun he => hk'.2 (by rw [← hgo, he]))) hp)
theorem R_tail {ops : Array Oper} {rest : List Oper} {o : Oper} {a : Act} {Q : Exit → Act → World → Prop} (d : Kd α) {w0 W : World} (base : Nat) (hgd : o.guard = none) (x : Operand) (t e : TypeId) (ho : o.op = .call { callee := .builtin .clear, args := #[x], argTypes := #[t] })
    (ht : P.underlying t = some (.slice e)) (z : Value) (hz : ∀ w, (zeroValue e).run P w = .ok z w) (hzc : z.cells.size = d.sz) (hs0 : 0 < d.sz) (h1 : ∀ u ∈ z.cells.toList, u.oneCell' = true) {g k c m c2 : Nat} {xs : List α} {ok : Nat → Prop}
    (hx : a.eval x = .slice (some ⟨g, k * d.sz, none⟩) m c2) (HO : d.R e W base ok (.slice (some ⟨g, 0, none⟩) k c) xs) (hm : 0 < m) (hkm : k + m ≤ c) (HB : Below base w0 W) (hbase : base ≤ W.heap.size)
    (h : ∀ w1, d.R e w1 base ok (.slice (some ⟨g, 0, none⟩) k c) xs → Below base w0 w1 → wpList P ops Q rest (a.put o.dst (.tuple #[])) w1) : wpList P ops Q (o :: rest) a W := by
  obtain ⟨w1, hr, h2, h3⟩ := R_tail_run (P := P) d t e o.type ht z hz hzc hs0 h1 HO hm hkm (c2 := c2)
  refine wpList_plain hgd fun K hK => ?_
  unfold Oper.wp execOp
  simp only [ho, resolve, invoke, builtin, Sem.run_bind, Sem.run_pure, Result.andThen_ok, List.map_toArray, List.map_cons, List.map_nil, hx, hr]
  exact hK _ _ (h w1 h2 (HB.grown h3 hbase (fun k hk => by injection hk with hk; subst hk; exact Kd.R_base HO _ (by simp [Value.ownBlock]))))
end

/- slices.Delete over steps: a run of them taken out of a row of one's own. -/

theorem zero_step (w : World) : (zeroValue 59).run Try.prog w = .ok (.agg #[(.int .i64 0), (.int .i64 0), (.int .i64 0), (.int .i64 0), (.int .i64 0), (.slice none 0 0)]) w := by
  obtain ⟨i0, hi0, hz0, _, _⟩ := info_parts info59
  simp [zeroValue, typeInfo, hi0, hz0]
theorem zero_one : ∀ u ∈ (Value.agg #[(.int .i64 0), (.int .i64 0), (.int .i64 0), (.int .i64 0), (.int .i64 0), (.slice none 0 0)]).cells.toList, u.oneCell' = true := by
  intro u hu
  have e : (Value.agg #[(.int .i64 0), (.int .i64 0), (.int .i64 0), (.int .i64 0), (.int .i64 0), (.slice none 0 0)]).cells.toList = [(.int .i64 0), (.int .i64 0), (.int .i64 0), (.int .i64 0), (.int .i64 0), (.slice none 0 0)] := by kernel_rfl
  rw [e] at hu
  simp only [List.mem_cons, List.not_mem_nil, or_false] at hu
  rcases hu with rfl | rfl | rfl | rfl | rfl | rfl <;> rfl
set_option maxHeartbeats 2000000 in
set_option maxRecDepth 100000 in
theorem delete_calls (n c g base : Nat) (ok : Nat → Prop) (xs : List S59) (i j : Nat) (hij : i < j) (hjn : j ≤ n) (w : World) (hbs : base ≤ w.heap.size) (ho : Kd.R k59 59 w base ok (.slice (some ⟨g, 0, none⟩) n c) xs) :
    Calls Try.prog 72 #[.slice (some ⟨g, 0, none⟩) n c, .int .i64 (i : Int), .int .i64 (j : Int)] w fun e w' => e = .returned (.slice (some ⟨g, 0, none⟩) (n - (j - i)) c) ∧ Kd.R k59 59 w' base ok (.slice (some ⟨g, 0, none⟩) (n - (j - i)) c) (xs.take i ++ xs.drop j) ∧ Below base w w' := by
  obtain ⟨hn, hnc, hC⟩ := Kd.R_reads' ho
  have hmx : c ≤ 9223372036854775807 := by
    rcases ho.2 with ⟨inner, hown, _⟩
    rcases hown.2 with ⟨hv, _⟩ | ⟨g', cap', cur, hv, _, _, _, hcm, _⟩
    · cases hv
    · injection hv with _ _ hc
      subst hc
      simpa [maxLen] using hcm
  have HO := Aside0.mk ho
  have hut := Try.underlying53
  have hsz0 : (Try.prog.info? 59).map (·.size) = some 6 := by
    obtain ⟨i0, hi0, _, hs, _⟩ := info_parts info59
    rw [hi0, Option.map_some, hs]
  replace hbs := Aside0.mk hbs
  clear ho hC hn
  have h1 : (i : Int) ≤ (j : Int) := by omega
  have h2 : (j : Int) ≤ (n : Int) := by omega
  have h3 : (n : Int) ≤ (c : Int) := by omega
  have hic : i ≤ c := by omega
  have q1 : decide ((i : Int) = (j : Int)) = false := decide_eq_false (by omega)
  have q1b : decide (i = j) = false := decide_eq_false (by omega)
  have hA : (if c = j then some ⟨g, 0, none⟩ else some (⟨g, j * 6, none⟩ : Addr)) = if c = j then some (⟨g, 0, none⟩ : Addr) else (some (⟨g, 0, none⟩ : Addr)).map (·.add (j * k59.sz)) := by
    rw [Option.map_some, add_plain]
    rfl
  go_enter Try.func72, Try.ntmps72
  go_wp2
  refine start_ (n := 8) (S := fun w' => True) (ds := []) #[false, false, false, false, false, false, false, false] (by kernel_rfl) rfl rfl trivial (fun hHeld => ?_)
  refine pure_ (i := 0) (N := some 20) (v := ?_) (a' := ?_) #[true, false, false, false, false, false, false, false] rfl rfl (by kernel_rfl) (fun _ _ _ h => h) (Or.inl ⟨by rfl, ?_⟩) ?_ ?_
  rotate_left
  · intro w'
    go_simp
    with_reducible rfl
  rotate_left
  · simp only [Act.put, List.setIfInBounds_toArray, List.set_cons_zero, List.set_cons_succ, i64_w, i32_w]
    rfl
  refine pure_ (i := 1) (N := some 21) (v := ?_) (a' := ?_) #[true, true, false, false, false, false, false, false] rfl rfl (by kernel_rfl) (fun _ _ _ h => h) (Or.inl ⟨by rfl, ?_⟩) ?_ ?_
  rotate_left
  · intro w'
    go_simp
    with_reducible rfl
  rotate_left
  · simp only [Act.put, List.setIfInBounds_toArray, List.set_cons_zero, List.set_cons_succ, i64_w, i32_w]
    rfl
  refine pure_ (i := 2) (N := some 22) (v := ?_) (a' := ?_) #[true, true, true, false, false, false, false, false] rfl rfl (by kernel_rfl) (fun _ _ _ h => h) (Or.inl ⟨by rfl, ?_⟩) ?_ ?_
  rotate_left
  · intro w'
    go_simp
    with_reducible rfl
  rotate_left
  · simp only [Act.put, List.setIfInBounds_toArray, List.set_cons_zero, List.set_cons_succ, i64_w, i32_w]
    rfl
  refine pure_ (i := 3) (N := some 23) (v := ?_) (a' := ?_) #[true, true, true, true, false, false, false, false] rfl rfl (by kernel_rfl) (fun _ _ _ h => h) (Or.inl ⟨by rfl, ?_⟩) ?_ ?_
  rotate_left
  · intro w'
    go_simp
    with_reducible rfl
  rotate_left
  · simp only [Act.put, List.setIfInBounds_toArray, List.set_cons_zero, List.set_cons_succ, i64_w, i32_w]
    rfl
  refine pure_ (i := 4) (N := some 24) (v := ?_) (a' := ?_) #[true, true, true, true, true, false, false, false] rfl rfl (by kernel_rfl) (fun _ _ _ h => h) (Or.inl ⟨by rfl, ?_⟩) ?_ ?_
  rotate_left
  · intro w'
    go_simp
    with_reducible rfl
  rotate_left
  · simp only [Act.put, List.setIfInBounds_toArray, List.set_cons_zero, List.set_cons_succ, i64_w, i32_w]
    rfl
  refine pure_ (i := 5) (N := some 25) (v := ?_) (a' := ?_) #[true, true, true, true, true, true, false, false] rfl rfl (by kernel_rfl) (fun _ _ _ h => h) (Or.inl ⟨by rfl, ?_⟩) ?_ ?_
  rotate_left
  · intro w'
    go_simp
    with_reducible rfl
  rotate_left
  · simp only [Act.put, List.setIfInBounds_toArray, List.set_cons_zero, List.set_cons_succ, i64_w, i32_w]
    rfl
  refine one_ (i := 6) (N := some 26) #[true, true, true, true, true, true, true, false] rfl rfl (by kernel_rfl) (by decide) (fun K hK => ?_)
  refine R_cut_step (P := Try.prog) k59 (w0 := w) base (by rfl) (.tmp 22) (.tmp 25) 53 59 rfl Try.underlying53 hsz0 rfl rfl hA (Kd.R_drew HO.out) hij hjn (below_drew (Below.refl _ _)) hbs.out ?_
  intro w5 hR5 hB5 hg5
  have HO5 := Aside0.mk hR5
  have HB5 := Aside0.mk hB5
  have HG5 := Aside0.mk hg5
  clear hR5 hB5 hg5
  refine hK.out _ _ trivial (fun hHeld => ?_)
  clear hK K
  refine norm_ (a' := ?_) ?_ ?_
  rotate_left
  · show Act.put _ (some 26) _ = _
    simp only [Act.put, List.setIfInBounds_toArray, List.set_cons_zero, List.set_cons_succ, i64_w, i32_w]
    rfl
  refine pure_ (i := 7) (N := some 0) (v := ?_) (a' := ?_) #[true, true, true, true, true, true, true, true] rfl rfl (by kernel_rfl) (fun _ _ _ h => h) (Or.inl ⟨by rfl, ?_⟩) ?_ ?_
  rotate_left
  · intro w'
    go_simp
    with_reducible rfl
  rotate_left
  · simp only [Act.put, List.setIfInBounds_toArray, List.set_cons_zero, List.set_cons_succ, i64_w, i32_w]
    rfl
  refine done_ (by kernel_rfl) ?_
  obtain ⟨k, hk⟩ : ∃ k, k = n - (j - i) := ⟨_, rfl⟩
  rw [← hk] at HO5 ⊢
  have hkn : (k : Int) ≤ (n : Int) := by omega
  have hck : ¬ c = k := by omega
  have hkc : k ≤ c := by omega
  have hmk : 0 < n - k := by omega
  have hkm : k + (n - k) ≤ c := by omega
  have hm2 := Aside0.mk hk
  clear hk hA h1 h2
  go_wp2_with (first
    | ((with_reducible refine gate_builtin (b := .clear) (xs := #[.tmp 31]) rfl ?_); refine R_tail (P := Try.prog) k59 (w0 := w) base rfl (.tmp 31) 53 59 rfl Try.underlying53 _ zero_step rfl (by show 0 < 6; decide) zero_one rfl HO5.out hmk hkm HB5.out (Nat.le_trans hbs.out HB5.out.size) ?_; intro w6 hR6 hB6; have HO6 := Aside0.mk hR6; have HB6 := Aside0.mk hB6; clear hR6 hB6))
  all_goals
    go_ret
    have e := hm2.out
    subst e
    first
      | exact ⟨rfl, HO6.out, HB6.out⟩
      | (subst_vars; exact ⟨rfl, HO6.out, HB6.out⟩)

def laws_equalInts.l0 : Nat → List Int → List Int → Int → Option (Bool)
  | 0, _, _, _ => none
  | k + 1, x0, x1, x5 => if x5 < (x0.length : Int) then (if 0 ≤ x5 then (if x5 < (x1.length : Int) then (if (rd x0 x5) = (rd x1 x5) then (laws_equalInts.l0 k x0 x1 (wrap64 (x5 + 1))) else (some false)) else (none)) else (none)) else (some true)
def laws_equalInts.f (k : Nat) (l0 : List Int) (l1 : List Int) : Option (Bool) := if (l0.length : Int) = (l1.length : Int) then (laws_equalInts.l0 k l0 l1 0) else (some false)
set_option maxHeartbeats 8000000 in
set_option maxRecDepth 100000 in
theorem laws_equalInts.calls (k : Nat) (A0 : Option Addr) (c0 : Nat) (l0 : List Int) (A1 : Option Addr) (c1 : Nat) (l1 : List Int) (r : Bool) (w : World) (hr0 : Kd.C (Kd.int .i64) w A0 l0.length l0) (hc0 : l0.length ≤ c0) (hr1 : Kd.C (Kd.int .i64) w A1 l1.length l1) (hc1 : l1.length ≤ c1) (h : laws_equalInts.f k l0 l1 = some r) :
    Calls Try.prog 73 #[.slice A0 l0.length c0, .slice A1 l1.length c1] w fun e w' => e = .returned (.bool r) ∧ Drawn0 w w' := by
  have HR0 := Aside0.mk hr0
  have HC0 := Aside0.mk hc0
  clear hr0 hc0
  have HR1 := Aside0.mk hr1
  have HC1 := Aside0.mk hc1
  clear hr1 hc1
  have H : (if (l0.length : Int) = (l1.length : Int) then (laws_equalInts.l0 k l0 l1 0) else (some false)) = some r := h
  clear h
  by_cases c3 : (l0.length : Int) = (l1.length : Int)
  · rw [if_pos c3] at H
    have c3b0 : ((l0.length : Int) == (l1.length : Int)) = true := beq_iff_eq.mpr c3
    have c3b1 : ((l0.length : Int) != (l1.length : Int)) = false := bne_eq_false_iff_eq.mpr c3
    have c3b2 : (l0.length == l1.length) = true := by first | simpa using c3 | (simp at c3 ⊢; omega)
    clear c3
    have H' := Aside0.mk H
    clear H
    go_enter Try.func73, Try.ntmps73
    go_wp2
    repeat (go_quiet (fail); try go_wp2)
    go_loopg [5] k (fun kq v5 w' => ∃ (x5_1 : Int), v5 = .int .i64 x5_1 ∧ Aside0 (laws_equalInts.l0 kq l0 l1 x5_1 = some r) ∧ Aside0 (kq ≤ k) ∧ Drawn0 w w')
    case atStart => exact ⟨(0), (by first | rfl | (simp; done) | (simp [*]; done)), H', ⟨Nat.le_refl _⟩, by repeat (first | exact Drawn0.refl _ | apply Drawn0.step)⟩
    case round =>
      clear H'
      try clear c1
      try clear p2
      try clear c3
      try clear c3b0
      try clear c3b1
      try clear c3b2
      obtain ⟨x5_1, rfl, HA, HK1, ⟨m1, rfl⟩⟩ := hrel
      cases gk with
      | zero => exact absurd HA.out (by simp [laws_equalInts.l0])
      | succ k1 =>
        have H := HA.out
        clear HA
        simp only [laws_equalInts.l0] at H
        by_cases c4 : x5_1 < (l0.length : Int)
        · rw [if_pos c4] at H
          have c4b0 : decide (x5_1 < (l0.length : Int)) = true := decide_eq_true c4
          clear c4
          by_cases c5 : 0 ≤ x5_1
          · rw [if_pos c5] at H
            have c5b0 : decide (0 ≤ x5_1) = true := decide_eq_true c5
            clear c5
            by_cases c6 : x5_1 < (l1.length : Int)
            · rw [if_pos c6] at H
              have c6b0 : decide (x5_1 < (l1.length : Int)) = true := decide_eq_true c6
              clear c6
              by_cases c7 : (rd l0 x5_1) = (rd l1 x5_1)
              · rw [if_pos c7] at H
                have c7b0 : ((rd l0 x5_1) == (rd l1 x5_1)) = true := beq_iff_eq.mpr c7
                have c7b1 : ((rd l0 x5_1) != (rd l1 x5_1)) = false := bne_eq_false_iff_eq.mpr c7
                clear c7
                have H' := Aside0.mk H
                clear H
                have p74001 : 0 ≤ (x5_1 : Int) := of_decide_eq_true (by first | (with_reducible assumption) | assumption)
                have q74001 : x5_1 < (l0.length : Int) := of_decide_eq_true (by first | (with_reducible assumption) | assumption)
                obtain ⟨ad74001, e74001, hx74001_0⟩ := Kd.at_int HR0.out x5_1 p74001 q74001
                cases e74001
                replace p74001 := eq_true p74001
                replace q74001 := eq_true q74001
                have p74002 : 0 ≤ (x5_1 : Int) := of_decide_eq_true (by first | (with_reducible assumption) | assumption)
                have q74002 : x5_1 < (l1.length : Int) := of_decide_eq_true (by first | (with_reducible assumption) | assumption)
                obtain ⟨ad74002, e74002, hx74002_0⟩ := Kd.at_int HR1.out x5_1 p74002 q74002
                cases e74002
                replace p74002 := eq_true p74002
                replace q74002 := eq_true q74002
                go_wp2
                repeat (go_quiet (fail); try go_wp2)
                go_roundg k1
                case measure => have := HK1.out; omega
                case rel => exact ⟨(wrap64 (x5_1 + 1)), (by first | rfl | (simp; done) | (simp [*]; done)), H', ⟨by have := HK1.out; omega⟩, by repeat (first | exact Drawn0.refl _ | apply Drawn0.step)⟩
              · rw [if_neg c7] at H
                have c7b0 : ((rd l0 x5_1) == (rd l1 x5_1)) = false := beq_eq_false_iff_ne.mpr c7
                have c7b1 : ((rd l0 x5_1) != (rd l1 x5_1)) = true := bne_iff_ne.mpr c7
                obtain rfl := Option.some.inj H
                have p74001 : 0 ≤ (x5_1 : Int) := of_decide_eq_true (by first | (with_reducible assumption) | assumption)
                have q74001 : x5_1 < (l0.length : Int) := of_decide_eq_true (by first | (with_reducible assumption) | assumption)
                obtain ⟨ad74001, e74001, hx74001_0⟩ := Kd.at_int HR0.out x5_1 p74001 q74001
                cases e74001
                replace p74001 := eq_true p74001
                replace q74001 := eq_true q74001
                have p74002 : 0 ≤ (x5_1 : Int) := of_decide_eq_true (by first | (with_reducible assumption) | assumption)
                have q74002 : x5_1 < (l1.length : Int) := of_decide_eq_true (by first | (with_reducible assumption) | assumption)
                obtain ⟨ad74002, e74002, hx74002_0⟩ := Kd.at_int HR1.out x5_1 p74002 q74002
                cases e74002
                replace p74002 := eq_true p74002
                replace q74002 := eq_true q74002
                go_wp2
                repeat (go_quiet (fail); try go_wp2)
                go_ret
                exact ⟨by first | rfl | (simp; done) | (simp [*]; done), by repeat (first | exact Drawn0.refl _ | apply Drawn0.step)⟩
            · rw [if_neg c6] at H
              exact absurd H (by simp)
          · rw [if_neg c5] at H
            exact absurd H (by simp)
        · rw [if_neg c4] at H
          have c4b0 : decide (x5_1 < (l0.length : Int)) = false := decide_eq_false c4
          clear c4
          obtain rfl := Option.some.inj H
          go_wp2
          repeat (go_quiet (fail); try go_wp2)
          go_ret
          exact ⟨by first | rfl | (simp; done) | (simp [*]; done), by repeat (first | exact Drawn0.refl _ | apply Drawn0.step)⟩
  · rw [if_neg c3] at H
    have c3b0 : ((l0.length : Int) == (l1.length : Int)) = false := beq_eq_false_iff_ne.mpr c3
    have c3b1 : ((l0.length : Int) != (l1.length : Int)) = true := bne_iff_ne.mpr c3
    have c3b2 : (l0.length == l1.length) = false := by first | simpa using c3 | (simp at c3 ⊢; omega)
    obtain rfl := Option.some.inj H
    go_enter Try.func73, Try.ntmps73
    go_wp2
    repeat (go_quiet (fail); try go_wp2)
    go_ret
    exact ⟨by first | rfl | (simp; done) | (simp [*]; done), by repeat (first | exact Drawn0.refl _ | apply Drawn0.step)⟩


theorem eqA50 (d : Nat) (w : World) (x0 y0 : Int) (x1 y1 : Int) (x2 y2 : Int) (x3 y3 : Int) :
    (Op.equalIn (d + 2) 50 (.agg #[.int .i64 x0, .int .i64 x1, .int .i64 x2, .int .i64 x3]) (.agg #[.int .i64 y0, .int .i64 y1, .int .i64 y2, .int .i64 y3])).run Try.prog w = .ok (x0 == y0 && (x1 == y1 && (x2 == y2 && (x3 == y3)))) w := by
  refine eqA_of Try.underlying50 (by kernel_rfl) ?_
  refine eqf_cons (by rfl) (by go_simp; rfl) (by go_simp; rfl) (by go_simp) ?_
  refine eqf_cons (by rfl) (by go_simp; rfl) (by go_simp; rfl) (by go_simp) ?_
  refine eqf_cons (by rfl) (by go_simp; rfl) (by go_simp; rfl) (by go_simp) ?_
  exact eqf_last (by rfl) (by go_simp; rfl) (by go_simp; rfl) (by go_simp)
end Go.Proofs.Ytgfjccegehnjcaa.Q

namespace Go.Proofs.Ytgfjccegehnjcaa.Q
open Go.RowKit Go.Proofs.YtgfjccegehnjcaaW.PrintWords Go.Proofs.YtgfjccegehnjcaaW.PrintLast Go.Proofs.YtgfjccegehnjcaaW.PrintMore
attribute [local go_sem] max2_int min2_int max_two min_two max_three min_three max_four min_four
set_option linter.unusedVariables false
set_option linter.unusedSimpArgs false
attribute [local go_sem high] eqA50
def laws_equalSteps.l0 : Nat → List (S59) → List (S59) → Int → Option (Bool)
  | 0, _, _, _ => none
  | k + 1, x0, x1, x5 => if x5 < (x0.length : Int) then (if 0 ≤ x5 then (if x5 < (x1.length : Int) then (if ((rd_T59 x0 x5).f0) = ((rd_T59 x1 x5).f0) then (if (!(((rd_T59 x0 x5).f1.f0) == ((rd_T59 x1 x5).f1.f0)) || (!(((rd_T59 x0 x5).f1.f1) == ((rd_T59 x1 x5).f1.f1)) || (!(((rd_T59 x0 x5).f1.f2) == ((rd_T59 x1 x5).f1.f2)) || (!(((rd_T59 x0 x5).f1.f3) == ((rd_T59 x1 x5).f1.f3)))))) = true then (some false) else ((laws_equalInts.f k ((rd_T59 x0 x5).f2) ((rd_T59 x1 x5).f2)).bind fun t40007 => (if t40007 = true then (laws_equalSteps.l0 k x0 x1 (wrap64 (x5 + 1))) else (some false)))) else (some false)) else (none)) else (none)) else (some true)
def laws_equalSteps.f (k : Nat) (l0 : List (S59)) (l1 : List (S59)) : Option (Bool) := if (l0.length : Int) = (l1.length : Int) then (laws_equalSteps.l0 k l0 l1 0) else (some false)
def laws_equalSteps.T6 : Bool × List (List Nat × List Nat) := (true, [([], []), ([], []), ([0, 1], [0, 1]), ([2], [2]), ([3], [3]), ([], []), ([], []), ([5, 6], [5, 6]), ([7], [7]), ([8], [8]), ([4, 9], [4, 9]), ([10], [10]), ([11], [11]), ([11], [11]), ([12, 13, 11], [11, 12, 13]), ([14, 11], [11, 14]), ([15, 11], [11, 15]), ([11], [11]), ([11], [11]), ([17, 18, 11], [11, 17, 18]), ([19, 11], [11, 19]), ([20, 11], [11, 20]), ([16, 21, 11], [11, 16, 21]), ([11, 22], [11, 22]), ([23, 11], [23]), ([24], [24]), ([24], [24]), ([25, 26, 24], [24, 25, 26]), ([27, 24], [24, 27]), ([28, 24], [24, 28]), ([24], [24]), ([24], [24]), ([30, 31, 24], [24, 30, 31]), ([32, 24], [24, 32]), ([33, 24], [24, 33]), ([29, 34, 24, 24], [24, 29, 34]), ([35, 24], [24, 35]), ([24, 36], [24, 36])])
def laws_equalSteps.B6 : List Nat := [0, 0, 3, 7, 15, 0, 0, 96, 224, 480, 1023, 2047, 4095, 4095, 16383, 32767, 65535, 4095, 4095, 397311, 921599, 1970175, 4194303, 8388607, 16777215, 33554431, 33554431, 134217727, 268435455, 536870911, 33554431, 33554431, 3254779903, 7549747199, 16139681791, 34359738367, 68719476735, 137438953471]
theorem laws_equalSteps.tab6 : rtab .any (opsOf Try.f39 6) = laws_equalSteps.T6 := by kernel_rfl
theorem laws_equalSteps.bits6 : waitsOk laws_equalSteps.T6.2 laws_equalSteps.B6 = true := by kernel_rfl
set_option maxHeartbeats 8000000 in
set_option maxRecDepth 100000 in
theorem laws_equalSteps.calls (k : Nat) (A0 : Option Addr) (c0 : Nat) (l0 : List (S59)) (A1 : Option Addr) (c1 : Nat) (l1 : List (S59)) (r : Bool) (w : World) (hr0 : Kd.C k59 w A0 l0.length l0) (hc0 : l0.length ≤ c0) (hr1 : Kd.C k59 w A1 l1.length l1) (hc1 : l1.length ≤ c1) (h : laws_equalSteps.f k l0 l1 = some r) :
    Calls Try.prog 39 #[.slice A0 l0.length c0, .slice A1 l1.length c1] w fun e w' => e = .returned (.bool r) ∧ Below w.heap.size w w' := by
  have hu50 := Try.underlying50
  have HR0 := Aside0.mk hr0
  have HC0 := Aside0.mk hc0
  clear hr0 hc0
  have HR1 := Aside0.mk hr1
  have HC1 := Aside0.mk hc1
  clear hr1 hc1
  have HB := Aside0.mk (Below.refl w.heap.size w)
  have H : (if (l0.length : Int) = (l1.length : Int) then (laws_equalSteps.l0 k l0 l1 0) else (some false)) = some r := h
  clear h
  by_cases c3 : (l0.length : Int) = (l1.length : Int)
  · rw [if_pos c3] at H
    have c3b0 : ((l0.length : Int) == (l1.length : Int)) = true := beq_iff_eq.mpr c3
    have c3b1 : ((l0.length : Int) != (l1.length : Int)) = false := bne_eq_false_iff_eq.mpr c3
    have c3b2 : (l0.length == l1.length) = true := by first | simpa using c3 | (simp at c3 ⊢; omega)
    clear c3
    have H' := Aside0.mk H
    clear H
    go_enter Try.func39, Try.ntmps39
    go_wp2
    go_loopg [5] k (fun kq v5 w' => ∃ (x5_1 : Int), v5 = .int .i64 x5_1 ∧ Aside0 (laws_equalSteps.l0 kq l0 l1 x5_1 = some r) ∧ Aside0 (kq ≤ k) ∧ Aside0 (Below w.heap.size w w'))
    case atStart => exact ⟨(0), (by first | rfl | (simp; done) | (simp [*]; done)), H', ⟨Nat.le_refl _⟩, ⟨by repeat (first | (with_reducible first | exact HB.out | apply below_alloc | apply pw_below_drewN | apply below_drew1) | exact HB.out)⟩⟩
    case round =>
      clear H'
      try clear c1
      try clear p2
      try clear c3
      try clear c3b0
      try clear c3b1
      try clear c3b2
      obtain ⟨x5_1, rfl, HA, HK1, HB⟩ := hrel
      cases gk with
      | zero => exact absurd HA.out (by simp [laws_equalSteps.l0])
      | succ k1 =>
        have H := HA.out
        clear HA
        simp only [laws_equalSteps.l0] at H
        by_cases c4 : x5_1 < (l0.length : Int)
        · rw [if_pos c4] at H
          have c4b0 : decide (x5_1 < (l0.length : Int)) = true := decide_eq_true c4
          clear c4
          by_cases c5 : 0 ≤ x5_1
          · rw [if_pos c5] at H
            have c5b0 : decide (0 ≤ x5_1) = true := decide_eq_true c5
            clear c5
            by_cases c6 : x5_1 < (l1.length : Int)
            · rw [if_pos c6] at H
              have c6b0 : decide (x5_1 < (l1.length : Int)) = true := decide_eq_true c6
              clear c6
              by_cases c7 : ((rd_T59 l0 x5_1).f0) = ((rd_T59 l1 x5_1).f0)
              · rw [if_pos c7] at H
                have c7b0 : (((rd_T59 l0 x5_1).f0) == ((rd_T59 l1 x5_1).f0)) = true := beq_iff_eq.mpr c7
                have c7b1 : (((rd_T59 l0 x5_1).f0) != ((rd_T59 l1 x5_1).f0)) = false := bne_eq_false_iff_eq.mpr c7
                clear c7
                by_cases c8 : (!(((rd_T59 l0 x5_1).f1.f0) == ((rd_T59 l1 x5_1).f1.f0)) || (!(((rd_T59 l0 x5_1).f1.f1) == ((rd_T59 l1 x5_1).f1.f1)) || (!(((rd_T59 l0 x5_1).f1.f2) == ((rd_T59 l1 x5_1).f1.f2)) || (!(((rd_T59 l0 x5_1).f1.f3) == ((rd_T59 l1 x5_1).f1.f3)))))) = true
                · rw [if_pos c8] at H
                  have c8b0 : (!(((rd_T59 l0 x5_1).f1.f0) == ((rd_T59 l1 x5_1).f1.f0)) || (!(((rd_T59 l0 x5_1).f1.f1) == ((rd_T59 l1 x5_1).f1.f1)) || (!(((rd_T59 l0 x5_1).f1.f2) == ((rd_T59 l1 x5_1).f1.f2)) || (!(((rd_T59 l0 x5_1).f1.f3) == ((rd_T59 l1 x5_1).f1.f3)))))) = true := c8
                  clear c8
                  obtain rfl := Option.some.inj H
                  try go_wp2
                  have n0_ := Aside0.mk (below_drew1 HB.out)
                  clear HB
                  have HB := n0_
                  clear n0_
                  have p40001 : 0 ≤ (x5_1 : Int) := of_decide_eq_true (by first | (with_reducible assumption) | assumption)
                  have q40001 : x5_1 < (l0.length : Int) := of_decide_eq_true (by first | (with_reducible assumption) | assumption)
                  obtain ⟨ad40001, A40001_5, c40001_5, e40001, hx40001_0, hx40001_1, hx40001_2, hx40001_3, hx40001_4, hx40001_5, hl40001_5, hi40001_5⟩ := at_T59 HR0.out x5_1 p40001 q40001
                  have hw40001_5 := hx40001_5
                  have hw40001_4 := hx40001_4
                  have hw40001_3 := hx40001_3
                  have hw40001_2 := hx40001_2
                  have hw40001_1 := hx40001_1
                  have hw40001_0 := hx40001_0
                  cases e40001
                  replace hx40001_0 := (HB.out.cell (World.block_lt_of_cell? w _ hx40001_0)).trans hx40001_0
                  replace hx40001_1 := (HB.out.cell (World.block_lt_of_cell? w _ hx40001_1)).trans hx40001_1
                  replace hx40001_2 := (HB.out.cell (World.block_lt_of_cell? w _ hx40001_2)).trans hx40001_2
                  replace hx40001_3 := (HB.out.cell (World.block_lt_of_cell? w _ hx40001_3)).trans hx40001_3
                  replace hx40001_4 := (HB.out.cell (World.block_lt_of_cell? w _ hx40001_4)).trans hx40001_4
                  replace hx40001_5 := (HB.out.cell (World.block_lt_of_cell? w _ hx40001_5)).trans hx40001_5
                  have HR40001_5 := Aside0.mk hi40001_5
                  have HC40001_5 := Aside0.mk hl40001_5
                  clear hi40001_5 hl40001_5
                  replace p40001 := eq_true p40001
                  replace q40001 := eq_true q40001
                  have p40002 : 0 ≤ (x5_1 : Int) := of_decide_eq_true (by first | (with_reducible assumption) | assumption)
                  have q40002 : x5_1 < (l1.length : Int) := of_decide_eq_true (by first | (with_reducible assumption) | assumption)
                  obtain ⟨ad40002, A40002_5, c40002_5, e40002, hx40002_0, hx40002_1, hx40002_2, hx40002_3, hx40002_4, hx40002_5, hl40002_5, hi40002_5⟩ := at_T59 HR1.out x5_1 p40002 q40002
                  have hw40002_5 := hx40002_5
                  have hw40002_4 := hx40002_4
                  have hw40002_3 := hx40002_3
                  have hw40002_2 := hx40002_2
                  have hw40002_1 := hx40002_1
                  have hw40002_0 := hx40002_0
                  cases e40002
                  replace hx40002_0 := (HB.out.cell (World.block_lt_of_cell? w _ hx40002_0)).trans hx40002_0
                  replace hx40002_1 := (HB.out.cell (World.block_lt_of_cell? w _ hx40002_1)).trans hx40002_1
                  replace hx40002_2 := (HB.out.cell (World.block_lt_of_cell? w _ hx40002_2)).trans hx40002_2
                  replace hx40002_3 := (HB.out.cell (World.block_lt_of_cell? w _ hx40002_3)).trans hx40002_3
                  replace hx40002_4 := (HB.out.cell (World.block_lt_of_cell? w _ hx40002_4)).trans hx40002_4
                  replace hx40002_5 := (HB.out.cell (World.block_lt_of_cell? w _ hx40002_5)).trans hx40002_5
                  have HR40002_5 := Aside0.mk hi40002_5
                  have HC40002_5 := Aside0.mk hl40002_5
                  clear hi40002_5 hl40002_5
                  replace p40002 := eq_true p40002
                  replace q40002 := eq_true q40002
                  have p40003 : 0 ≤ (x5_1 : Int) := of_decide_eq_true (by first | (with_reducible assumption) | assumption)
                  have q40003 : x5_1 < (l0.length : Int) := of_decide_eq_true (by first | (with_reducible assumption) | assumption)
                  obtain ⟨ad40003, A40003_5, c40003_5, e40003, hx40003_0, hx40003_1, hx40003_2, hx40003_3, hx40003_4, hx40003_5, hl40003_5, hi40003_5⟩ := at_T59 HR0.out x5_1 p40003 q40003
                  have hw40003_5 := hx40003_5
                  have hw40003_4 := hx40003_4
                  have hw40003_3 := hx40003_3
                  have hw40003_2 := hx40003_2
                  have hw40003_1 := hx40003_1
                  have hw40003_0 := hx40003_0
                  obtain rfl : ad40001 = ad40003 := (by injection e40003)
                  replace hx40003_0 := (HB.out.cell (World.block_lt_of_cell? w _ hx40003_0)).trans hx40003_0
                  replace hx40003_1 := (HB.out.cell (World.block_lt_of_cell? w _ hx40003_1)).trans hx40003_1
                  replace hx40003_2 := (HB.out.cell (World.block_lt_of_cell? w _ hx40003_2)).trans hx40003_2
                  replace hx40003_3 := (HB.out.cell (World.block_lt_of_cell? w _ hx40003_3)).trans hx40003_3
                  replace hx40003_4 := (HB.out.cell (World.block_lt_of_cell? w _ hx40003_4)).trans hx40003_4
                  replace hx40003_5 := (HB.out.cell (World.block_lt_of_cell? w _ hx40003_5)).trans hx40003_5
                  have HR40003_5 := Aside0.mk hi40003_5
                  have HC40003_5 := Aside0.mk hl40003_5
                  clear hi40003_5 hl40003_5
                  replace p40003 := eq_true p40003
                  replace q40003 := eq_true q40003
                  have ea_ := Option.some.inj (hx40001_5.symm.trans hx40003_5)
                  injection ea_ with ea_ en_ ec_
                  subst ea_
                  subst ec_
                  clear en_
                  have p40004 : 0 ≤ (x5_1 : Int) := of_decide_eq_true (by first | (with_reducible assumption) | assumption)
                  have q40004 : x5_1 < (l1.length : Int) := of_decide_eq_true (by first | (with_reducible assumption) | assumption)
                  obtain ⟨ad40004, A40004_5, c40004_5, e40004, hx40004_0, hx40004_1, hx40004_2, hx40004_3, hx40004_4, hx40004_5, hl40004_5, hi40004_5⟩ := at_T59 HR1.out x5_1 p40004 q40004
                  have hw40004_5 := hx40004_5
                  have hw40004_4 := hx40004_4
                  have hw40004_3 := hx40004_3
                  have hw40004_2 := hx40004_2
                  have hw40004_1 := hx40004_1
                  have hw40004_0 := hx40004_0
                  obtain rfl : ad40002 = ad40004 := (by injection e40004)
                  replace hx40004_0 := (HB.out.cell (World.block_lt_of_cell? w _ hx40004_0)).trans hx40004_0
                  replace hx40004_1 := (HB.out.cell (World.block_lt_of_cell? w _ hx40004_1)).trans hx40004_1
                  replace hx40004_2 := (HB.out.cell (World.block_lt_of_cell? w _ hx40004_2)).trans hx40004_2
                  replace hx40004_3 := (HB.out.cell (World.block_lt_of_cell? w _ hx40004_3)).trans hx40004_3
                  replace hx40004_4 := (HB.out.cell (World.block_lt_of_cell? w _ hx40004_4)).trans hx40004_4
                  replace hx40004_5 := (HB.out.cell (World.block_lt_of_cell? w _ hx40004_5)).trans hx40004_5
                  have HR40004_5 := Aside0.mk hi40004_5
                  have HC40004_5 := Aside0.mk hl40004_5
                  clear hi40004_5 hl40004_5
                  replace p40004 := eq_true p40004
                  replace q40004 := eq_true q40004
                  have ea_ := Option.some.inj (hx40002_5.symm.trans hx40004_5)
                  injection ea_ with ea_ en_ ec_
                  subst ea_
                  subst ec_
                  clear en_
                  refine start_ (n := 38) (S := fun w' => w'.cell? (ad40001.add ((x5_1).toNat * 6)) = some (.int .i64 ((rd_T59 l0 x5_1).f0)) ∧ w'.cell? ⟨(ad40001.add ((x5_1).toNat * 6)).block, (ad40001.add ((x5_1).toNat * 6)).off + 1, none⟩ = some (.int .i64 ((rd_T59 l0 x5_1).f1.f0)) ∧ w'.cell? ⟨(ad40001.add ((x5_1).toNat * 6)).block, (ad40001.add ((x5_1).toNat * 6)).off + 2, none⟩ = some (.int .i64 ((rd_T59 l0 x5_1).f1.f1)) ∧ w'.cell? ⟨(ad40001.add ((x5_1).toNat * 6)).block, (ad40001.add ((x5_1).toNat * 6)).off + 3, none⟩ = some (.int .i64 ((rd_T59 l0 x5_1).f1.f2)) ∧ w'.cell? ⟨(ad40001.add ((x5_1).toNat * 6)).block, (ad40001.add ((x5_1).toNat * 6)).off + 4, none⟩ = some (.int .i64 ((rd_T59 l0 x5_1).f1.f3)) ∧ w'.cell? ⟨(ad40001.add ((x5_1).toNat * 6)).block, (ad40001.add ((x5_1).toNat * 6)).off + 5, none⟩ = some (.slice A40001_5 ((rd_T59 l0 x5_1).f2).length c40001_5) ∧ w'.cell? (ad40002.add ((x5_1).toNat * 6)) = some (.int .i64 ((rd_T59 l1 x5_1).f0)) ∧ w'.cell? ⟨(ad40002.add ((x5_1).toNat * 6)).block, (ad40002.add ((x5_1).toNat * 6)).off + 1, none⟩ = some (.int .i64 ((rd_T59 l1 x5_1).f1.f0)) ∧ w'.cell? ⟨(ad40002.add ((x5_1).toNat * 6)).block, (ad40002.add ((x5_1).toNat * 6)).off + 2, none⟩ = some (.int .i64 ((rd_T59 l1 x5_1).f1.f1)) ∧ w'.cell? ⟨(ad40002.add ((x5_1).toNat * 6)).block, (ad40002.add ((x5_1).toNat * 6)).off + 3, none⟩ = some (.int .i64 ((rd_T59 l1 x5_1).f1.f2)) ∧ w'.cell? ⟨(ad40002.add ((x5_1).toNat * 6)).block, (ad40002.add ((x5_1).toNat * 6)).off + 4, none⟩ = some (.int .i64 ((rd_T59 l1 x5_1).f1.f3)) ∧ w'.cell? ⟨(ad40002.add ((x5_1).toNat * 6)).block, (ad40002.add ((x5_1).toNat * 6)).off + 5, none⟩ = some (.slice A40002_5 ((rd_T59 l1 x5_1).f2).length c40002_5) ∧ w'.cell? (ad40001.add ((x5_1).toNat * 6)) = some (.int .i64 ((rd_T59 l0 x5_1).f0)) ∧ w'.cell? ⟨(ad40001.add ((x5_1).toNat * 6)).block, (ad40001.add ((x5_1).toNat * 6)).off + 1, none⟩ = some (.int .i64 ((rd_T59 l0 x5_1).f1.f0)) ∧ w'.cell? ⟨(ad40001.add ((x5_1).toNat * 6)).block, (ad40001.add ((x5_1).toNat * 6)).off + 2, none⟩ = some (.int .i64 ((rd_T59 l0 x5_1).f1.f1)) ∧ w'.cell? ⟨(ad40001.add ((x5_1).toNat * 6)).block, (ad40001.add ((x5_1).toNat * 6)).off + 3, none⟩ = some (.int .i64 ((rd_T59 l0 x5_1).f1.f2)) ∧ w'.cell? ⟨(ad40001.add ((x5_1).toNat * 6)).block, (ad40001.add ((x5_1).toNat * 6)).off + 4, none⟩ = some (.int .i64 ((rd_T59 l0 x5_1).f1.f3)) ∧ w'.cell? ⟨(ad40001.add ((x5_1).toNat * 6)).block, (ad40001.add ((x5_1).toNat * 6)).off + 5, none⟩ = some (.slice A40001_5 ((rd_T59 l0 x5_1).f2).length c40001_5) ∧ w'.cell? (ad40002.add ((x5_1).toNat * 6)) = some (.int .i64 ((rd_T59 l1 x5_1).f0)) ∧ w'.cell? ⟨(ad40002.add ((x5_1).toNat * 6)).block, (ad40002.add ((x5_1).toNat * 6)).off + 1, none⟩ = some (.int .i64 ((rd_T59 l1 x5_1).f1.f0)) ∧ w'.cell? ⟨(ad40002.add ((x5_1).toNat * 6)).block, (ad40002.add ((x5_1).toNat * 6)).off + 2, none⟩ = some (.int .i64 ((rd_T59 l1 x5_1).f1.f1)) ∧ w'.cell? ⟨(ad40002.add ((x5_1).toNat * 6)).block, (ad40002.add ((x5_1).toNat * 6)).off + 3, none⟩ = some (.int .i64 ((rd_T59 l1 x5_1).f1.f2)) ∧ w'.cell? ⟨(ad40002.add ((x5_1).toNat * 6)).block, (ad40002.add ((x5_1).toNat * 6)).off + 4, none⟩ = some (.int .i64 ((rd_T59 l1 x5_1).f1.f3)) ∧ w'.cell? ⟨(ad40002.add ((x5_1).toNat * 6)).block, (ad40002.add ((x5_1).toNat * 6)).off + 5, none⟩ = some (.slice A40002_5 ((rd_T59 l1 x5_1).f2).length c40002_5)) (ds := []) #[false, false, false, false, false, false, false, false, false, false, false, false, false, false, false, false, false, false, false, false, false, false, false, false, false, false, false, false, false, false, false, false, false, false, false, false, false, false] (by kernel_rfl) rfl rfl ⟨((HB.out.cell (World.block_lt_of_cell? w _ hw40001_0)).trans hw40001_0), ((HB.out.cell (World.block_lt_of_cell? w _ hw40001_1)).trans hw40001_1), ((HB.out.cell (World.block_lt_of_cell? w _ hw40001_2)).trans hw40001_2), ((HB.out.cell (World.block_lt_of_cell? w _ hw40001_3)).trans hw40001_3), ((HB.out.cell (World.block_lt_of_cell? w _ hw40001_4)).trans hw40001_4), ((HB.out.cell (World.block_lt_of_cell? w _ hw40001_5)).trans hw40001_5), ((HB.out.cell (World.block_lt_of_cell? w _ hw40002_0)).trans hw40002_0), ((HB.out.cell (World.block_lt_of_cell? w _ hw40002_1)).trans hw40002_1), ((HB.out.cell (World.block_lt_of_cell? w _ hw40002_2)).trans hw40002_2), ((HB.out.cell (World.block_lt_of_cell? w _ hw40002_3)).trans hw40002_3), ((HB.out.cell (World.block_lt_of_cell? w _ hw40002_4)).trans hw40002_4), ((HB.out.cell (World.block_lt_of_cell? w _ hw40002_5)).trans hw40002_5), ((HB.out.cell (World.block_lt_of_cell? w _ hw40003_0)).trans hw40003_0), ((HB.out.cell (World.block_lt_of_cell? w _ hw40003_1)).trans hw40003_1), ((HB.out.cell (World.block_lt_of_cell? w _ hw40003_2)).trans hw40003_2), ((HB.out.cell (World.block_lt_of_cell? w _ hw40003_3)).trans hw40003_3), ((HB.out.cell (World.block_lt_of_cell? w _ hw40003_4)).trans hw40003_4), ((HB.out.cell (World.block_lt_of_cell? w _ hw40003_5)).trans hw40003_5), ((HB.out.cell (World.block_lt_of_cell? w _ hw40004_0)).trans hw40004_0), ((HB.out.cell (World.block_lt_of_cell? w _ hw40004_1)).trans hw40004_1), ((HB.out.cell (World.block_lt_of_cell? w _ hw40004_2)).trans hw40004_2), ((HB.out.cell (World.block_lt_of_cell? w _ hw40004_3)).trans hw40004_3), ((HB.out.cell (World.block_lt_of_cell? w _ hw40004_4)).trans hw40004_4), ((HB.out.cell (World.block_lt_of_cell? w _ hw40004_5)).trans hw40004_5)⟩ (fun hHeld => ?_); refine with_tabW laws_equalSteps.tab6 laws_equalSteps.bits6 (fun HT_ HW_ => ?_)
                  generalize wr.drew = w9 at HB HR40001_5 HR40002_5 HR40003_5 HR40004_5 hx40001_0 hx40001_1 hx40001_2 hx40001_3 hx40001_4 hx40001_5 hx40002_0 hx40002_1 hx40002_2 hx40002_3 hx40002_4 hx40002_5 hx40003_0 hx40003_1 hx40003_2 hx40003_3 hx40003_4 hx40003_5 hx40004_0 hx40004_1 hx40004_2 hx40004_3 hx40004_4 hx40004_5 hHeld ⊢
                  refine pure_ (i := 0) (N := some 17) (v := ?_) (a' := ?_) #[true, false, false, false, false, false, false, false, false, false, false, false, false, false, false, false, false, false, false, false, false, false, false, false, false, false, false, false, false, false, false, false, false, false, false, false, false, false] rfl rfl (any_of HT_.out (by kernel_rfl)) (fun _ _ _ h => h) (Or.inl ⟨by rfl, ?_⟩) ?_ ?_
                  rotate_left
                  · intro w'
                    go_simp
                    with_reducible rfl
                  rotate_left
                  · simp only [Act.put, List.setIfInBounds_toArray, List.set_cons_zero, List.set_cons_succ, i64_w, i32_w]
                    rfl
                  refine pure_ (i := 1) (N := some 18) (v := ?_) (a' := ?_) #[true, true, false, false, false, false, false, false, false, false, false, false, false, false, false, false, false, false, false, false, false, false, false, false, false, false, false, false, false, false, false, false, false, false, false, false, false, false] rfl rfl (any_of HT_.out (by kernel_rfl)) (fun _ _ _ h => h) (Or.inl ⟨by rfl, ?_⟩) ?_ ?_
                  rotate_left
                  · intro w'
                    go_simp
                    with_reducible rfl
                  rotate_left
                  · simp only [Act.put, List.setIfInBounds_toArray, List.set_cons_zero, List.set_cons_succ, i64_w, i32_w]
                    rfl
                  refine pure_ (i := 2) (N := some 19) (v := ?_) (a' := ?_) #[true, true, true, false, false, false, false, false, false, false, false, false, false, false, false, false, false, false, false, false, false, false, false, false, false, false, false, false, false, false, false, false, false, false, false, false, false, false] rfl rfl (any_of HT_.out (by kernel_rfl)) (fun _ _ _ h => h) (Or.inl ⟨by rfl, ?_⟩) ?_ ?_
                  rotate_left
                  · intro w'
                    go_simp
                    with_reducible rfl
                  rotate_left
                  · simp only [Act.put, List.setIfInBounds_toArray, List.set_cons_zero, List.set_cons_succ, i64_w, i32_w]
                    rfl
                  refine pure_ (i := 3) (N := some 20) (v := ?_) (a' := ?_) #[true, true, true, true, false, false, false, false, false, false, false, false, false, false, false, false, false, false, false, false, false, false, false, false, false, false, false, false, false, false, false, false, false, false, false, false, false, false] rfl rfl (any_of HT_.out (by kernel_rfl)) (fun _ _ _ h => h) (Or.inl ⟨by rfl, ?_⟩) ?_ ?_
                  rotate_left
                  · intro w'
                    go_simp
                    with_reducible rfl
                  rotate_left
                  · simp only [Act.put, List.setIfInBounds_toArray, List.set_cons_zero, List.set_cons_succ, i64_w, i32_w]
                    rfl
                  refine pure_ (i := 5) (N := some 22) (v := ?_) (a' := ?_) #[true, true, true, true, false, true, false, false, false, false, false, false, false, false, false, false, false, false, false, false, false, false, false, false, false, false, false, false, false, false, false, false, false, false, false, false, false, false] rfl rfl (any_of HT_.out (by kernel_rfl)) (fun _ _ _ h => h) (Or.inl ⟨by rfl, ?_⟩) ?_ ?_
                  rotate_left
                  · intro w'
                    go_simp
                    with_reducible rfl
                  rotate_left
                  · simp only [Act.put, List.setIfInBounds_toArray, List.set_cons_zero, List.set_cons_succ, i64_w, i32_w]
                    rfl
                  refine pure_ (i := 6) (N := some 23) (v := ?_) (a' := ?_) #[true, true, true, true, false, true, true, false, false, false, false, false, false, false, false, false, false, false, false, false, false, false, false, false, false, false, false, false, false, false, false, false, false, false, false, false, false, false] rfl rfl (any_of HT_.out (by kernel_rfl)) (fun _ _ _ h => h) (Or.inl ⟨by rfl, ?_⟩) ?_ ?_
                  rotate_left
                  · intro w'
                    go_simp
                    with_reducible rfl
                  rotate_left
                  · simp only [Act.put, List.setIfInBounds_toArray, List.set_cons_zero, List.set_cons_succ, i64_w, i32_w]
                    rfl
                  refine pure_ (i := 7) (N := some 24) (v := ?_) (a' := ?_) #[true, true, true, true, false, true, true, true, false, false, false, false, false, false, false, false, false, false, false, false, false, false, false, false, false, false, false, false, false, false, false, false, false, false, false, false, false, false] rfl rfl (any_of HT_.out (by kernel_rfl)) (fun _ _ _ h => h) (Or.inl ⟨by rfl, ?_⟩) ?_ ?_
                  rotate_left
                  · intro w'
                    go_simp
                    with_reducible rfl
                  rotate_left
                  · simp only [Act.put, List.setIfInBounds_toArray, List.set_cons_zero, List.set_cons_succ, i64_w, i32_w]
                    rfl
                  refine pure_ (i := 8) (N := some 25) (v := ?_) (a' := ?_) #[true, true, true, true, false, true, true, true, true, false, false, false, false, false, false, false, false, false, false, false, false, false, false, false, false, false, false, false, false, false, false, false, false, false, false, false, false, false] rfl rfl (any_of HT_.out (by kernel_rfl)) (fun _ _ _ h => h) (Or.inl ⟨by rfl, ?_⟩) ?_ ?_
                  rotate_left
                  · intro w'
                    go_simp
                    with_reducible rfl
                  rotate_left
                  · simp only [Act.put, List.setIfInBounds_toArray, List.set_cons_zero, List.set_cons_succ, i64_w, i32_w]
                    rfl
                  refine take_ (i := 4) (N := some 21) (v := ?_) (a' := ?_) #[true, true, true, true, true, true, true, true, true, false, false, false, false, false, false, false, false, false, false, false, false, false, false, false, false, false, false, false, false, false, false, false, false, false, false, false, false, false] rfl rfl (take_ofW HT_.out HW_.out (by kernel_rfl)) (fun _ _ _ h => h) (Or.inl ⟨by rfl, ?_⟩) hHeld ?_ ?_
                  rotate_left
                  · rintro w' ⟨s0, s1, s2, s3, s4, s5, s6, s7, s8, s9, s10, s11, s12, s13, s14, s15, s16, s17, s18, s19, s20, s21, s22, s23⟩
                    go_simp
                    with_reducible rfl
                  rotate_left
                  · simp only [Act.put, List.setIfInBounds_toArray, List.set_cons_zero, List.set_cons_succ, i64_w, i32_w]
                    rfl
                  refine take_ (i := 9) (N := some 26) (v := ?_) (a' := ?_) #[true, true, true, true, true, true, true, true, true, true, false, false, false, false, false, false, false, false, false, false, false, false, false, false, false, false, false, false, false, false, false, false, false, false, false, false, false, false] rfl rfl (take_ofW HT_.out HW_.out (by kernel_rfl)) (fun _ _ _ h => h) (Or.inl ⟨by rfl, ?_⟩) hHeld ?_ ?_
                  rotate_left
                  · rintro w' ⟨s0, s1, s2, s3, s4, s5, s6, s7, s8, s9, s10, s11, s12, s13, s14, s15, s16, s17, s18, s19, s20, s21, s22, s23⟩
                    go_simp
                    with_reducible rfl
                  rotate_left
                  · simp only [Act.put, List.setIfInBounds_toArray, List.set_cons_zero, List.set_cons_succ, i64_w, i32_w]
                    rfl
                  refine pure_ (i := 10) (N := some 27) (v := ?_) (a' := ?_) #[true, true, true, true, true, true, true, true, true, true, true, false, false, false, false, false, false, false, false, false, false, false, false, false, false, false, false, false, false, false, false, false, false, false, false, false, false, false] rfl rfl (any_of HT_.out (by kernel_rfl)) (fun _ _ _ h => h) (Or.inl ⟨by rfl, ?_⟩) ?_ ?_
                  rotate_left
                  · intro w'
                    go_simp
                    with_reducible rfl
                  rotate_left
                  · simp only [Act.put, List.setIfInBounds_toArray, List.set_cons_zero, List.set_cons_succ, i64_w, i32_w]
                    rfl
                  refine pure_ (i := 11) (N := some 28) (v := ?_) (a' := ?_) #[true, true, true, true, true, true, true, true, true, true, true, true, false, false, false, false, false, false, false, false, false, false, false, false, false, false, false, false, false, false, false, false, false, false, false, false, false, false] rfl rfl (any_of HT_.out (by kernel_rfl)) (fun _ _ _ h => h) (Or.inl ⟨by rfl, ?_⟩) ?_ ?_
                  rotate_left
                  · intro w'
                    go_simp
                    with_reducible rfl
                  rotate_left
                  · simp only [Act.put, List.setIfInBounds_toArray, List.set_cons_zero, List.set_cons_succ, i64_w, i32_w]
                    rfl
                  refine pure_ (i := 12) (N := some 29) (v := ?_) (a' := ?_) #[true, true, true, true, true, true, true, true, true, true, true, true, true, false, false, false, false, false, false, false, false, false, false, false, false, false, false, false, false, false, false, false, false, false, false, false, false, false] rfl rfl (any_of HT_.out (by kernel_rfl)) (fun _ _ _ h => h) (Or.inl ⟨by rfl, ?_⟩) ?_ ?_
                  rotate_left
                  · intro w'
                    go_simp
                    with_reducible rfl
                  rotate_left
                  · simp only [Act.put, List.setIfInBounds_toArray, List.set_cons_zero, List.set_cons_succ, i64_w, i32_w]
                    rfl
                  refine pure_ (i := 13) (N := some 30) (v := ?_) (a' := ?_) #[true, true, true, true, true, true, true, true, true, true, true, true, true, true, false, false, false, false, false, false, false, false, false, false, false, false, false, false, false, false, false, false, false, false, false, false, false, false] rfl rfl (any_of HT_.out (by kernel_rfl)) (fun _ _ _ h => h) (Or.inl ⟨by rfl, ?_⟩) ?_ ?_
                  rotate_left
                  · intro w'
                    go_simp
                    with_reducible rfl
                  rotate_left
                  · simp only [Act.put, List.setIfInBounds_toArray, List.set_cons_zero, List.set_cons_succ, i64_w, i32_w]
                    rfl
                  refine pure_ (i := 14) (N := some 31) (v := ?_) (a' := ?_) #[true, true, true, true, true, true, true, true, true, true, true, true, true, true, true, false, false, false, false, false, false, false, false, false, false, false, false, false, false, false, false, false, false, false, false, false, false, false] rfl rfl (any_of HT_.out (by kernel_rfl)) (fun _ _ _ h => h) (Or.inl ⟨by rfl, ?_⟩) ?_ ?_
                  rotate_left
                  · intro w'
                    go_simp
                    with_reducible rfl
                  rotate_left
                  · simp only [Act.put, List.setIfInBounds_toArray, List.set_cons_zero, List.set_cons_succ, i64_w, i32_w]
                    rfl
                  refine pure_ (i := 15) (N := some 32) (v := ?_) (a' := ?_) #[true, true, true, true, true, true, true, true, true, true, true, true, true, true, true, true, false, false, false, false, false, false, false, false, false, false, false, false, false, false, false, false, false, false, false, false, false, false] rfl rfl (any_of HT_.out (by kernel_rfl)) (fun _ _ _ h => h) (Or.inl ⟨by rfl, ?_⟩) ?_ ?_
                  rotate_left
                  · intro w'
                    go_simp
                    with_reducible rfl
                  rotate_left
                  · simp only [Act.put, List.setIfInBounds_toArray, List.set_cons_zero, List.set_cons_succ, i64_w, i32_w]
                    rfl
                  refine pure_ (i := 17) (N := some 34) (v := ?_) (a' := ?_) #[true, true, true, true, true, true, true, true, true, true, true, true, true, true, true, true, false, true, false, false, false, false, false, false, false, false, false, false, false, false, false, false, false, false, false, false, false, false] rfl rfl (any_of HT_.out (by kernel_rfl)) (fun _ _ _ h => h) (Or.inl ⟨by rfl, ?_⟩) ?_ ?_
                  rotate_left
                  · intro w'
                    go_simp
                    with_reducible rfl
                  rotate_left
                  · simp only [Act.put, List.setIfInBounds_toArray, List.set_cons_zero, List.set_cons_succ, i64_w, i32_w]
                    rfl
                  refine pure_ (i := 18) (N := some 35) (v := ?_) (a' := ?_) #[true, true, true, true, true, true, true, true, true, true, true, true, true, true, true, true, false, true, true, false, false, false, false, false, false, false, false, false, false, false, false, false, false, false, false, false, false, false] rfl rfl (any_of HT_.out (by kernel_rfl)) (fun _ _ _ h => h) (Or.inl ⟨by rfl, ?_⟩) ?_ ?_
                  rotate_left
                  · intro w'
                    go_simp
                    with_reducible rfl
                  rotate_left
                  · simp only [Act.put, List.setIfInBounds_toArray, List.set_cons_zero, List.set_cons_succ, i64_w, i32_w]
                    rfl
                  refine pure_ (i := 19) (N := some 36) (v := ?_) (a' := ?_) #[true, true, true, true, true, true, true, true, true, true, true, true, true, true, true, true, false, true, true, true, false, false, false, false, false, false, false, false, false, false, false, false, false, false, false, false, false, false] rfl rfl (any_of HT_.out (by kernel_rfl)) (fun _ _ _ h => h) (Or.inl ⟨by rfl, ?_⟩) ?_ ?_
                  rotate_left
                  · intro w'
                    go_simp
                    with_reducible rfl
                  rotate_left
                  · simp only [Act.put, List.setIfInBounds_toArray, List.set_cons_zero, List.set_cons_succ, i64_w, i32_w]
                    rfl
                  refine pure_ (i := 20) (N := some 37) (v := ?_) (a' := ?_) #[true, true, true, true, true, true, true, true, true, true, true, true, true, true, true, true, false, true, true, true, true, false, false, false, false, false, false, false, false, false, false, false, false, false, false, false, false, false] rfl rfl (any_of HT_.out (by kernel_rfl)) (fun _ _ _ h => h) (Or.inl ⟨by rfl, ?_⟩) ?_ ?_
                  rotate_left
                  · intro w'
                    go_simp
                    with_reducible rfl
                  rotate_left
                  · simp only [Act.put, List.setIfInBounds_toArray, List.set_cons_zero, List.set_cons_succ, i64_w, i32_w]
                    rfl
                  refine take_ (i := 16) (N := some 33) (v := ?_) (a' := ?_) #[true, true, true, true, true, true, true, true, true, true, true, true, true, true, true, true, true, true, true, true, true, false, false, false, false, false, false, false, false, false, false, false, false, false, false, false, false, false] rfl rfl (take_ofW HT_.out HW_.out (by kernel_rfl)) (fun _ _ _ h => h) (Or.inl ⟨by rfl, ?_⟩) hHeld ?_ ?_
                  rotate_left
                  · rintro w' ⟨s0, s1, s2, s3, s4, s5, s6, s7, s8, s9, s10, s11, s12, s13, s14, s15, s16, s17, s18, s19, s20, s21, s22, s23⟩
                    go_simp
                    with_reducible rfl
                  rotate_left
                  · simp only [Act.put, List.setIfInBounds_toArray, List.set_cons_zero, List.set_cons_succ, i64_w, i32_w]
                    rfl
                  refine take_ (i := 21) (N := some 38) (v := ?_) (a' := ?_) #[true, true, true, true, true, true, true, true, true, true, true, true, true, true, true, true, true, true, true, true, true, true, false, false, false, false, false, false, false, false, false, false, false, false, false, false, false, false] rfl rfl (take_ofW HT_.out HW_.out (by kernel_rfl)) (fun _ _ _ h => h) (Or.inl ⟨by rfl, ?_⟩) hHeld ?_ ?_
                  rotate_left
                  · rintro w' ⟨s0, s1, s2, s3, s4, s5, s6, s7, s8, s9, s10, s11, s12, s13, s14, s15, s16, s17, s18, s19, s20, s21, s22, s23⟩
                    go_simp
                    with_reducible rfl
                  rotate_left
                  · simp only [Act.put, List.setIfInBounds_toArray, List.set_cons_zero, List.set_cons_succ, i64_w, i32_w]
                    rfl
                  refine pure_ (i := 22) (N := some 39) (v := ?_) (a' := ?_) #[true, true, true, true, true, true, true, true, true, true, true, true, true, true, true, true, true, true, true, true, true, true, true, false, false, false, false, false, false, false, false, false, false, false, false, false, false, false] rfl rfl (any_of HT_.out (by kernel_rfl)) (fun _ _ _ h => h) (Or.inl ⟨by rfl, ?_⟩) ?_ ?_
                  rotate_left
                  · intro w'
                    go_simp
                    with_reducible rfl
                  rotate_left
                  · simp only [Act.put, List.setIfInBounds_toArray, List.set_cons_zero, List.set_cons_succ, i64_w, i32_w]
                    rfl
                  refine pure_ (i := 23) (N := some 40) (v := ?_) (a' := ?_) #[true, true, true, true, true, true, true, true, true, true, true, true, true, true, true, true, true, true, true, true, true, true, true, true, false, false, false, false, false, false, false, false, false, false, false, false, false, false] rfl rfl (any_of HT_.out (by kernel_rfl)) (fun _ _ _ h => h) (Or.inl ⟨by rfl, ?_⟩) ?_ ?_
                  rotate_left
                  · intro w'
                    go_simp
                    with_reducible rfl
                  rotate_left
                  · simp only [Act.put, List.setIfInBounds_toArray, List.set_cons_zero, List.set_cons_succ, i64_w, i32_w]
                    rfl
                  refine pure_ (i := 24) (N := some 41) (v := ?_) (a' := ?_) #[true, true, true, true, true, true, true, true, true, true, true, true, true, true, true, true, true, true, true, true, true, true, true, true, true, false, false, false, false, false, false, false, false, false, false, false, false, false] rfl rfl (any_of HT_.out (by kernel_rfl)) (fun _ _ _ h => h) (Or.inl ⟨by rfl, ?_⟩) ?_ ?_
                  rotate_left
                  · intro w'
                    go_simp
                    with_reducible rfl
                  rotate_left
                  · simp only [Act.put, List.setIfInBounds_toArray, List.set_cons_zero, List.set_cons_succ, i64_w, i32_w]
                    rfl
                  refine pure_ (i := 25) (N := some 42) (v := undef) (a' := ?_) #[true, true, true, true, true, true, true, true, true, true, true, true, true, true, true, true, true, true, true, true, true, true, true, true, true, true, false, false, false, false, false, false, false, false, false, false, false, false] rfl rfl (any_of HT_.out (by kernel_rfl)) (fun _ _ _ h => h) (Or.inr ⟨by rfl, rfl⟩) ?_ ?_
                  rotate_left
                  · simp only [Act.put, List.setIfInBounds_toArray, List.set_cons_zero, List.set_cons_succ, i64_w, i32_w]
                    rfl
                  refine pure_ (i := 26) (N := some 43) (v := undef) (a' := ?_) #[true, true, true, true, true, true, true, true, true, true, true, true, true, true, true, true, true, true, true, true, true, true, true, true, true, true, true, false, false, false, false, false, false, false, false, false, false, false] rfl rfl (any_of HT_.out (by kernel_rfl)) (fun _ _ _ h => h) (Or.inr ⟨by rfl, rfl⟩) ?_ ?_
                  rotate_left
                  · simp only [Act.put, List.setIfInBounds_toArray, List.set_cons_zero, List.set_cons_succ, i64_w, i32_w]
                    rfl
                  refine pure_ (i := 27) (N := some 44) (v := undef) (a' := ?_) #[true, true, true, true, true, true, true, true, true, true, true, true, true, true, true, true, true, true, true, true, true, true, true, true, true, true, true, true, false, false, false, false, false, false, false, false, false, false] rfl rfl (any_of HT_.out (by kernel_rfl)) (fun _ _ _ h => h) (Or.inr ⟨by rfl, rfl⟩) ?_ ?_
                  rotate_left
                  · simp only [Act.put, List.setIfInBounds_toArray, List.set_cons_zero, List.set_cons_succ, i64_w, i32_w]
                    rfl
                  refine pure_ (i := 28) (N := some 45) (v := undef) (a' := ?_) #[true, true, true, true, true, true, true, true, true, true, true, true, true, true, true, true, true, true, true, true, true, true, true, true, true, true, true, true, true, false, false, false, false, false, false, false, false, false] rfl rfl (any_of HT_.out (by kernel_rfl)) (fun _ _ _ h => h) (Or.inr ⟨by rfl, rfl⟩) ?_ ?_
                  rotate_left
                  · simp only [Act.put, List.setIfInBounds_toArray, List.set_cons_zero, List.set_cons_succ, i64_w, i32_w]
                    rfl
                  refine pure_ (i := 29) (N := some 46) (v := undef) (a' := ?_) #[true, true, true, true, true, true, true, true, true, true, true, true, true, true, true, true, true, true, true, true, true, true, true, true, true, true, true, true, true, true, false, false, false, false, false, false, false, false] rfl rfl (any_of HT_.out (by kernel_rfl)) (fun _ _ _ h => h) (Or.inr ⟨by rfl, rfl⟩) ?_ ?_
                  rotate_left
                  · simp only [Act.put, List.setIfInBounds_toArray, List.set_cons_zero, List.set_cons_succ, i64_w, i32_w]
                    rfl
                  refine pure_ (i := 30) (N := some 47) (v := undef) (a' := ?_) #[true, true, true, true, true, true, true, true, true, true, true, true, true, true, true, true, true, true, true, true, true, true, true, true, true, true, true, true, true, true, true, false, false, false, false, false, false, false] rfl rfl (any_of HT_.out (by kernel_rfl)) (fun _ _ _ h => h) (Or.inr ⟨by rfl, rfl⟩) ?_ ?_
                  rotate_left
                  · simp only [Act.put, List.setIfInBounds_toArray, List.set_cons_zero, List.set_cons_succ, i64_w, i32_w]
                    rfl
                  refine pure_ (i := 31) (N := some 48) (v := undef) (a' := ?_) #[true, true, true, true, true, true, true, true, true, true, true, true, true, true, true, true, true, true, true, true, true, true, true, true, true, true, true, true, true, true, true, true, false, false, false, false, false, false] rfl rfl (any_of HT_.out (by kernel_rfl)) (fun _ _ _ h => h) (Or.inr ⟨by rfl, rfl⟩) ?_ ?_
                  rotate_left
                  · simp only [Act.put, List.setIfInBounds_toArray, List.set_cons_zero, List.set_cons_succ, i64_w, i32_w]
                    rfl
                  refine pure_ (i := 32) (N := some 49) (v := undef) (a' := ?_) #[true, true, true, true, true, true, true, true, true, true, true, true, true, true, true, true, true, true, true, true, true, true, true, true, true, true, true, true, true, true, true, true, true, false, false, false, false, false] rfl rfl (any_of HT_.out (by kernel_rfl)) (fun _ _ _ h => h) (Or.inr ⟨by rfl, rfl⟩) ?_ ?_
                  rotate_left
                  · simp only [Act.put, List.setIfInBounds_toArray, List.set_cons_zero, List.set_cons_succ, i64_w, i32_w]
                    rfl
                  refine pure_ (i := 33) (N := some 50) (v := undef) (a' := ?_) #[true, true, true, true, true, true, true, true, true, true, true, true, true, true, true, true, true, true, true, true, true, true, true, true, true, true, true, true, true, true, true, true, true, true, false, false, false, false] rfl rfl (any_of HT_.out (by kernel_rfl)) (fun _ _ _ h => h) (Or.inr ⟨by rfl, rfl⟩) ?_ ?_
                  rotate_left
                  · simp only [Act.put, List.setIfInBounds_toArray, List.set_cons_zero, List.set_cons_succ, i64_w, i32_w]
                    rfl
                  refine pure_ (i := 34) (N := some 51) (v := undef) (a' := ?_) #[true, true, true, true, true, true, true, true, true, true, true, true, true, true, true, true, true, true, true, true, true, true, true, true, true, true, true, true, true, true, true, true, true, true, true, false, false, false] rfl rfl (any_of HT_.out (by kernel_rfl)) (fun _ _ _ h => h) (Or.inr ⟨by rfl, rfl⟩) ?_ ?_
                  rotate_left
                  · simp only [Act.put, List.setIfInBounds_toArray, List.set_cons_zero, List.set_cons_succ, i64_w, i32_w]
                    rfl
                  refine pure_ (i := 35) (N := some 52) (v := undef) (a' := ?_) #[true, true, true, true, true, true, true, true, true, true, true, true, true, true, true, true, true, true, true, true, true, true, true, true, true, true, true, true, true, true, true, true, true, true, true, true, false, false] rfl rfl (any_of HT_.out (by kernel_rfl)) (fun _ _ _ h => h) (Or.inr ⟨by rfl, rfl⟩) ?_ ?_
                  rotate_left
                  · simp only [Act.put, List.setIfInBounds_toArray, List.set_cons_zero, List.set_cons_succ, i64_w, i32_w]
                    rfl
                  refine pure_ (i := 36) (N := some 53) (v := undef) (a' := ?_) #[true, true, true, true, true, true, true, true, true, true, true, true, true, true, true, true, true, true, true, true, true, true, true, true, true, true, true, true, true, true, true, true, true, true, true, true, true, false] rfl rfl (any_of HT_.out (by kernel_rfl)) (fun _ _ _ h => h) (Or.inr ⟨by rfl, rfl⟩) ?_ ?_
                  rotate_left
                  · simp only [Act.put, List.setIfInBounds_toArray, List.set_cons_zero, List.set_cons_succ, i64_w, i32_w]
                    rfl
                  refine pure_ (i := 37) (N := some 54) (v := ?_) (a' := ?_) #[true, true, true, true, true, true, true, true, true, true, true, true, true, true, true, true, true, true, true, true, true, true, true, true, true, true, true, true, true, true, true, true, true, true, true, true, true, true] rfl rfl (any_of HT_.out (by kernel_rfl)) (fun _ _ _ h => h) (Or.inl ⟨by rfl, ?_⟩) ?_ ?_
                  rotate_left
                  · intro w'
                    go_simp
                    with_reducible rfl
                  rotate_left
                  · simp only [Act.put, List.setIfInBounds_toArray, List.set_cons_zero, List.set_cons_succ, i64_w, i32_w]
                    rfl
                  refine done_ (done_of HT_.out (by kernel_rfl)) ?_
                  try go_wp2
                  go_ret
                  exact ⟨by first | rfl | (simp [errW_none, errW_some] <;> rfl) | (simp [*, errW_none, errW_some] <;> rfl), by repeat (first | (with_reducible first | exact HB.out | apply below_alloc | apply pw_below_drewN | apply below_drew1) | exact HB.out)⟩
                · rw [if_neg c8] at H
                  have c8b0 : (!(((rd_T59 l0 x5_1).f1.f0) == ((rd_T59 l1 x5_1).f1.f0)) || (!(((rd_T59 l0 x5_1).f1.f1) == ((rd_T59 l1 x5_1).f1.f1)) || (!(((rd_T59 l0 x5_1).f1.f2) == ((rd_T59 l1 x5_1).f1.f2)) || (!(((rd_T59 l0 x5_1).f1.f3) == ((rd_T59 l1 x5_1).f1.f3)))))) = false := by simpa using c8
                  clear c8
                  replace H := Option.bind_eq_some_iff.mp H
                  obtain ⟨t40007, A100, H⟩ := H
                  replace H : (if t40007 = true then (laws_equalSteps.l0 k1 l0 l1 (wrap64 (x5_1 + 1))) else (some false)) = some r := H
                  have A10 := Aside0.mk A100
                  clear A100
                  by_cases c11 : t40007 = true
                  · subst c11
                    have H1 : (laws_equalSteps.l0 k1 l0 l1 (wrap64 (x5_1 + 1))) = some r := by rw [if_pos rfl] at H; exact H
                    clear H
                    have H := H1
                    clear H1
                    have H' := Aside0.mk H
                    clear H
                    try go_wp2
                    have n0_ := Aside0.mk (below_drew1 HB.out)
                    clear HB
                    have HB := n0_
                    clear n0_
                    have p40001 : 0 ≤ (x5_1 : Int) := of_decide_eq_true (by first | (with_reducible assumption) | assumption)
                    have q40001 : x5_1 < (l0.length : Int) := of_decide_eq_true (by first | (with_reducible assumption) | assumption)
                    obtain ⟨ad40001, A40001_5, c40001_5, e40001, hx40001_0, hx40001_1, hx40001_2, hx40001_3, hx40001_4, hx40001_5, hl40001_5, hi40001_5⟩ := at_T59 HR0.out x5_1 p40001 q40001
                    have hw40001_5 := hx40001_5
                    have hw40001_4 := hx40001_4
                    have hw40001_3 := hx40001_3
                    have hw40001_2 := hx40001_2
                    have hw40001_1 := hx40001_1
                    have hw40001_0 := hx40001_0
                    cases e40001
                    replace hx40001_0 := (HB.out.cell (World.block_lt_of_cell? w _ hx40001_0)).trans hx40001_0
                    replace hx40001_1 := (HB.out.cell (World.block_lt_of_cell? w _ hx40001_1)).trans hx40001_1
                    replace hx40001_2 := (HB.out.cell (World.block_lt_of_cell? w _ hx40001_2)).trans hx40001_2
                    replace hx40001_3 := (HB.out.cell (World.block_lt_of_cell? w _ hx40001_3)).trans hx40001_3
                    replace hx40001_4 := (HB.out.cell (World.block_lt_of_cell? w _ hx40001_4)).trans hx40001_4
                    replace hx40001_5 := (HB.out.cell (World.block_lt_of_cell? w _ hx40001_5)).trans hx40001_5
                    have HR40001_5 := Aside0.mk hi40001_5
                    have HC40001_5 := Aside0.mk hl40001_5
                    clear hi40001_5 hl40001_5
                    replace p40001 := eq_true p40001
                    replace q40001 := eq_true q40001
                    have p40002 : 0 ≤ (x5_1 : Int) := of_decide_eq_true (by first | (with_reducible assumption) | assumption)
                    have q40002 : x5_1 < (l1.length : Int) := of_decide_eq_true (by first | (with_reducible assumption) | assumption)
                    obtain ⟨ad40002, A40002_5, c40002_5, e40002, hx40002_0, hx40002_1, hx40002_2, hx40002_3, hx40002_4, hx40002_5, hl40002_5, hi40002_5⟩ := at_T59 HR1.out x5_1 p40002 q40002
                    have hw40002_5 := hx40002_5
                    have hw40002_4 := hx40002_4
                    have hw40002_3 := hx40002_3
                    have hw40002_2 := hx40002_2
                    have hw40002_1 := hx40002_1
                    have hw40002_0 := hx40002_0
                    cases e40002
                    replace hx40002_0 := (HB.out.cell (World.block_lt_of_cell? w _ hx40002_0)).trans hx40002_0
                    replace hx40002_1 := (HB.out.cell (World.block_lt_of_cell? w _ hx40002_1)).trans hx40002_1
                    replace hx40002_2 := (HB.out.cell (World.block_lt_of_cell? w _ hx40002_2)).trans hx40002_2
                    replace hx40002_3 := (HB.out.cell (World.block_lt_of_cell? w _ hx40002_3)).trans hx40002_3
                    replace hx40002_4 := (HB.out.cell (World.block_lt_of_cell? w _ hx40002_4)).trans hx40002_4
                    replace hx40002_5 := (HB.out.cell (World.block_lt_of_cell? w _ hx40002_5)).trans hx40002_5
                    have HR40002_5 := Aside0.mk hi40002_5
                    have HC40002_5 := Aside0.mk hl40002_5
                    clear hi40002_5 hl40002_5
                    replace p40002 := eq_true p40002
                    replace q40002 := eq_true q40002
                    have p40003 : 0 ≤ (x5_1 : Int) := of_decide_eq_true (by first | (with_reducible assumption) | assumption)
                    have q40003 : x5_1 < (l0.length : Int) := of_decide_eq_true (by first | (with_reducible assumption) | assumption)
                    obtain ⟨ad40003, A40003_5, c40003_5, e40003, hx40003_0, hx40003_1, hx40003_2, hx40003_3, hx40003_4, hx40003_5, hl40003_5, hi40003_5⟩ := at_T59 HR0.out x5_1 p40003 q40003
                    have hw40003_5 := hx40003_5
                    have hw40003_4 := hx40003_4
                    have hw40003_3 := hx40003_3
                    have hw40003_2 := hx40003_2
                    have hw40003_1 := hx40003_1
                    have hw40003_0 := hx40003_0
                    obtain rfl : ad40001 = ad40003 := (by injection e40003)
                    replace hx40003_0 := (HB.out.cell (World.block_lt_of_cell? w _ hx40003_0)).trans hx40003_0
                    replace hx40003_1 := (HB.out.cell (World.block_lt_of_cell? w _ hx40003_1)).trans hx40003_1
                    replace hx40003_2 := (HB.out.cell (World.block_lt_of_cell? w _ hx40003_2)).trans hx40003_2
                    replace hx40003_3 := (HB.out.cell (World.block_lt_of_cell? w _ hx40003_3)).trans hx40003_3
                    replace hx40003_4 := (HB.out.cell (World.block_lt_of_cell? w _ hx40003_4)).trans hx40003_4
                    replace hx40003_5 := (HB.out.cell (World.block_lt_of_cell? w _ hx40003_5)).trans hx40003_5
                    have HR40003_5 := Aside0.mk hi40003_5
                    have HC40003_5 := Aside0.mk hl40003_5
                    clear hi40003_5 hl40003_5
                    replace p40003 := eq_true p40003
                    replace q40003 := eq_true q40003
                    have ea_ := Option.some.inj (hx40001_5.symm.trans hx40003_5)
                    injection ea_ with ea_ en_ ec_
                    subst ea_
                    subst ec_
                    clear en_
                    have p40004 : 0 ≤ (x5_1 : Int) := of_decide_eq_true (by first | (with_reducible assumption) | assumption)
                    have q40004 : x5_1 < (l1.length : Int) := of_decide_eq_true (by first | (with_reducible assumption) | assumption)
                    obtain ⟨ad40004, A40004_5, c40004_5, e40004, hx40004_0, hx40004_1, hx40004_2, hx40004_3, hx40004_4, hx40004_5, hl40004_5, hi40004_5⟩ := at_T59 HR1.out x5_1 p40004 q40004
                    have hw40004_5 := hx40004_5
                    have hw40004_4 := hx40004_4
                    have hw40004_3 := hx40004_3
                    have hw40004_2 := hx40004_2
                    have hw40004_1 := hx40004_1
                    have hw40004_0 := hx40004_0
                    obtain rfl : ad40002 = ad40004 := (by injection e40004)
                    replace hx40004_0 := (HB.out.cell (World.block_lt_of_cell? w _ hx40004_0)).trans hx40004_0
                    replace hx40004_1 := (HB.out.cell (World.block_lt_of_cell? w _ hx40004_1)).trans hx40004_1
                    replace hx40004_2 := (HB.out.cell (World.block_lt_of_cell? w _ hx40004_2)).trans hx40004_2
                    replace hx40004_3 := (HB.out.cell (World.block_lt_of_cell? w _ hx40004_3)).trans hx40004_3
                    replace hx40004_4 := (HB.out.cell (World.block_lt_of_cell? w _ hx40004_4)).trans hx40004_4
                    replace hx40004_5 := (HB.out.cell (World.block_lt_of_cell? w _ hx40004_5)).trans hx40004_5
                    have HR40004_5 := Aside0.mk hi40004_5
                    have HC40004_5 := Aside0.mk hl40004_5
                    clear hi40004_5 hl40004_5
                    replace p40004 := eq_true p40004
                    replace q40004 := eq_true q40004
                    have ea_ := Option.some.inj (hx40002_5.symm.trans hx40004_5)
                    injection ea_ with ea_ en_ ec_
                    subst ea_
                    subst ec_
                    clear en_
                    have p40005 : 0 ≤ (x5_1 : Int) := of_decide_eq_true (by first | (with_reducible assumption) | assumption)
                    have q40005 : x5_1 < (l0.length : Int) := of_decide_eq_true (by first | (with_reducible assumption) | assumption)
                    obtain ⟨ad40005, A40005_5, c40005_5, e40005, hx40005_0, hx40005_1, hx40005_2, hx40005_3, hx40005_4, hx40005_5, hl40005_5, hi40005_5⟩ := at_T59 HR0.out x5_1 p40005 q40005
                    have hw40005_5 := hx40005_5
                    have hw40005_4 := hx40005_4
                    have hw40005_3 := hx40005_3
                    have hw40005_2 := hx40005_2
                    have hw40005_1 := hx40005_1
                    have hw40005_0 := hx40005_0
                    obtain rfl : ad40001 = ad40005 := (by injection e40005)
                    replace hx40005_0 := (HB.out.cell (World.block_lt_of_cell? w _ hx40005_0)).trans hx40005_0
                    replace hx40005_1 := (HB.out.cell (World.block_lt_of_cell? w _ hx40005_1)).trans hx40005_1
                    replace hx40005_2 := (HB.out.cell (World.block_lt_of_cell? w _ hx40005_2)).trans hx40005_2
                    replace hx40005_3 := (HB.out.cell (World.block_lt_of_cell? w _ hx40005_3)).trans hx40005_3
                    replace hx40005_4 := (HB.out.cell (World.block_lt_of_cell? w _ hx40005_4)).trans hx40005_4
                    replace hx40005_5 := (HB.out.cell (World.block_lt_of_cell? w _ hx40005_5)).trans hx40005_5
                    have HR40005_5 := Aside0.mk hi40005_5
                    have HC40005_5 := Aside0.mk hl40005_5
                    clear hi40005_5 hl40005_5
                    replace p40005 := eq_true p40005
                    replace q40005 := eq_true q40005
                    have ea_ := Option.some.inj (hx40001_5.symm.trans hx40005_5)
                    injection ea_ with ea_ en_ ec_
                    subst ea_
                    subst ec_
                    clear en_
                    have p40006 : 0 ≤ (x5_1 : Int) := of_decide_eq_true (by first | (with_reducible assumption) | assumption)
                    have q40006 : x5_1 < (l1.length : Int) := of_decide_eq_true (by first | (with_reducible assumption) | assumption)
                    obtain ⟨ad40006, A40006_5, c40006_5, e40006, hx40006_0, hx40006_1, hx40006_2, hx40006_3, hx40006_4, hx40006_5, hl40006_5, hi40006_5⟩ := at_T59 HR1.out x5_1 p40006 q40006
                    have hw40006_5 := hx40006_5
                    have hw40006_4 := hx40006_4
                    have hw40006_3 := hx40006_3
                    have hw40006_2 := hx40006_2
                    have hw40006_1 := hx40006_1
                    have hw40006_0 := hx40006_0
                    obtain rfl : ad40002 = ad40006 := (by injection e40006)
                    replace hx40006_0 := (HB.out.cell (World.block_lt_of_cell? w _ hx40006_0)).trans hx40006_0
                    replace hx40006_1 := (HB.out.cell (World.block_lt_of_cell? w _ hx40006_1)).trans hx40006_1
                    replace hx40006_2 := (HB.out.cell (World.block_lt_of_cell? w _ hx40006_2)).trans hx40006_2
                    replace hx40006_3 := (HB.out.cell (World.block_lt_of_cell? w _ hx40006_3)).trans hx40006_3
                    replace hx40006_4 := (HB.out.cell (World.block_lt_of_cell? w _ hx40006_4)).trans hx40006_4
                    replace hx40006_5 := (HB.out.cell (World.block_lt_of_cell? w _ hx40006_5)).trans hx40006_5
                    have HR40006_5 := Aside0.mk hi40006_5
                    have HC40006_5 := Aside0.mk hl40006_5
                    clear hi40006_5 hl40006_5
                    replace p40006 := eq_true p40006
                    replace q40006 := eq_true q40006
                    have ea_ := Option.some.inj (hx40002_5.symm.trans hx40006_5)
                    injection ea_ with ea_ en_ ec_
                    subst ea_
                    subst ec_
                    clear en_
                    refine start_ (n := 38) (S := fun w' => w'.cell? (ad40001.add ((x5_1).toNat * 6)) = some (.int .i64 ((rd_T59 l0 x5_1).f0)) ∧ w'.cell? ⟨(ad40001.add ((x5_1).toNat * 6)).block, (ad40001.add ((x5_1).toNat * 6)).off + 1, none⟩ = some (.int .i64 ((rd_T59 l0 x5_1).f1.f0)) ∧ w'.cell? ⟨(ad40001.add ((x5_1).toNat * 6)).block, (ad40001.add ((x5_1).toNat * 6)).off + 2, none⟩ = some (.int .i64 ((rd_T59 l0 x5_1).f1.f1)) ∧ w'.cell? ⟨(ad40001.add ((x5_1).toNat * 6)).block, (ad40001.add ((x5_1).toNat * 6)).off + 3, none⟩ = some (.int .i64 ((rd_T59 l0 x5_1).f1.f2)) ∧ w'.cell? ⟨(ad40001.add ((x5_1).toNat * 6)).block, (ad40001.add ((x5_1).toNat * 6)).off + 4, none⟩ = some (.int .i64 ((rd_T59 l0 x5_1).f1.f3)) ∧ w'.cell? ⟨(ad40001.add ((x5_1).toNat * 6)).block, (ad40001.add ((x5_1).toNat * 6)).off + 5, none⟩ = some (.slice A40001_5 ((rd_T59 l0 x5_1).f2).length c40001_5) ∧ w'.cell? (ad40002.add ((x5_1).toNat * 6)) = some (.int .i64 ((rd_T59 l1 x5_1).f0)) ∧ w'.cell? ⟨(ad40002.add ((x5_1).toNat * 6)).block, (ad40002.add ((x5_1).toNat * 6)).off + 1, none⟩ = some (.int .i64 ((rd_T59 l1 x5_1).f1.f0)) ∧ w'.cell? ⟨(ad40002.add ((x5_1).toNat * 6)).block, (ad40002.add ((x5_1).toNat * 6)).off + 2, none⟩ = some (.int .i64 ((rd_T59 l1 x5_1).f1.f1)) ∧ w'.cell? ⟨(ad40002.add ((x5_1).toNat * 6)).block, (ad40002.add ((x5_1).toNat * 6)).off + 3, none⟩ = some (.int .i64 ((rd_T59 l1 x5_1).f1.f2)) ∧ w'.cell? ⟨(ad40002.add ((x5_1).toNat * 6)).block, (ad40002.add ((x5_1).toNat * 6)).off + 4, none⟩ = some (.int .i64 ((rd_T59 l1 x5_1).f1.f3)) ∧ w'.cell? ⟨(ad40002.add ((x5_1).toNat * 6)).block, (ad40002.add ((x5_1).toNat * 6)).off + 5, none⟩ = some (.slice A40002_5 ((rd_T59 l1 x5_1).f2).length c40002_5) ∧ w'.cell? (ad40001.add ((x5_1).toNat * 6)) = some (.int .i64 ((rd_T59 l0 x5_1).f0)) ∧ w'.cell? ⟨(ad40001.add ((x5_1).toNat * 6)).block, (ad40001.add ((x5_1).toNat * 6)).off + 1, none⟩ = some (.int .i64 ((rd_T59 l0 x5_1).f1.f0)) ∧ w'.cell? ⟨(ad40001.add ((x5_1).toNat * 6)).block, (ad40001.add ((x5_1).toNat * 6)).off + 2, none⟩ = some (.int .i64 ((rd_T59 l0 x5_1).f1.f1)) ∧ w'.cell? ⟨(ad40001.add ((x5_1).toNat * 6)).block, (ad40001.add ((x5_1).toNat * 6)).off + 3, none⟩ = some (.int .i64 ((rd_T59 l0 x5_1).f1.f2)) ∧ w'.cell? ⟨(ad40001.add ((x5_1).toNat * 6)).block, (ad40001.add ((x5_1).toNat * 6)).off + 4, none⟩ = some (.int .i64 ((rd_T59 l0 x5_1).f1.f3)) ∧ w'.cell? ⟨(ad40001.add ((x5_1).toNat * 6)).block, (ad40001.add ((x5_1).toNat * 6)).off + 5, none⟩ = some (.slice A40001_5 ((rd_T59 l0 x5_1).f2).length c40001_5) ∧ w'.cell? (ad40002.add ((x5_1).toNat * 6)) = some (.int .i64 ((rd_T59 l1 x5_1).f0)) ∧ w'.cell? ⟨(ad40002.add ((x5_1).toNat * 6)).block, (ad40002.add ((x5_1).toNat * 6)).off + 1, none⟩ = some (.int .i64 ((rd_T59 l1 x5_1).f1.f0)) ∧ w'.cell? ⟨(ad40002.add ((x5_1).toNat * 6)).block, (ad40002.add ((x5_1).toNat * 6)).off + 2, none⟩ = some (.int .i64 ((rd_T59 l1 x5_1).f1.f1)) ∧ w'.cell? ⟨(ad40002.add ((x5_1).toNat * 6)).block, (ad40002.add ((x5_1).toNat * 6)).off + 3, none⟩ = some (.int .i64 ((rd_T59 l1 x5_1).f1.f2)) ∧ w'.cell? ⟨(ad40002.add ((x5_1).toNat * 6)).block, (ad40002.add ((x5_1).toNat * 6)).off + 4, none⟩ = some (.int .i64 ((rd_T59 l1 x5_1).f1.f3)) ∧ w'.cell? ⟨(ad40002.add ((x5_1).toNat * 6)).block, (ad40002.add ((x5_1).toNat * 6)).off + 5, none⟩ = some (.slice A40002_5 ((rd_T59 l1 x5_1).f2).length c40002_5) ∧ w'.cell? (ad40001.add ((x5_1).toNat * 6)) = some (.int .i64 ((rd_T59 l0 x5_1).f0)) ∧ w'.cell? ⟨(ad40001.add ((x5_1).toNat * 6)).block, (ad40001.add ((x5_1).toNat * 6)).off + 1, none⟩ = some (.int .i64 ((rd_T59 l0 x5_1).f1.f0)) ∧ w'.cell? ⟨(ad40001.add ((x5_1).toNat * 6)).block, (ad40001.add ((x5_1).toNat * 6)).off + 2, none⟩ = some (.int .i64 ((rd_T59 l0 x5_1).f1.f1)) ∧ w'.cell? ⟨(ad40001.add ((x5_1).toNat * 6)).block, (ad40001.add ((x5_1).toNat * 6)).off + 3, none⟩ = some (.int .i64 ((rd_T59 l0 x5_1).f1.f2)) ∧ w'.cell? ⟨(ad40001.add ((x5_1).toNat * 6)).block, (ad40001.add ((x5_1).toNat * 6)).off + 4, none⟩ = some (.int .i64 ((rd_T59 l0 x5_1).f1.f3)) ∧ w'.cell? ⟨(ad40001.add ((x5_1).toNat * 6)).block, (ad40001.add ((x5_1).toNat * 6)).off + 5, none⟩ = some (.slice A40001_5 ((rd_T59 l0 x5_1).f2).length c40001_5) ∧ w'.cell? (ad40002.add ((x5_1).toNat * 6)) = some (.int .i64 ((rd_T59 l1 x5_1).f0)) ∧ w'.cell? ⟨(ad40002.add ((x5_1).toNat * 6)).block, (ad40002.add ((x5_1).toNat * 6)).off + 1, none⟩ = some (.int .i64 ((rd_T59 l1 x5_1).f1.f0)) ∧ w'.cell? ⟨(ad40002.add ((x5_1).toNat * 6)).block, (ad40002.add ((x5_1).toNat * 6)).off + 2, none⟩ = some (.int .i64 ((rd_T59 l1 x5_1).f1.f1)) ∧ w'.cell? ⟨(ad40002.add ((x5_1).toNat * 6)).block, (ad40002.add ((x5_1).toNat * 6)).off + 3, none⟩ = some (.int .i64 ((rd_T59 l1 x5_1).f1.f2)) ∧ w'.cell? ⟨(ad40002.add ((x5_1).toNat * 6)).block, (ad40002.add ((x5_1).toNat * 6)).off + 4, none⟩ = some (.int .i64 ((rd_T59 l1 x5_1).f1.f3)) ∧ w'.cell? ⟨(ad40002.add ((x5_1).toNat * 6)).block, (ad40002.add ((x5_1).toNat * 6)).off + 5, none⟩ = some (.slice A40002_5 ((rd_T59 l1 x5_1).f2).length c40002_5)) (ds := []) #[false, false, false, false, false, false, false, false, false, false, false, false, false, false, false, false, false, false, false, false, false, false, false, false, false, false, false, false, false, false, false, false, false, false, false, false, false, false] (by kernel_rfl) rfl rfl ⟨((HB.out.cell (World.block_lt_of_cell? w _ hw40001_0)).trans hw40001_0), ((HB.out.cell (World.block_lt_of_cell? w _ hw40001_1)).trans hw40001_1), ((HB.out.cell (World.block_lt_of_cell? w _ hw40001_2)).trans hw40001_2), ((HB.out.cell (World.block_lt_of_cell? w _ hw40001_3)).trans hw40001_3), ((HB.out.cell (World.block_lt_of_cell? w _ hw40001_4)).trans hw40001_4), ((HB.out.cell (World.block_lt_of_cell? w _ hw40001_5)).trans hw40001_5), ((HB.out.cell (World.block_lt_of_cell? w _ hw40002_0)).trans hw40002_0), ((HB.out.cell (World.block_lt_of_cell? w _ hw40002_1)).trans hw40002_1), ((HB.out.cell (World.block_lt_of_cell? w _ hw40002_2)).trans hw40002_2), ((HB.out.cell (World.block_lt_of_cell? w _ hw40002_3)).trans hw40002_3), ((HB.out.cell (World.block_lt_of_cell? w _ hw40002_4)).trans hw40002_4), ((HB.out.cell (World.block_lt_of_cell? w _ hw40002_5)).trans hw40002_5), ((HB.out.cell (World.block_lt_of_cell? w _ hw40003_0)).trans hw40003_0), ((HB.out.cell (World.block_lt_of_cell? w _ hw40003_1)).trans hw40003_1), ((HB.out.cell (World.block_lt_of_cell? w _ hw40003_2)).trans hw40003_2), ((HB.out.cell (World.block_lt_of_cell? w _ hw40003_3)).trans hw40003_3), ((HB.out.cell (World.block_lt_of_cell? w _ hw40003_4)).trans hw40003_4), ((HB.out.cell (World.block_lt_of_cell? w _ hw40003_5)).trans hw40003_5), ((HB.out.cell (World.block_lt_of_cell? w _ hw40004_0)).trans hw40004_0), ((HB.out.cell (World.block_lt_of_cell? w _ hw40004_1)).trans hw40004_1), ((HB.out.cell (World.block_lt_of_cell? w _ hw40004_2)).trans hw40004_2), ((HB.out.cell (World.block_lt_of_cell? w _ hw40004_3)).trans hw40004_3), ((HB.out.cell (World.block_lt_of_cell? w _ hw40004_4)).trans hw40004_4), ((HB.out.cell (World.block_lt_of_cell? w _ hw40004_5)).trans hw40004_5), ((HB.out.cell (World.block_lt_of_cell? w _ hw40005_0)).trans hw40005_0), ((HB.out.cell (World.block_lt_of_cell? w _ hw40005_1)).trans hw40005_1), ((HB.out.cell (World.block_lt_of_cell? w _ hw40005_2)).trans hw40005_2), ((HB.out.cell (World.block_lt_of_cell? w _ hw40005_3)).trans hw40005_3), ((HB.out.cell (World.block_lt_of_cell? w _ hw40005_4)).trans hw40005_4), ((HB.out.cell (World.block_lt_of_cell? w _ hw40005_5)).trans hw40005_5), ((HB.out.cell (World.block_lt_of_cell? w _ hw40006_0)).trans hw40006_0), ((HB.out.cell (World.block_lt_of_cell? w _ hw40006_1)).trans hw40006_1), ((HB.out.cell (World.block_lt_of_cell? w _ hw40006_2)).trans hw40006_2), ((HB.out.cell (World.block_lt_of_cell? w _ hw40006_3)).trans hw40006_3), ((HB.out.cell (World.block_lt_of_cell? w _ hw40006_4)).trans hw40006_4), ((HB.out.cell (World.block_lt_of_cell? w _ hw40006_5)).trans hw40006_5)⟩ (fun hHeld => ?_); refine with_tabW laws_equalSteps.tab6 laws_equalSteps.bits6 (fun HT_ HW_ => ?_)
                    generalize wr.drew = w12 at HB HR40001_5 HR40002_5 HR40003_5 HR40004_5 HR40005_5 HR40006_5 hx40001_0 hx40001_1 hx40001_2 hx40001_3 hx40001_4 hx40001_5 hx40002_0 hx40002_1 hx40002_2 hx40002_3 hx40002_4 hx40002_5 hx40003_0 hx40003_1 hx40003_2 hx40003_3 hx40003_4 hx40003_5 hx40004_0 hx40004_1 hx40004_2 hx40004_3 hx40004_4 hx40004_5 hx40005_0 hx40005_1 hx40005_2 hx40005_3 hx40005_4 hx40005_5 hx40006_0 hx40006_1 hx40006_2 hx40006_3 hx40006_4 hx40006_5 hHeld ⊢
                    refine pure_ (i := 0) (N := some 17) (v := ?_) (a' := ?_) #[true, false, false, false, false, false, false, false, false, false, false, false, false, false, false, false, false, false, false, false, false, false, false, false, false, false, false, false, false, false, false, false, false, false, false, false, false, false] rfl rfl (any_of HT_.out (by kernel_rfl)) (fun _ _ _ h => h) (Or.inl ⟨by rfl, ?_⟩) ?_ ?_
                    rotate_left
                    · intro w'
                      go_simp
                      with_reducible rfl
                    rotate_left
                    · simp only [Act.put, List.setIfInBounds_toArray, List.set_cons_zero, List.set_cons_succ, i64_w, i32_w]
                      rfl
                    refine pure_ (i := 1) (N := some 18) (v := ?_) (a' := ?_) #[true, true, false, false, false, false, false, false, false, false, false, false, false, false, false, false, false, false, false, false, false, false, false, false, false, false, false, false, false, false, false, false, false, false, false, false, false, false] rfl rfl (any_of HT_.out (by kernel_rfl)) (fun _ _ _ h => h) (Or.inl ⟨by rfl, ?_⟩) ?_ ?_
                    rotate_left
                    · intro w'
                      go_simp
                      with_reducible rfl
                    rotate_left
                    · simp only [Act.put, List.setIfInBounds_toArray, List.set_cons_zero, List.set_cons_succ, i64_w, i32_w]
                      rfl
                    refine pure_ (i := 2) (N := some 19) (v := ?_) (a' := ?_) #[true, true, true, false, false, false, false, false, false, false, false, false, false, false, false, false, false, false, false, false, false, false, false, false, false, false, false, false, false, false, false, false, false, false, false, false, false, false] rfl rfl (any_of HT_.out (by kernel_rfl)) (fun _ _ _ h => h) (Or.inl ⟨by rfl, ?_⟩) ?_ ?_
                    rotate_left
                    · intro w'
                      go_simp
                      with_reducible rfl
                    rotate_left
                    · simp only [Act.put, List.setIfInBounds_toArray, List.set_cons_zero, List.set_cons_succ, i64_w, i32_w]
                      rfl
                    refine pure_ (i := 3) (N := some 20) (v := ?_) (a' := ?_) #[true, true, true, true, false, false, false, false, false, false, false, false, false, false, false, false, false, false, false, false, false, false, false, false, false, false, false, false, false, false, false, false, false, false, false, false, false, false] rfl rfl (any_of HT_.out (by kernel_rfl)) (fun _ _ _ h => h) (Or.inl ⟨by rfl, ?_⟩) ?_ ?_
                    rotate_left
                    · intro w'
                      go_simp
                      with_reducible rfl
                    rotate_left
                    · simp only [Act.put, List.setIfInBounds_toArray, List.set_cons_zero, List.set_cons_succ, i64_w, i32_w]
                      rfl
                    refine pure_ (i := 5) (N := some 22) (v := ?_) (a' := ?_) #[true, true, true, true, false, true, false, false, false, false, false, false, false, false, false, false, false, false, false, false, false, false, false, false, false, false, false, false, false, false, false, false, false, false, false, false, false, false] rfl rfl (any_of HT_.out (by kernel_rfl)) (fun _ _ _ h => h) (Or.inl ⟨by rfl, ?_⟩) ?_ ?_
                    rotate_left
                    · intro w'
                      go_simp
                      with_reducible rfl
                    rotate_left
                    · simp only [Act.put, List.setIfInBounds_toArray, List.set_cons_zero, List.set_cons_succ, i64_w, i32_w]
                      rfl
                    refine pure_ (i := 6) (N := some 23) (v := ?_) (a' := ?_) #[true, true, true, true, false, true, true, false, false, false, false, false, false, false, false, false, false, false, false, false, false, false, false, false, false, false, false, false, false, false, false, false, false, false, false, false, false, false] rfl rfl (any_of HT_.out (by kernel_rfl)) (fun _ _ _ h => h) (Or.inl ⟨by rfl, ?_⟩) ?_ ?_
                    rotate_left
                    · intro w'
                      go_simp
                      with_reducible rfl
                    rotate_left
                    · simp only [Act.put, List.setIfInBounds_toArray, List.set_cons_zero, List.set_cons_succ, i64_w, i32_w]
                      rfl
                    refine pure_ (i := 7) (N := some 24) (v := ?_) (a' := ?_) #[true, true, true, true, false, true, true, true, false, false, false, false, false, false, false, false, false, false, false, false, false, false, false, false, false, false, false, false, false, false, false, false, false, false, false, false, false, false] rfl rfl (any_of HT_.out (by kernel_rfl)) (fun _ _ _ h => h) (Or.inl ⟨by rfl, ?_⟩) ?_ ?_
                    rotate_left
                    · intro w'
                      go_simp
                      with_reducible rfl
                    rotate_left
                    · simp only [Act.put, List.setIfInBounds_toArray, List.set_cons_zero, List.set_cons_succ, i64_w, i32_w]
                      rfl
                    refine pure_ (i := 8) (N := some 25) (v := ?_) (a' := ?_) #[true, true, true, true, false, true, true, true, true, false, false, false, false, false, false, false, false, false, false, false, false, false, false, false, false, false, false, false, false, false, false, false, false, false, false, false, false, false] rfl rfl (any_of HT_.out (by kernel_rfl)) (fun _ _ _ h => h) (Or.inl ⟨by rfl, ?_⟩) ?_ ?_
                    rotate_left
                    · intro w'
                      go_simp
                      with_reducible rfl
                    rotate_left
                    · simp only [Act.put, List.setIfInBounds_toArray, List.set_cons_zero, List.set_cons_succ, i64_w, i32_w]
                      rfl
                    refine take_ (i := 4) (N := some 21) (v := ?_) (a' := ?_) #[true, true, true, true, true, true, true, true, true, false, false, false, false, false, false, false, false, false, false, false, false, false, false, false, false, false, false, false, false, false, false, false, false, false, false, false, false, false] rfl rfl (take_ofW HT_.out HW_.out (by kernel_rfl)) (fun _ _ _ h => h) (Or.inl ⟨by rfl, ?_⟩) hHeld ?_ ?_
                    rotate_left
                    · rintro w' ⟨s0, s1, s2, s3, s4, s5, s6, s7, s8, s9, s10, s11, s12, s13, s14, s15, s16, s17, s18, s19, s20, s21, s22, s23, s24, s25, s26, s27, s28, s29, s30, s31, s32, s33, s34, s35⟩
                      go_simp
                      with_reducible rfl
                    rotate_left
                    · simp only [Act.put, List.setIfInBounds_toArray, List.set_cons_zero, List.set_cons_succ, i64_w, i32_w]
                      rfl
                    refine take_ (i := 9) (N := some 26) (v := ?_) (a' := ?_) #[true, true, true, true, true, true, true, true, true, true, false, false, false, false, false, false, false, false, false, false, false, false, false, false, false, false, false, false, false, false, false, false, false, false, false, false, false, false] rfl rfl (take_ofW HT_.out HW_.out (by kernel_rfl)) (fun _ _ _ h => h) (Or.inl ⟨by rfl, ?_⟩) hHeld ?_ ?_
                    rotate_left
                    · rintro w' ⟨s0, s1, s2, s3, s4, s5, s6, s7, s8, s9, s10, s11, s12, s13, s14, s15, s16, s17, s18, s19, s20, s21, s22, s23, s24, s25, s26, s27, s28, s29, s30, s31, s32, s33, s34, s35⟩
                      go_simp
                      with_reducible rfl
                    rotate_left
                    · simp only [Act.put, List.setIfInBounds_toArray, List.set_cons_zero, List.set_cons_succ, i64_w, i32_w]
                      rfl
                    refine pure_ (i := 10) (N := some 27) (v := ?_) (a' := ?_) #[true, true, true, true, true, true, true, true, true, true, true, false, false, false, false, false, false, false, false, false, false, false, false, false, false, false, false, false, false, false, false, false, false, false, false, false, false, false] rfl rfl (any_of HT_.out (by kernel_rfl)) (fun _ _ _ h => h) (Or.inl ⟨by rfl, ?_⟩) ?_ ?_
                    rotate_left
                    · intro w'
                      go_simp
                      with_reducible rfl
                    rotate_left
                    · simp only [Act.put, List.setIfInBounds_toArray, List.set_cons_zero, List.set_cons_succ, i64_w, i32_w]
                      rfl
                    refine pure_ (i := 11) (N := some 28) (v := ?_) (a' := ?_) #[true, true, true, true, true, true, true, true, true, true, true, true, false, false, false, false, false, false, false, false, false, false, false, false, false, false, false, false, false, false, false, false, false, false, false, false, false, false] rfl rfl (any_of HT_.out (by kernel_rfl)) (fun _ _ _ h => h) (Or.inl ⟨by rfl, ?_⟩) ?_ ?_
                    rotate_left
                    · intro w'
                      go_simp
                      with_reducible rfl
                    rotate_left
                    · simp only [Act.put, List.setIfInBounds_toArray, List.set_cons_zero, List.set_cons_succ, i64_w, i32_w]
                      rfl
                    refine pure_ (i := 12) (N := some 29) (v := ?_) (a' := ?_) #[true, true, true, true, true, true, true, true, true, true, true, true, true, false, false, false, false, false, false, false, false, false, false, false, false, false, false, false, false, false, false, false, false, false, false, false, false, false] rfl rfl (any_of HT_.out (by kernel_rfl)) (fun _ _ _ h => h) (Or.inl ⟨by rfl, ?_⟩) ?_ ?_
                    rotate_left
                    · intro w'
                      go_simp
                      with_reducible rfl
                    rotate_left
                    · simp only [Act.put, List.setIfInBounds_toArray, List.set_cons_zero, List.set_cons_succ, i64_w, i32_w]
                      rfl
                    refine pure_ (i := 13) (N := some 30) (v := ?_) (a' := ?_) #[true, true, true, true, true, true, true, true, true, true, true, true, true, true, false, false, false, false, false, false, false, false, false, false, false, false, false, false, false, false, false, false, false, false, false, false, false, false] rfl rfl (any_of HT_.out (by kernel_rfl)) (fun _ _ _ h => h) (Or.inl ⟨by rfl, ?_⟩) ?_ ?_
                    rotate_left
                    · intro w'
                      go_simp
                      with_reducible rfl
                    rotate_left
                    · simp only [Act.put, List.setIfInBounds_toArray, List.set_cons_zero, List.set_cons_succ, i64_w, i32_w]
                      rfl
                    refine pure_ (i := 14) (N := some 31) (v := ?_) (a' := ?_) #[true, true, true, true, true, true, true, true, true, true, true, true, true, true, true, false, false, false, false, false, false, false, false, false, false, false, false, false, false, false, false, false, false, false, false, false, false, false] rfl rfl (any_of HT_.out (by kernel_rfl)) (fun _ _ _ h => h) (Or.inl ⟨by rfl, ?_⟩) ?_ ?_
                    rotate_left
                    · intro w'
                      go_simp
                      with_reducible rfl
                    rotate_left
                    · simp only [Act.put, List.setIfInBounds_toArray, List.set_cons_zero, List.set_cons_succ, i64_w, i32_w]
                      rfl
                    refine pure_ (i := 15) (N := some 32) (v := ?_) (a' := ?_) #[true, true, true, true, true, true, true, true, true, true, true, true, true, true, true, true, false, false, false, false, false, false, false, false, false, false, false, false, false, false, false, false, false, false, false, false, false, false] rfl rfl (any_of HT_.out (by kernel_rfl)) (fun _ _ _ h => h) (Or.inl ⟨by rfl, ?_⟩) ?_ ?_
                    rotate_left
                    · intro w'
                      go_simp
                      with_reducible rfl
                    rotate_left
                    · simp only [Act.put, List.setIfInBounds_toArray, List.set_cons_zero, List.set_cons_succ, i64_w, i32_w]
                      rfl
                    refine pure_ (i := 17) (N := some 34) (v := ?_) (a' := ?_) #[true, true, true, true, true, true, true, true, true, true, true, true, true, true, true, true, false, true, false, false, false, false, false, false, false, false, false, false, false, false, false, false, false, false, false, false, false, false] rfl rfl (any_of HT_.out (by kernel_rfl)) (fun _ _ _ h => h) (Or.inl ⟨by rfl, ?_⟩) ?_ ?_
                    rotate_left
                    · intro w'
                      go_simp
                      with_reducible rfl
                    rotate_left
                    · simp only [Act.put, List.setIfInBounds_toArray, List.set_cons_zero, List.set_cons_succ, i64_w, i32_w]
                      rfl
                    refine pure_ (i := 18) (N := some 35) (v := ?_) (a' := ?_) #[true, true, true, true, true, true, true, true, true, true, true, true, true, true, true, true, false, true, true, false, false, false, false, false, false, false, false, false, false, false, false, false, false, false, false, false, false, false] rfl rfl (any_of HT_.out (by kernel_rfl)) (fun _ _ _ h => h) (Or.inl ⟨by rfl, ?_⟩) ?_ ?_
                    rotate_left
                    · intro w'
                      go_simp
                      with_reducible rfl
                    rotate_left
                    · simp only [Act.put, List.setIfInBounds_toArray, List.set_cons_zero, List.set_cons_succ, i64_w, i32_w]
                      rfl
                    refine pure_ (i := 19) (N := some 36) (v := ?_) (a' := ?_) #[true, true, true, true, true, true, true, true, true, true, true, true, true, true, true, true, false, true, true, true, false, false, false, false, false, false, false, false, false, false, false, false, false, false, false, false, false, false] rfl rfl (any_of HT_.out (by kernel_rfl)) (fun _ _ _ h => h) (Or.inl ⟨by rfl, ?_⟩) ?_ ?_
                    rotate_left
                    · intro w'
                      go_simp
                      with_reducible rfl
                    rotate_left
                    · simp only [Act.put, List.setIfInBounds_toArray, List.set_cons_zero, List.set_cons_succ, i64_w, i32_w]
                      rfl
                    refine pure_ (i := 20) (N := some 37) (v := ?_) (a' := ?_) #[true, true, true, true, true, true, true, true, true, true, true, true, true, true, true, true, false, true, true, true, true, false, false, false, false, false, false, false, false, false, false, false, false, false, false, false, false, false] rfl rfl (any_of HT_.out (by kernel_rfl)) (fun _ _ _ h => h) (Or.inl ⟨by rfl, ?_⟩) ?_ ?_
                    rotate_left
                    · intro w'
                      go_simp
                      with_reducible rfl
                    rotate_left
                    · simp only [Act.put, List.setIfInBounds_toArray, List.set_cons_zero, List.set_cons_succ, i64_w, i32_w]
                      rfl
                    refine take_ (i := 16) (N := some 33) (v := ?_) (a' := ?_) #[true, true, true, true, true, true, true, true, true, true, true, true, true, true, true, true, true, true, true, true, true, false, false, false, false, false, false, false, false, false, false, false, false, false, false, false, false, false] rfl rfl (take_ofW HT_.out HW_.out (by kernel_rfl)) (fun _ _ _ h => h) (Or.inl ⟨by rfl, ?_⟩) hHeld ?_ ?_
                    rotate_left
                    · rintro w' ⟨s0, s1, s2, s3, s4, s5, s6, s7, s8, s9, s10, s11, s12, s13, s14, s15, s16, s17, s18, s19, s20, s21, s22, s23, s24, s25, s26, s27, s28, s29, s30, s31, s32, s33, s34, s35⟩
                      go_simp
                      with_reducible rfl
                    rotate_left
                    · simp only [Act.put, List.setIfInBounds_toArray, List.set_cons_zero, List.set_cons_succ, i64_w, i32_w]
                      rfl
                    refine take_ (i := 21) (N := some 38) (v := ?_) (a' := ?_) #[true, true, true, true, true, true, true, true, true, true, true, true, true, true, true, true, true, true, true, true, true, true, false, false, false, false, false, false, false, false, false, false, false, false, false, false, false, false] rfl rfl (take_ofW HT_.out HW_.out (by kernel_rfl)) (fun _ _ _ h => h) (Or.inl ⟨by rfl, ?_⟩) hHeld ?_ ?_
                    rotate_left
                    · rintro w' ⟨s0, s1, s2, s3, s4, s5, s6, s7, s8, s9, s10, s11, s12, s13, s14, s15, s16, s17, s18, s19, s20, s21, s22, s23, s24, s25, s26, s27, s28, s29, s30, s31, s32, s33, s34, s35⟩
                      go_simp
                      with_reducible rfl
                    rotate_left
                    · simp only [Act.put, List.setIfInBounds_toArray, List.set_cons_zero, List.set_cons_succ, i64_w, i32_w]
                      rfl
                    refine pure_ (i := 22) (N := some 39) (v := ?_) (a' := ?_) #[true, true, true, true, true, true, true, true, true, true, true, true, true, true, true, true, true, true, true, true, true, true, true, false, false, false, false, false, false, false, false, false, false, false, false, false, false, false] rfl rfl (any_of HT_.out (by kernel_rfl)) (fun _ _ _ h => h) (Or.inl ⟨by rfl, ?_⟩) ?_ ?_
                    rotate_left
                    · intro w'
                      go_simp
                      with_reducible rfl
                    rotate_left
                    · simp only [Act.put, List.setIfInBounds_toArray, List.set_cons_zero, List.set_cons_succ, i64_w, i32_w]
                      rfl
                    refine pure_ (i := 23) (N := some 40) (v := ?_) (a' := ?_) #[true, true, true, true, true, true, true, true, true, true, true, true, true, true, true, true, true, true, true, true, true, true, true, true, false, false, false, false, false, false, false, false, false, false, false, false, false, false] rfl rfl (any_of HT_.out (by kernel_rfl)) (fun _ _ _ h => h) (Or.inl ⟨by rfl, ?_⟩) ?_ ?_
                    rotate_left
                    · intro w'
                      go_simp
                      with_reducible rfl
                    rotate_left
                    · simp only [Act.put, List.setIfInBounds_toArray, List.set_cons_zero, List.set_cons_succ, i64_w, i32_w]
                      rfl
                    refine pure_ (i := 24) (N := some 41) (v := ?_) (a' := ?_) #[true, true, true, true, true, true, true, true, true, true, true, true, true, true, true, true, true, true, true, true, true, true, true, true, true, false, false, false, false, false, false, false, false, false, false, false, false, false] rfl rfl (any_of HT_.out (by kernel_rfl)) (fun _ _ _ h => h) (Or.inl ⟨by rfl, ?_⟩) ?_ ?_
                    rotate_left
                    · intro w'
                      go_simp
                      with_reducible rfl
                    rotate_left
                    · simp only [Act.put, List.setIfInBounds_toArray, List.set_cons_zero, List.set_cons_succ, i64_w, i32_w]
                      rfl
                    refine pure_ (i := 25) (N := some 42) (v := ?_) (a' := ?_) #[true, true, true, true, true, true, true, true, true, true, true, true, true, true, true, true, true, true, true, true, true, true, true, true, true, true, false, false, false, false, false, false, false, false, false, false, false, false] rfl rfl (any_of HT_.out (by kernel_rfl)) (fun _ _ _ h => h) (Or.inl ⟨by rfl, ?_⟩) ?_ ?_
                    rotate_left
                    · intro w'
                      go_simp
                      with_reducible rfl
                    rotate_left
                    · simp only [Act.put, List.setIfInBounds_toArray, List.set_cons_zero, List.set_cons_succ, i64_w, i32_w]
                      rfl
                    refine pure_ (i := 26) (N := some 43) (v := ?_) (a' := ?_) #[true, true, true, true, true, true, true, true, true, true, true, true, true, true, true, true, true, true, true, true, true, true, true, true, true, true, true, false, false, false, false, false, false, false, false, false, false, false] rfl rfl (any_of HT_.out (by kernel_rfl)) (fun _ _ _ h => h) (Or.inl ⟨by rfl, ?_⟩) ?_ ?_
                    rotate_left
                    · intro w'
                      go_simp
                      with_reducible rfl
                    rotate_left
                    · simp only [Act.put, List.setIfInBounds_toArray, List.set_cons_zero, List.set_cons_succ, i64_w, i32_w]
                      rfl
                    refine pure_ (i := 27) (N := some 44) (v := ?_) (a' := ?_) #[true, true, true, true, true, true, true, true, true, true, true, true, true, true, true, true, true, true, true, true, true, true, true, true, true, true, true, true, false, false, false, false, false, false, false, false, false, false] rfl rfl (any_of HT_.out (by kernel_rfl)) (fun _ _ _ h => h) (Or.inl ⟨by rfl, ?_⟩) ?_ ?_
                    rotate_left
                    · intro w'
                      go_simp
                      with_reducible rfl
                    rotate_left
                    · simp only [Act.put, List.setIfInBounds_toArray, List.set_cons_zero, List.set_cons_succ, i64_w, i32_w]
                      rfl
                    refine pure_ (i := 28) (N := some 45) (v := ?_) (a' := ?_) #[true, true, true, true, true, true, true, true, true, true, true, true, true, true, true, true, true, true, true, true, true, true, true, true, true, true, true, true, true, false, false, false, false, false, false, false, false, false] rfl rfl (any_of HT_.out (by kernel_rfl)) (fun _ _ _ h => h) (Or.inl ⟨by rfl, ?_⟩) ?_ ?_
                    rotate_left
                    · intro w'
                      go_simp
                      with_reducible rfl
                    rotate_left
                    · simp only [Act.put, List.setIfInBounds_toArray, List.set_cons_zero, List.set_cons_succ, i64_w, i32_w]
                      rfl
                    refine pure_ (i := 30) (N := some 47) (v := ?_) (a' := ?_) #[true, true, true, true, true, true, true, true, true, true, true, true, true, true, true, true, true, true, true, true, true, true, true, true, true, true, true, true, true, false, true, false, false, false, false, false, false, false] rfl rfl (any_of HT_.out (by kernel_rfl)) (fun _ _ _ h => h) (Or.inl ⟨by rfl, ?_⟩) ?_ ?_
                    rotate_left
                    · intro w'
                      go_simp
                      with_reducible rfl
                    rotate_left
                    · simp only [Act.put, List.setIfInBounds_toArray, List.set_cons_zero, List.set_cons_succ, i64_w, i32_w]
                      rfl
                    refine pure_ (i := 31) (N := some 48) (v := ?_) (a' := ?_) #[true, true, true, true, true, true, true, true, true, true, true, true, true, true, true, true, true, true, true, true, true, true, true, true, true, true, true, true, true, false, true, true, false, false, false, false, false, false] rfl rfl (any_of HT_.out (by kernel_rfl)) (fun _ _ _ h => h) (Or.inl ⟨by rfl, ?_⟩) ?_ ?_
                    rotate_left
                    · intro w'
                      go_simp
                      with_reducible rfl
                    rotate_left
                    · simp only [Act.put, List.setIfInBounds_toArray, List.set_cons_zero, List.set_cons_succ, i64_w, i32_w]
                      rfl
                    refine pure_ (i := 32) (N := some 49) (v := ?_) (a' := ?_) #[true, true, true, true, true, true, true, true, true, true, true, true, true, true, true, true, true, true, true, true, true, true, true, true, true, true, true, true, true, false, true, true, true, false, false, false, false, false] rfl rfl (any_of HT_.out (by kernel_rfl)) (fun _ _ _ h => h) (Or.inl ⟨by rfl, ?_⟩) ?_ ?_
                    rotate_left
                    · intro w'
                      go_simp
                      with_reducible rfl
                    rotate_left
                    · simp only [Act.put, List.setIfInBounds_toArray, List.set_cons_zero, List.set_cons_succ, i64_w, i32_w]
                      rfl
                    refine pure_ (i := 33) (N := some 50) (v := ?_) (a' := ?_) #[true, true, true, true, true, true, true, true, true, true, true, true, true, true, true, true, true, true, true, true, true, true, true, true, true, true, true, true, true, false, true, true, true, true, false, false, false, false] rfl rfl (any_of HT_.out (by kernel_rfl)) (fun _ _ _ h => h) (Or.inl ⟨by rfl, ?_⟩) ?_ ?_
                    rotate_left
                    · intro w'
                      go_simp
                      with_reducible rfl
                    rotate_left
                    · simp only [Act.put, List.setIfInBounds_toArray, List.set_cons_zero, List.set_cons_succ, i64_w, i32_w]
                      rfl
                    refine take_ (i := 29) (N := some 46) (v := ?_) (a' := ?_) #[true, true, true, true, true, true, true, true, true, true, true, true, true, true, true, true, true, true, true, true, true, true, true, true, true, true, true, true, true, true, true, true, true, true, false, false, false, false] rfl rfl (take_ofW HT_.out HW_.out (by kernel_rfl)) (fun _ _ _ h => h) (Or.inl ⟨by rfl, ?_⟩) hHeld ?_ ?_
                    rotate_left
                    · rintro w' ⟨s0, s1, s2, s3, s4, s5, s6, s7, s8, s9, s10, s11, s12, s13, s14, s15, s16, s17, s18, s19, s20, s21, s22, s23, s24, s25, s26, s27, s28, s29, s30, s31, s32, s33, s34, s35⟩
                      go_simp
                      with_reducible rfl
                    rotate_left
                    · simp only [Act.put, List.setIfInBounds_toArray, List.set_cons_zero, List.set_cons_succ, i64_w, i32_w]
                      rfl
                    refine take_ (i := 34) (N := some 51) (v := ?_) (a' := ?_) #[true, true, true, true, true, true, true, true, true, true, true, true, true, true, true, true, true, true, true, true, true, true, true, true, true, true, true, true, true, true, true, true, true, true, true, false, false, false] rfl rfl (take_ofW HT_.out HW_.out (by kernel_rfl)) (fun _ _ _ h => h) (Or.inl ⟨by rfl, ?_⟩) hHeld ?_ ?_
                    rotate_left
                    · rintro w' ⟨s0, s1, s2, s3, s4, s5, s6, s7, s8, s9, s10, s11, s12, s13, s14, s15, s16, s17, s18, s19, s20, s21, s22, s23, s24, s25, s26, s27, s28, s29, s30, s31, s32, s33, s34, s35⟩
                      go_simp
                      with_reducible rfl
                    rotate_left
                    · simp only [Act.put, List.setIfInBounds_toArray, List.set_cons_zero, List.set_cons_succ, i64_w, i32_w]
                      rfl
                    refine one_ (i := 35) (N := some 52) #[true, true, true, true, true, true, true, true, true, true, true, true, true, true, true, true, true, true, true, true, true, true, true, true, true, true, true, true, true, true, true, true, true, true, true, true, false, false] rfl rfl (one_of HT_.out (by kernel_rfl)) (by decide) (fun K hK => ?_)
                    refine goes_ Try.func73 (by kernel_rfl) rfl #[.slice A40001_5 ((rd_T59 l0 x5_1).f2).length c40001_5, .slice A40002_5 ((rd_T59 l1 x5_1).f2).length c40002_5] (by rfl) rfl rfl (by (try simp only [List.map_toArray, List.map_cons, List.map_nil]); first | done | rfl | (simp only [List.length_drop, List.length_take]; rfl)) ?_
                    with_reducible refine (laws_equalInts.calls k1 _ _ ((rd_T59 l0 x5_1).f2) _ _ ((rd_T59 l1 x5_1).f2) true _ ?side1 ?side2 ?side3 ?side4 A10.out).mono ?_
                    (case side1 => repeat (first | exact (Kd.C_below HR40005_5.out HB.out) | (with_reducible refine Kd.C_alloc ?_ _) | (with_reducible refine Kd.C_drewN ?_ _) | (with_reducible refine Kd.C_drew ?_)))
                    (case side2 => exact HC40005_5.out)
                    (case side3 => repeat (first | exact (Kd.C_below HR40006_5.out HB.out) | (with_reducible refine Kd.C_alloc ?_ _) | (with_reducible refine Kd.C_drewN ?_ _) | (with_reducible refine Kd.C_drew ?_)))
                    (case side4 => exact HC40006_5.out)
                    rintro e w' ⟨rfl, ⟨nd, rfl⟩⟩
                    refine ⟨_, rfl, ?_⟩
                    refine hK.out _ _ ⟨((HB.out.cell (World.block_lt_of_cell? w _ hw40001_0)).trans hw40001_0), ((HB.out.cell (World.block_lt_of_cell? w _ hw40001_1)).trans hw40001_1), ((HB.out.cell (World.block_lt_of_cell? w _ hw40001_2)).trans hw40001_2), ((HB.out.cell (World.block_lt_of_cell? w _ hw40001_3)).trans hw40001_3), ((HB.out.cell (World.block_lt_of_cell? w _ hw40001_4)).trans hw40001_4), ((HB.out.cell (World.block_lt_of_cell? w _ hw40001_5)).trans hw40001_5), ((HB.out.cell (World.block_lt_of_cell? w _ hw40002_0)).trans hw40002_0), ((HB.out.cell (World.block_lt_of_cell? w _ hw40002_1)).trans hw40002_1), ((HB.out.cell (World.block_lt_of_cell? w _ hw40002_2)).trans hw40002_2), ((HB.out.cell (World.block_lt_of_cell? w _ hw40002_3)).trans hw40002_3), ((HB.out.cell (World.block_lt_of_cell? w _ hw40002_4)).trans hw40002_4), ((HB.out.cell (World.block_lt_of_cell? w _ hw40002_5)).trans hw40002_5), ((HB.out.cell (World.block_lt_of_cell? w _ hw40003_0)).trans hw40003_0), ((HB.out.cell (World.block_lt_of_cell? w _ hw40003_1)).trans hw40003_1), ((HB.out.cell (World.block_lt_of_cell? w _ hw40003_2)).trans hw40003_2), ((HB.out.cell (World.block_lt_of_cell? w _ hw40003_3)).trans hw40003_3), ((HB.out.cell (World.block_lt_of_cell? w _ hw40003_4)).trans hw40003_4), ((HB.out.cell (World.block_lt_of_cell? w _ hw40003_5)).trans hw40003_5), ((HB.out.cell (World.block_lt_of_cell? w _ hw40004_0)).trans hw40004_0), ((HB.out.cell (World.block_lt_of_cell? w _ hw40004_1)).trans hw40004_1), ((HB.out.cell (World.block_lt_of_cell? w _ hw40004_2)).trans hw40004_2), ((HB.out.cell (World.block_lt_of_cell? w _ hw40004_3)).trans hw40004_3), ((HB.out.cell (World.block_lt_of_cell? w _ hw40004_4)).trans hw40004_4), ((HB.out.cell (World.block_lt_of_cell? w _ hw40004_5)).trans hw40004_5), ((HB.out.cell (World.block_lt_of_cell? w _ hw40005_0)).trans hw40005_0), ((HB.out.cell (World.block_lt_of_cell? w _ hw40005_1)).trans hw40005_1), ((HB.out.cell (World.block_lt_of_cell? w _ hw40005_2)).trans hw40005_2), ((HB.out.cell (World.block_lt_of_cell? w _ hw40005_3)).trans hw40005_3), ((HB.out.cell (World.block_lt_of_cell? w _ hw40005_4)).trans hw40005_4), ((HB.out.cell (World.block_lt_of_cell? w _ hw40005_5)).trans hw40005_5), ((HB.out.cell (World.block_lt_of_cell? w _ hw40006_0)).trans hw40006_0), ((HB.out.cell (World.block_lt_of_cell? w _ hw40006_1)).trans hw40006_1), ((HB.out.cell (World.block_lt_of_cell? w _ hw40006_2)).trans hw40006_2), ((HB.out.cell (World.block_lt_of_cell? w _ hw40006_3)).trans hw40006_3), ((HB.out.cell (World.block_lt_of_cell? w _ hw40006_4)).trans hw40006_4), ((HB.out.cell (World.block_lt_of_cell? w _ hw40006_5)).trans hw40006_5)⟩ (fun hHeld => ?_)
                    clear hK K
                    refine norm_ (a' := ?_) ?_ ?_
                    rotate_left
                    · show Act.put _ (some 52) _ = _
                      simp only [Act.put, List.setIfInBounds_toArray, List.set_cons_zero, List.set_cons_succ, i64_w, i32_w]
                      rfl
                    refine pure_ (i := 36) (N := some 53) (v := ?_) (a' := ?_) #[true, true, true, true, true, true, true, true, true, true, true, true, true, true, true, true, true, true, true, true, true, true, true, true, true, true, true, true, true, true, true, true, true, true, true, true, true, false] rfl rfl (any_of HT_.out (by kernel_rfl)) (fun _ _ _ h => h) (Or.inl ⟨by rfl, ?_⟩) ?_ ?_
                    rotate_left
                    · intro w'
                      go_simp
                      with_reducible rfl
                    rotate_left
                    · simp only [Act.put, List.setIfInBounds_toArray, List.set_cons_zero, List.set_cons_succ, i64_w, i32_w]
                      rfl
                    refine pure_ (i := 37) (N := some 54) (v := ?_) (a' := ?_) #[true, true, true, true, true, true, true, true, true, true, true, true, true, true, true, true, true, true, true, true, true, true, true, true, true, true, true, true, true, true, true, true, true, true, true, true, true, true] rfl rfl (any_of HT_.out (by kernel_rfl)) (fun _ _ _ h => h) (Or.inl ⟨by rfl, ?_⟩) ?_ ?_
                    rotate_left
                    · intro w'
                      go_simp
                      with_reducible rfl
                    rotate_left
                    · simp only [Act.put, List.setIfInBounds_toArray, List.set_cons_zero, List.set_cons_succ, i64_w, i32_w]
                      rfl
                    refine done_ (done_of HT_.out (by kernel_rfl)) ?_
                    try go_wp2
                    go_roundg k1
                    case measure => have := HK1.out; omega
                    case rel => exact ⟨(wrap64 (x5_1 + 1)), (by first | rfl | (simp; done) | (simp [*]; done)), H', ⟨by have := HK1.out; omega⟩, ⟨by repeat (first | (with_reducible first | exact HB.out | apply below_alloc | apply pw_below_drewN | apply below_drew1) | exact HB.out)⟩⟩
                  · replace c11 := Bool.eq_false_iff.mpr c11
                    subst c11
                    have H1 : (some false) = some r := by rw [if_neg (show ¬ (false = true) by decide)] at H; exact H
                    clear H
                    have H := H1
                    clear H1
                    obtain rfl := Option.some.inj H
                    try go_wp2
                    have n0_ := Aside0.mk (below_drew1 HB.out)
                    clear HB
                    have HB := n0_
                    clear n0_
                    have p40001 : 0 ≤ (x5_1 : Int) := of_decide_eq_true (by first | (with_reducible assumption) | assumption)
                    have q40001 : x5_1 < (l0.length : Int) := of_decide_eq_true (by first | (with_reducible assumption) | assumption)
                    obtain ⟨ad40001, A40001_5, c40001_5, e40001, hx40001_0, hx40001_1, hx40001_2, hx40001_3, hx40001_4, hx40001_5, hl40001_5, hi40001_5⟩ := at_T59 HR0.out x5_1 p40001 q40001
                    have hw40001_5 := hx40001_5
                    have hw40001_4 := hx40001_4
                    have hw40001_3 := hx40001_3
                    have hw40001_2 := hx40001_2
                    have hw40001_1 := hx40001_1
                    have hw40001_0 := hx40001_0
                    cases e40001
                    replace hx40001_0 := (HB.out.cell (World.block_lt_of_cell? w _ hx40001_0)).trans hx40001_0
                    replace hx40001_1 := (HB.out.cell (World.block_lt_of_cell? w _ hx40001_1)).trans hx40001_1
                    replace hx40001_2 := (HB.out.cell (World.block_lt_of_cell? w _ hx40001_2)).trans hx40001_2
                    replace hx40001_3 := (HB.out.cell (World.block_lt_of_cell? w _ hx40001_3)).trans hx40001_3
                    replace hx40001_4 := (HB.out.cell (World.block_lt_of_cell? w _ hx40001_4)).trans hx40001_4
                    replace hx40001_5 := (HB.out.cell (World.block_lt_of_cell? w _ hx40001_5)).trans hx40001_5
                    have HR40001_5 := Aside0.mk hi40001_5
                    have HC40001_5 := Aside0.mk hl40001_5
                    clear hi40001_5 hl40001_5
                    replace p40001 := eq_true p40001
                    replace q40001 := eq_true q40001
                    have p40002 : 0 ≤ (x5_1 : Int) := of_decide_eq_true (by first | (with_reducible assumption) | assumption)
                    have q40002 : x5_1 < (l1.length : Int) := of_decide_eq_true (by first | (with_reducible assumption) | assumption)
                    obtain ⟨ad40002, A40002_5, c40002_5, e40002, hx40002_0, hx40002_1, hx40002_2, hx40002_3, hx40002_4, hx40002_5, hl40002_5, hi40002_5⟩ := at_T59 HR1.out x5_1 p40002 q40002
                    have hw40002_5 := hx40002_5
                    have hw40002_4 := hx40002_4
                    have hw40002_3 := hx40002_3
                    have hw40002_2 := hx40002_2
                    have hw40002_1 := hx40002_1
                    have hw40002_0 := hx40002_0
                    cases e40002
                    replace hx40002_0 := (HB.out.cell (World.block_lt_of_cell? w _ hx40002_0)).trans hx40002_0
                    replace hx40002_1 := (HB.out.cell (World.block_lt_of_cell? w _ hx40002_1)).trans hx40002_1
                    replace hx40002_2 := (HB.out.cell (World.block_lt_of_cell? w _ hx40002_2)).trans hx40002_2
                    replace hx40002_3 := (HB.out.cell (World.block_lt_of_cell? w _ hx40002_3)).trans hx40002_3
                    replace hx40002_4 := (HB.out.cell (World.block_lt_of_cell? w _ hx40002_4)).trans hx40002_4
                    replace hx40002_5 := (HB.out.cell (World.block_lt_of_cell? w _ hx40002_5)).trans hx40002_5
                    have HR40002_5 := Aside0.mk hi40002_5
                    have HC40002_5 := Aside0.mk hl40002_5
                    clear hi40002_5 hl40002_5
                    replace p40002 := eq_true p40002
                    replace q40002 := eq_true q40002
                    have p40003 : 0 ≤ (x5_1 : Int) := of_decide_eq_true (by first | (with_reducible assumption) | assumption)
                    have q40003 : x5_1 < (l0.length : Int) := of_decide_eq_true (by first | (with_reducible assumption) | assumption)
                    obtain ⟨ad40003, A40003_5, c40003_5, e40003, hx40003_0, hx40003_1, hx40003_2, hx40003_3, hx40003_4, hx40003_5, hl40003_5, hi40003_5⟩ := at_T59 HR0.out x5_1 p40003 q40003
                    have hw40003_5 := hx40003_5
                    have hw40003_4 := hx40003_4
                    have hw40003_3 := hx40003_3
                    have hw40003_2 := hx40003_2
                    have hw40003_1 := hx40003_1
                    have hw40003_0 := hx40003_0
                    obtain rfl : ad40001 = ad40003 := (by injection e40003)
                    replace hx40003_0 := (HB.out.cell (World.block_lt_of_cell? w _ hx40003_0)).trans hx40003_0
                    replace hx40003_1 := (HB.out.cell (World.block_lt_of_cell? w _ hx40003_1)).trans hx40003_1
                    replace hx40003_2 := (HB.out.cell (World.block_lt_of_cell? w _ hx40003_2)).trans hx40003_2
                    replace hx40003_3 := (HB.out.cell (World.block_lt_of_cell? w _ hx40003_3)).trans hx40003_3
                    replace hx40003_4 := (HB.out.cell (World.block_lt_of_cell? w _ hx40003_4)).trans hx40003_4
                    replace hx40003_5 := (HB.out.cell (World.block_lt_of_cell? w _ hx40003_5)).trans hx40003_5
                    have HR40003_5 := Aside0.mk hi40003_5
                    have HC40003_5 := Aside0.mk hl40003_5
                    clear hi40003_5 hl40003_5
                    replace p40003 := eq_true p40003
                    replace q40003 := eq_true q40003
                    have ea_ := Option.some.inj (hx40001_5.symm.trans hx40003_5)
                    injection ea_ with ea_ en_ ec_
                    subst ea_
                    subst ec_
                    clear en_
                    have p40004 : 0 ≤ (x5_1 : Int) := of_decide_eq_true (by first | (with_reducible assumption) | assumption)
                    have q40004 : x5_1 < (l1.length : Int) := of_decide_eq_true (by first | (with_reducible assumption) | assumption)
                    obtain ⟨ad40004, A40004_5, c40004_5, e40004, hx40004_0, hx40004_1, hx40004_2, hx40004_3, hx40004_4, hx40004_5, hl40004_5, hi40004_5⟩ := at_T59 HR1.out x5_1 p40004 q40004
                    have hw40004_5 := hx40004_5
                    have hw40004_4 := hx40004_4
                    have hw40004_3 := hx40004_3
                    have hw40004_2 := hx40004_2
                    have hw40004_1 := hx40004_1
                    have hw40004_0 := hx40004_0
                    obtain rfl : ad40002 = ad40004 := (by injection e40004)
                    replace hx40004_0 := (HB.out.cell (World.block_lt_of_cell? w _ hx40004_0)).trans hx40004_0
                    replace hx40004_1 := (HB.out.cell (World.block_lt_of_cell? w _ hx40004_1)).trans hx40004_1
                    replace hx40004_2 := (HB.out.cell (World.block_lt_of_cell? w _ hx40004_2)).trans hx40004_2
                    replace hx40004_3 := (HB.out.cell (World.block_lt_of_cell? w _ hx40004_3)).trans hx40004_3
                    replace hx40004_4 := (HB.out.cell (World.block_lt_of_cell? w _ hx40004_4)).trans hx40004_4
                    replace hx40004_5 := (HB.out.cell (World.block_lt_of_cell? w _ hx40004_5)).trans hx40004_5
                    have HR40004_5 := Aside0.mk hi40004_5
                    have HC40004_5 := Aside0.mk hl40004_5
                    clear hi40004_5 hl40004_5
                    replace p40004 := eq_true p40004
                    replace q40004 := eq_true q40004
                    have ea_ := Option.some.inj (hx40002_5.symm.trans hx40004_5)
                    injection ea_ with ea_ en_ ec_
                    subst ea_
                    subst ec_
                    clear en_
                    have p40005 : 0 ≤ (x5_1 : Int) := of_decide_eq_true (by first | (with_reducible assumption) | assumption)
                    have q40005 : x5_1 < (l0.length : Int) := of_decide_eq_true (by first | (with_reducible assumption) | assumption)
                    obtain ⟨ad40005, A40005_5, c40005_5, e40005, hx40005_0, hx40005_1, hx40005_2, hx40005_3, hx40005_4, hx40005_5, hl40005_5, hi40005_5⟩ := at_T59 HR0.out x5_1 p40005 q40005
                    have hw40005_5 := hx40005_5
                    have hw40005_4 := hx40005_4
                    have hw40005_3 := hx40005_3
                    have hw40005_2 := hx40005_2
                    have hw40005_1 := hx40005_1
                    have hw40005_0 := hx40005_0
                    obtain rfl : ad40001 = ad40005 := (by injection e40005)
                    replace hx40005_0 := (HB.out.cell (World.block_lt_of_cell? w _ hx40005_0)).trans hx40005_0
                    replace hx40005_1 := (HB.out.cell (World.block_lt_of_cell? w _ hx40005_1)).trans hx40005_1
                    replace hx40005_2 := (HB.out.cell (World.block_lt_of_cell? w _ hx40005_2)).trans hx40005_2
                    replace hx40005_3 := (HB.out.cell (World.block_lt_of_cell? w _ hx40005_3)).trans hx40005_3
                    replace hx40005_4 := (HB.out.cell (World.block_lt_of_cell? w _ hx40005_4)).trans hx40005_4
                    replace hx40005_5 := (HB.out.cell (World.block_lt_of_cell? w _ hx40005_5)).trans hx40005_5
                    have HR40005_5 := Aside0.mk hi40005_5
                    have HC40005_5 := Aside0.mk hl40005_5
                    clear hi40005_5 hl40005_5
                    replace p40005 := eq_true p40005
                    replace q40005 := eq_true q40005
                    have ea_ := Option.some.inj (hx40001_5.symm.trans hx40005_5)
                    injection ea_ with ea_ en_ ec_
                    subst ea_
                    subst ec_
                    clear en_
                    have p40006 : 0 ≤ (x5_1 : Int) := of_decide_eq_true (by first | (with_reducible assumption) | assumption)
                    have q40006 : x5_1 < (l1.length : Int) := of_decide_eq_true (by first | (with_reducible assumption) | assumption)
                    obtain ⟨ad40006, A40006_5, c40006_5, e40006, hx40006_0, hx40006_1, hx40006_2, hx40006_3, hx40006_4, hx40006_5, hl40006_5, hi40006_5⟩ := at_T59 HR1.out x5_1 p40006 q40006
                    have hw40006_5 := hx40006_5
                    have hw40006_4 := hx40006_4
                    have hw40006_3 := hx40006_3
                    have hw40006_2 := hx40006_2
                    have hw40006_1 := hx40006_1
                    have hw40006_0 := hx40006_0
                    obtain rfl : ad40002 = ad40006 := (by injection e40006)
                    replace hx40006_0 := (HB.out.cell (World.block_lt_of_cell? w _ hx40006_0)).trans hx40006_0
                    replace hx40006_1 := (HB.out.cell (World.block_lt_of_cell? w _ hx40006_1)).trans hx40006_1
                    replace hx40006_2 := (HB.out.cell (World.block_lt_of_cell? w _ hx40006_2)).trans hx40006_2
                    replace hx40006_3 := (HB.out.cell (World.block_lt_of_cell? w _ hx40006_3)).trans hx40006_3
                    replace hx40006_4 := (HB.out.cell (World.block_lt_of_cell? w _ hx40006_4)).trans hx40006_4
                    replace hx40006_5 := (HB.out.cell (World.block_lt_of_cell? w _ hx40006_5)).trans hx40006_5
                    have HR40006_5 := Aside0.mk hi40006_5
                    have HC40006_5 := Aside0.mk hl40006_5
                    clear hi40006_5 hl40006_5
                    replace p40006 := eq_true p40006
                    replace q40006 := eq_true q40006
                    have ea_ := Option.some.inj (hx40002_5.symm.trans hx40006_5)
                    injection ea_ with ea_ en_ ec_
                    subst ea_
                    subst ec_
                    clear en_
                    refine start_ (n := 38) (S := fun w' => w'.cell? (ad40001.add ((x5_1).toNat * 6)) = some (.int .i64 ((rd_T59 l0 x5_1).f0)) ∧ w'.cell? ⟨(ad40001.add ((x5_1).toNat * 6)).block, (ad40001.add ((x5_1).toNat * 6)).off + 1, none⟩ = some (.int .i64 ((rd_T59 l0 x5_1).f1.f0)) ∧ w'.cell? ⟨(ad40001.add ((x5_1).toNat * 6)).block, (ad40001.add ((x5_1).toNat * 6)).off + 2, none⟩ = some (.int .i64 ((rd_T59 l0 x5_1).f1.f1)) ∧ w'.cell? ⟨(ad40001.add ((x5_1).toNat * 6)).block, (ad40001.add ((x5_1).toNat * 6)).off + 3, none⟩ = some (.int .i64 ((rd_T59 l0 x5_1).f1.f2)) ∧ w'.cell? ⟨(ad40001.add ((x5_1).toNat * 6)).block, (ad40001.add ((x5_1).toNat * 6)).off + 4, none⟩ = some (.int .i64 ((rd_T59 l0 x5_1).f1.f3)) ∧ w'.cell? ⟨(ad40001.add ((x5_1).toNat * 6)).block, (ad40001.add ((x5_1).toNat * 6)).off + 5, none⟩ = some (.slice A40001_5 ((rd_T59 l0 x5_1).f2).length c40001_5) ∧ w'.cell? (ad40002.add ((x5_1).toNat * 6)) = some (.int .i64 ((rd_T59 l1 x5_1).f0)) ∧ w'.cell? ⟨(ad40002.add ((x5_1).toNat * 6)).block, (ad40002.add ((x5_1).toNat * 6)).off + 1, none⟩ = some (.int .i64 ((rd_T59 l1 x5_1).f1.f0)) ∧ w'.cell? ⟨(ad40002.add ((x5_1).toNat * 6)).block, (ad40002.add ((x5_1).toNat * 6)).off + 2, none⟩ = some (.int .i64 ((rd_T59 l1 x5_1).f1.f1)) ∧ w'.cell? ⟨(ad40002.add ((x5_1).toNat * 6)).block, (ad40002.add ((x5_1).toNat * 6)).off + 3, none⟩ = some (.int .i64 ((rd_T59 l1 x5_1).f1.f2)) ∧ w'.cell? ⟨(ad40002.add ((x5_1).toNat * 6)).block, (ad40002.add ((x5_1).toNat * 6)).off + 4, none⟩ = some (.int .i64 ((rd_T59 l1 x5_1).f1.f3)) ∧ w'.cell? ⟨(ad40002.add ((x5_1).toNat * 6)).block, (ad40002.add ((x5_1).toNat * 6)).off + 5, none⟩ = some (.slice A40002_5 ((rd_T59 l1 x5_1).f2).length c40002_5) ∧ w'.cell? (ad40001.add ((x5_1).toNat * 6)) = some (.int .i64 ((rd_T59 l0 x5_1).f0)) ∧ w'.cell? ⟨(ad40001.add ((x5_1).toNat * 6)).block, (ad40001.add ((x5_1).toNat * 6)).off + 1, none⟩ = some (.int .i64 ((rd_T59 l0 x5_1).f1.f0)) ∧ w'.cell? ⟨(ad40001.add ((x5_1).toNat * 6)).block, (ad40001.add ((x5_1).toNat * 6)).off + 2, none⟩ = some (.int .i64 ((rd_T59 l0 x5_1).f1.f1)) ∧ w'.cell? ⟨(ad40001.add ((x5_1).toNat * 6)).block, (ad40001.add ((x5_1).toNat * 6)).off + 3, none⟩ = some (.int .i64 ((rd_T59 l0 x5_1).f1.f2)) ∧ w'.cell? ⟨(ad40001.add ((x5_1).toNat * 6)).block, (ad40001.add ((x5_1).toNat * 6)).off + 4, none⟩ = some (.int .i64 ((rd_T59 l0 x5_1).f1.f3)) ∧ w'.cell? ⟨(ad40001.add ((x5_1).toNat * 6)).block, (ad40001.add ((x5_1).toNat * 6)).off + 5, none⟩ = some (.slice A40001_5 ((rd_T59 l0 x5_1).f2).length c40001_5) ∧ w'.cell? (ad40002.add ((x5_1).toNat * 6)) = some (.int .i64 ((rd_T59 l1 x5_1).f0)) ∧ w'.cell? ⟨(ad40002.add ((x5_1).toNat * 6)).block, (ad40002.add ((x5_1).toNat * 6)).off + 1, none⟩ = some (.int .i64 ((rd_T59 l1 x5_1).f1.f0)) ∧ w'.cell? ⟨(ad40002.add ((x5_1).toNat * 6)).block, (ad40002.add ((x5_1).toNat * 6)).off + 2, none⟩ = some (.int .i64 ((rd_T59 l1 x5_1).f1.f1)) ∧ w'.cell? ⟨(ad40002.add ((x5_1).toNat * 6)).block, (ad40002.add ((x5_1).toNat * 6)).off + 3, none⟩ = some (.int .i64 ((rd_T59 l1 x5_1).f1.f2)) ∧ w'.cell? ⟨(ad40002.add ((x5_1).toNat * 6)).block, (ad40002.add ((x5_1).toNat * 6)).off + 4, none⟩ = some (.int .i64 ((rd_T59 l1 x5_1).f1.f3)) ∧ w'.cell? ⟨(ad40002.add ((x5_1).toNat * 6)).block, (ad40002.add ((x5_1).toNat * 6)).off + 5, none⟩ = some (.slice A40002_5 ((rd_T59 l1 x5_1).f2).length c40002_5) ∧ w'.cell? (ad40001.add ((x5_1).toNat * 6)) = some (.int .i64 ((rd_T59 l0 x5_1).f0)) ∧ w'.cell? ⟨(ad40001.add ((x5_1).toNat * 6)).block, (ad40001.add ((x5_1).toNat * 6)).off + 1, none⟩ = some (.int .i64 ((rd_T59 l0 x5_1).f1.f0)) ∧ w'.cell? ⟨(ad40001.add ((x5_1).toNat * 6)).block, (ad40001.add ((x5_1).toNat * 6)).off + 2, none⟩ = some (.int .i64 ((rd_T59 l0 x5_1).f1.f1)) ∧ w'.cell? ⟨(ad40001.add ((x5_1).toNat * 6)).block, (ad40001.add ((x5_1).toNat * 6)).off + 3, none⟩ = some (.int .i64 ((rd_T59 l0 x5_1).f1.f2)) ∧ w'.cell? ⟨(ad40001.add ((x5_1).toNat * 6)).block, (ad40001.add ((x5_1).toNat * 6)).off + 4, none⟩ = some (.int .i64 ((rd_T59 l0 x5_1).f1.f3)) ∧ w'.cell? ⟨(ad40001.add ((x5_1).toNat * 6)).block, (ad40001.add ((x5_1).toNat * 6)).off + 5, none⟩ = some (.slice A40001_5 ((rd_T59 l0 x5_1).f2).length c40001_5) ∧ w'.cell? (ad40002.add ((x5_1).toNat * 6)) = some (.int .i64 ((rd_T59 l1 x5_1).f0)) ∧ w'.cell? ⟨(ad40002.add ((x5_1).toNat * 6)).block, (ad40002.add ((x5_1).toNat * 6)).off + 1, none⟩ = some (.int .i64 ((rd_T59 l1 x5_1).f1.f0)) ∧ w'.cell? ⟨(ad40002.add ((x5_1).toNat * 6)).block, (ad40002.add ((x5_1).toNat * 6)).off + 2, none⟩ = some (.int .i64 ((rd_T59 l1 x5_1).f1.f1)) ∧ w'.cell? ⟨(ad40002.add ((x5_1).toNat * 6)).block, (ad40002.add ((x5_1).toNat * 6)).off + 3, none⟩ = some (.int .i64 ((rd_T59 l1 x5_1).f1.f2)) ∧ w'.cell? ⟨(ad40002.add ((x5_1).toNat * 6)).block, (ad40002.add ((x5_1).toNat * 6)).off + 4, none⟩ = some (.int .i64 ((rd_T59 l1 x5_1).f1.f3)) ∧ w'.cell? ⟨(ad40002.add ((x5_1).toNat * 6)).block, (ad40002.add ((x5_1).toNat * 6)).off + 5, none⟩ = some (.slice A40002_5 ((rd_T59 l1 x5_1).f2).length c40002_5)) (ds := []) #[false, false, false, false, false, false, false, false, false, false, false, false, false, false, false, false, false, false, false, false, false, false, false, false, false, false, false, false, false, false, false, false, false, false, false, false, false, false] (by kernel_rfl) rfl rfl ⟨((HB.out.cell (World.block_lt_of_cell? w _ hw40001_0)).trans hw40001_0), ((HB.out.cell (World.block_lt_of_cell? w _ hw40001_1)).trans hw40001_1), ((HB.out.cell (World.block_lt_of_cell? w _ hw40001_2)).trans hw40001_2), ((HB.out.cell (World.block_lt_of_cell? w _ hw40001_3)).trans hw40001_3), ((HB.out.cell (World.block_lt_of_cell? w _ hw40001_4)).trans hw40001_4), ((HB.out.cell (World.block_lt_of_cell? w _ hw40001_5)).trans hw40001_5), ((HB.out.cell (World.block_lt_of_cell? w _ hw40002_0)).trans hw40002_0), ((HB.out.cell (World.block_lt_of_cell? w _ hw40002_1)).trans hw40002_1), ((HB.out.cell (World.block_lt_of_cell? w _ hw40002_2)).trans hw40002_2), ((HB.out.cell (World.block_lt_of_cell? w _ hw40002_3)).trans hw40002_3), ((HB.out.cell (World.block_lt_of_cell? w _ hw40002_4)).trans hw40002_4), ((HB.out.cell (World.block_lt_of_cell? w _ hw40002_5)).trans hw40002_5), ((HB.out.cell (World.block_lt_of_cell? w _ hw40003_0)).trans hw40003_0), ((HB.out.cell (World.block_lt_of_cell? w _ hw40003_1)).trans hw40003_1), ((HB.out.cell (World.block_lt_of_cell? w _ hw40003_2)).trans hw40003_2), ((HB.out.cell (World.block_lt_of_cell? w _ hw40003_3)).trans hw40003_3), ((HB.out.cell (World.block_lt_of_cell? w _ hw40003_4)).trans hw40003_4), ((HB.out.cell (World.block_lt_of_cell? w _ hw40003_5)).trans hw40003_5), ((HB.out.cell (World.block_lt_of_cell? w _ hw40004_0)).trans hw40004_0), ((HB.out.cell (World.block_lt_of_cell? w _ hw40004_1)).trans hw40004_1), ((HB.out.cell (World.block_lt_of_cell? w _ hw40004_2)).trans hw40004_2), ((HB.out.cell (World.block_lt_of_cell? w _ hw40004_3)).trans hw40004_3), ((HB.out.cell (World.block_lt_of_cell? w _ hw40004_4)).trans hw40004_4), ((HB.out.cell (World.block_lt_of_cell? w _ hw40004_5)).trans hw40004_5), ((HB.out.cell (World.block_lt_of_cell? w _ hw40005_0)).trans hw40005_0), ((HB.out.cell (World.block_lt_of_cell? w _ hw40005_1)).trans hw40005_1), ((HB.out.cell (World.block_lt_of_cell? w _ hw40005_2)).trans hw40005_2), ((HB.out.cell (World.block_lt_of_cell? w _ hw40005_3)).trans hw40005_3), ((HB.out.cell (World.block_lt_of_cell? w _ hw40005_4)).trans hw40005_4), ((HB.out.cell (World.block_lt_of_cell? w _ hw40005_5)).trans hw40005_5), ((HB.out.cell (World.block_lt_of_cell? w _ hw40006_0)).trans hw40006_0), ((HB.out.cell (World.block_lt_of_cell? w _ hw40006_1)).trans hw40006_1), ((HB.out.cell (World.block_lt_of_cell? w _ hw40006_2)).trans hw40006_2), ((HB.out.cell (World.block_lt_of_cell? w _ hw40006_3)).trans hw40006_3), ((HB.out.cell (World.block_lt_of_cell? w _ hw40006_4)).trans hw40006_4), ((HB.out.cell (World.block_lt_of_cell? w _ hw40006_5)).trans hw40006_5)⟩ (fun hHeld => ?_); refine with_tabW laws_equalSteps.tab6 laws_equalSteps.bits6 (fun HT_ HW_ => ?_)
                    generalize wr.drew = w13 at HB HR40001_5 HR40002_5 HR40003_5 HR40004_5 HR40005_5 HR40006_5 hx40001_0 hx40001_1 hx40001_2 hx40001_3 hx40001_4 hx40001_5 hx40002_0 hx40002_1 hx40002_2 hx40002_3 hx40002_4 hx40002_5 hx40003_0 hx40003_1 hx40003_2 hx40003_3 hx40003_4 hx40003_5 hx40004_0 hx40004_1 hx40004_2 hx40004_3 hx40004_4 hx40004_5 hx40005_0 hx40005_1 hx40005_2 hx40005_3 hx40005_4 hx40005_5 hx40006_0 hx40006_1 hx40006_2 hx40006_3 hx40006_4 hx40006_5 hHeld ⊢
                    refine pure_ (i := 0) (N := some 17) (v := ?_) (a' := ?_) #[true, false, false, false, false, false, false, false, false, false, false, false, false, false, false, false, false, false, false, false, false, false, false, false, false, false, false, false, false, false, false, false, false, false, false, false, false, false] rfl rfl (any_of HT_.out (by kernel_rfl)) (fun _ _ _ h => h) (Or.inl ⟨by rfl, ?_⟩) ?_ ?_
                    rotate_left
                    · intro w'
                      go_simp
                      with_reducible rfl
                    rotate_left
                    · simp only [Act.put, List.setIfInBounds_toArray, List.set_cons_zero, List.set_cons_succ, i64_w, i32_w]
                      rfl
                    refine pure_ (i := 1) (N := some 18) (v := ?_) (a' := ?_) #[true, true, false, false, false, false, false, false, false, false, false, false, false, false, false, false, false, false, false, false, false, false, false, false, false, false, false, false, false, false, false, false, false, false, false, false, false, false] rfl rfl (any_of HT_.out (by kernel_rfl)) (fun _ _ _ h => h) (Or.inl ⟨by rfl, ?_⟩) ?_ ?_
                    rotate_left
                    · intro w'
                      go_simp
                      with_reducible rfl
                    rotate_left
                    · simp only [Act.put, List.setIfInBounds_toArray, List.set_cons_zero, List.set_cons_succ, i64_w, i32_w]
                      rfl
                    refine pure_ (i := 2) (N := some 19) (v := ?_) (a' := ?_) #[true, true, true, false, false, false, false, false, false, false, false, false, false, false, false, false, false, false, false, false, false, false, false, false, false, false, false, false, false, false, false, false, false, false, false, false, false, false] rfl rfl (any_of HT_.out (by kernel_rfl)) (fun _ _ _ h => h) (Or.inl ⟨by rfl, ?_⟩) ?_ ?_
                    rotate_left
                    · intro w'
                      go_simp
                      with_reducible rfl
                    rotate_left
                    · simp only [Act.put, List.setIfInBounds_toArray, List.set_cons_zero, List.set_cons_succ, i64_w, i32_w]
                      rfl
                    refine pure_ (i := 3) (N := some 20) (v := ?_) (a' := ?_) #[true, true, true, true, false, false, false, false, false, false, false, false, false, false, false, false, false, false, false, false, false, false, false, false, false, false, false, false, false, false, false, false, false, false, false, false, false, false] rfl rfl (any_of HT_.out (by kernel_rfl)) (fun _ _ _ h => h) (Or.inl ⟨by rfl, ?_⟩) ?_ ?_
                    rotate_left
                    · intro w'
                      go_simp
                      with_reducible rfl
                    rotate_left
                    · simp only [Act.put, List.setIfInBounds_toArray, List.set_cons_zero, List.set_cons_succ, i64_w, i32_w]
                      rfl
                    refine pure_ (i := 5) (N := some 22) (v := ?_) (a' := ?_) #[true, true, true, true, false, true, false, false, false, false, false, false, false, false, false, false, false, false, false, false, false, false, false, false, false, false, false, false, false, false, false, false, false, false, false, false, false, false] rfl rfl (any_of HT_.out (by kernel_rfl)) (fun _ _ _ h => h) (Or.inl ⟨by rfl, ?_⟩) ?_ ?_
                    rotate_left
                    · intro w'
                      go_simp
                      with_reducible rfl
                    rotate_left
                    · simp only [Act.put, List.setIfInBounds_toArray, List.set_cons_zero, List.set_cons_succ, i64_w, i32_w]
                      rfl
                    refine pure_ (i := 6) (N := some 23) (v := ?_) (a' := ?_) #[true, true, true, true, false, true, true, false, false, false, false, false, false, false, false, false, false, false, false, false, false, false, false, false, false, false, false, false, false, false, false, false, false, false, false, false, false, false] rfl rfl (any_of HT_.out (by kernel_rfl)) (fun _ _ _ h => h) (Or.inl ⟨by rfl, ?_⟩) ?_ ?_
                    rotate_left
                    · intro w'
                      go_simp
                      with_reducible rfl
                    rotate_left
                    · simp only [Act.put, List.setIfInBounds_toArray, List.set_cons_zero, List.set_cons_succ, i64_w, i32_w]
                      rfl
                    refine pure_ (i := 7) (N := some 24) (v := ?_) (a' := ?_) #[true, true, true, true, false, true, true, true, false, false, false, false, false, false, false, false, false, false, false, false, false, false, false, false, false, false, false, false, false, false, false, false, false, false, false, false, false, false] rfl rfl (any_of HT_.out (by kernel_rfl)) (fun _ _ _ h => h) (Or.inl ⟨by rfl, ?_⟩) ?_ ?_
                    rotate_left
                    · intro w'
                      go_simp
                      with_reducible rfl
                    rotate_left
                    · simp only [Act.put, List.setIfInBounds_toArray, List.set_cons_zero, List.set_cons_succ, i64_w, i32_w]
                      rfl
                    refine pure_ (i := 8) (N := some 25) (v := ?_) (a' := ?_) #[true, true, true, true, false, true, true, true, true, false, false, false, false, false, false, false, false, false, false, false, false, false, false, false, false, false, false, false, false, false, false, false, false, false, false, false, false, false] rfl rfl (any_of HT_.out (by kernel_rfl)) (fun _ _ _ h => h) (Or.inl ⟨by rfl, ?_⟩) ?_ ?_
                    rotate_left
                    · intro w'
                      go_simp
                      with_reducible rfl
                    rotate_left
                    · simp only [Act.put, List.setIfInBounds_toArray, List.set_cons_zero, List.set_cons_succ, i64_w, i32_w]
                      rfl
                    refine take_ (i := 4) (N := some 21) (v := ?_) (a' := ?_) #[true, true, true, true, true, true, true, true, true, false, false, false, false, false, false, false, false, false, false, false, false, false, false, false, false, false, false, false, false, false, false, false, false, false, false, false, false, false] rfl rfl (take_ofW HT_.out HW_.out (by kernel_rfl)) (fun _ _ _ h => h) (Or.inl ⟨by rfl, ?_⟩) hHeld ?_ ?_
                    rotate_left
                    · rintro w' ⟨s0, s1, s2, s3, s4, s5, s6, s7, s8, s9, s10, s11, s12, s13, s14, s15, s16, s17, s18, s19, s20, s21, s22, s23, s24, s25, s26, s27, s28, s29, s30, s31, s32, s33, s34, s35⟩
                      go_simp
                      with_reducible rfl
                    rotate_left
                    · simp only [Act.put, List.setIfInBounds_toArray, List.set_cons_zero, List.set_cons_succ, i64_w, i32_w]
                      rfl
                    refine take_ (i := 9) (N := some 26) (v := ?_) (a' := ?_) #[true, true, true, true, true, true, true, true, true, true, false, false, false, false, false, false, false, false, false, false, false, false, false, false, false, false, false, false, false, false, false, false, false, false, false, false, false, false] rfl rfl (take_ofW HT_.out HW_.out (by kernel_rfl)) (fun _ _ _ h => h) (Or.inl ⟨by rfl, ?_⟩) hHeld ?_ ?_
                    rotate_left
                    · rintro w' ⟨s0, s1, s2, s3, s4, s5, s6, s7, s8, s9, s10, s11, s12, s13, s14, s15, s16, s17, s18, s19, s20, s21, s22, s23, s24, s25, s26, s27, s28, s29, s30, s31, s32, s33, s34, s35⟩
                      go_simp
                      with_reducible rfl
                    rotate_left
                    · simp only [Act.put, List.setIfInBounds_toArray, List.set_cons_zero, List.set_cons_succ, i64_w, i32_w]
                      rfl
                    refine pure_ (i := 10) (N := some 27) (v := ?_) (a' := ?_) #[true, true, true, true, true, true, true, true, true, true, true, false, false, false, false, false, false, false, false, false, false, false, false, false, false, false, false, false, false, false, false, false, false, false, false, false, false, false] rfl rfl (any_of HT_.out (by kernel_rfl)) (fun _ _ _ h => h) (Or.inl ⟨by rfl, ?_⟩) ?_ ?_
                    rotate_left
                    · intro w'
                      go_simp
                      with_reducible rfl
                    rotate_left
                    · simp only [Act.put, List.setIfInBounds_toArray, List.set_cons_zero, List.set_cons_succ, i64_w, i32_w]
                      rfl
                    refine pure_ (i := 11) (N := some 28) (v := ?_) (a' := ?_) #[true, true, true, true, true, true, true, true, true, true, true, true, false, false, false, false, false, false, false, false, false, false, false, false, false, false, false, false, false, false, false, false, false, false, false, false, false, false] rfl rfl (any_of HT_.out (by kernel_rfl)) (fun _ _ _ h => h) (Or.inl ⟨by rfl, ?_⟩) ?_ ?_
                    rotate_left
                    · intro w'
                      go_simp
                      with_reducible rfl
                    rotate_left
                    · simp only [Act.put, List.setIfInBounds_toArray, List.set_cons_zero, List.set_cons_succ, i64_w, i32_w]
                      rfl
                    refine pure_ (i := 12) (N := some 29) (v := ?_) (a' := ?_) #[true, true, true, true, true, true, true, true, true, true, true, true, true, false, false, false, false, false, false, false, false, false, false, false, false, false, false, false, false, false, false, false, false, false, false, false, false, false] rfl rfl (any_of HT_.out (by kernel_rfl)) (fun _ _ _ h => h) (Or.inl ⟨by rfl, ?_⟩) ?_ ?_
                    rotate_left
                    · intro w'
                      go_simp
                      with_reducible rfl
                    rotate_left
                    · simp only [Act.put, List.setIfInBounds_toArray, List.set_cons_zero, List.set_cons_succ, i64_w, i32_w]
                      rfl
                    refine pure_ (i := 13) (N := some 30) (v := ?_) (a' := ?_) #[true, true, true, true, true, true, true, true, true, true, true, true, true, true, false, false, false, false, false, false, false, false, false, false, false, false, false, false, false, false, false, false, false, false, false, false, false, false] rfl rfl (any_of HT_.out (by kernel_rfl)) (fun _ _ _ h => h) (Or.inl ⟨by rfl, ?_⟩) ?_ ?_
                    rotate_left
                    · intro w'
                      go_simp
                      with_reducible rfl
                    rotate_left
                    · simp only [Act.put, List.setIfInBounds_toArray, List.set_cons_zero, List.set_cons_succ, i64_w, i32_w]
                      rfl
                    refine pure_ (i := 14) (N := some 31) (v := ?_) (a' := ?_) #[true, true, true, true, true, true, true, true, true, true, true, true, true, true, true, false, false, false, false, false, false, false, false, false, false, false, false, false, false, false, false, false, false, false, false, false, false, false] rfl rfl (any_of HT_.out (by kernel_rfl)) (fun _ _ _ h => h) (Or.inl ⟨by rfl, ?_⟩) ?_ ?_
                    rotate_left
                    · intro w'
                      go_simp
                      with_reducible rfl
                    rotate_left
                    · simp only [Act.put, List.setIfInBounds_toArray, List.set_cons_zero, List.set_cons_succ, i64_w, i32_w]
                      rfl
                    refine pure_ (i := 15) (N := some 32) (v := ?_) (a' := ?_) #[true, true, true, true, true, true, true, true, true, true, true, true, true, true, true, true, false, false, false, false, false, false, false, false, false, false, false, false, false, false, false, false, false, false, false, false, false, false] rfl rfl (any_of HT_.out (by kernel_rfl)) (fun _ _ _ h => h) (Or.inl ⟨by rfl, ?_⟩) ?_ ?_
                    rotate_left
                    · intro w'
                      go_simp
                      with_reducible rfl
                    rotate_left
                    · simp only [Act.put, List.setIfInBounds_toArray, List.set_cons_zero, List.set_cons_succ, i64_w, i32_w]
                      rfl
                    refine pure_ (i := 17) (N := some 34) (v := ?_) (a' := ?_) #[true, true, true, true, true, true, true, true, true, true, true, true, true, true, true, true, false, true, false, false, false, false, false, false, false, false, false, false, false, false, false, false, false, false, false, false, false, false] rfl rfl (any_of HT_.out (by kernel_rfl)) (fun _ _ _ h => h) (Or.inl ⟨by rfl, ?_⟩) ?_ ?_
                    rotate_left
                    · intro w'
                      go_simp
                      with_reducible rfl
                    rotate_left
                    · simp only [Act.put, List.setIfInBounds_toArray, List.set_cons_zero, List.set_cons_succ, i64_w, i32_w]
                      rfl
                    refine pure_ (i := 18) (N := some 35) (v := ?_) (a' := ?_) #[true, true, true, true, true, true, true, true, true, true, true, true, true, true, true, true, false, true, true, false, false, false, false, false, false, false, false, false, false, false, false, false, false, false, false, false, false, false] rfl rfl (any_of HT_.out (by kernel_rfl)) (fun _ _ _ h => h) (Or.inl ⟨by rfl, ?_⟩) ?_ ?_
                    rotate_left
                    · intro w'
                      go_simp
                      with_reducible rfl
                    rotate_left
                    · simp only [Act.put, List.setIfInBounds_toArray, List.set_cons_zero, List.set_cons_succ, i64_w, i32_w]
                      rfl
                    refine pure_ (i := 19) (N := some 36) (v := ?_) (a' := ?_) #[true, true, true, true, true, true, true, true, true, true, true, true, true, true, true, true, false, true, true, true, false, false, false, false, false, false, false, false, false, false, false, false, false, false, false, false, false, false] rfl rfl (any_of HT_.out (by kernel_rfl)) (fun _ _ _ h => h) (Or.inl ⟨by rfl, ?_⟩) ?_ ?_
                    rotate_left
                    · intro w'
                      go_simp
                      with_reducible rfl
                    rotate_left
                    · simp only [Act.put, List.setIfInBounds_toArray, List.set_cons_zero, List.set_cons_succ, i64_w, i32_w]
                      rfl
                    refine pure_ (i := 20) (N := some 37) (v := ?_) (a' := ?_) #[true, true, true, true, true, true, true, true, true, true, true, true, true, true, true, true, false, true, true, true, true, false, false, false, false, false, false, false, false, false, false, false, false, false, false, false, false, false] rfl rfl (any_of HT_.out (by kernel_rfl)) (fun _ _ _ h => h) (Or.inl ⟨by rfl, ?_⟩) ?_ ?_
                    rotate_left
                    · intro w'
                      go_simp
                      with_reducible rfl
                    rotate_left
                    · simp only [Act.put, List.setIfInBounds_toArray, List.set_cons_zero, List.set_cons_succ, i64_w, i32_w]
                      rfl
                    refine take_ (i := 16) (N := some 33) (v := ?_) (a' := ?_) #[true, true, true, true, true, true, true, true, true, true, true, true, true, true, true, true, true, true, true, true, true, false, false, false, false, false, false, false, false, false, false, false, false, false, false, false, false, false] rfl rfl (take_ofW HT_.out HW_.out (by kernel_rfl)) (fun _ _ _ h => h) (Or.inl ⟨by rfl, ?_⟩) hHeld ?_ ?_
                    rotate_left
                    · rintro w' ⟨s0, s1, s2, s3, s4, s5, s6, s7, s8, s9, s10, s11, s12, s13, s14, s15, s16, s17, s18, s19, s20, s21, s22, s23, s24, s25, s26, s27, s28, s29, s30, s31, s32, s33, s34, s35⟩
                      go_simp
                      with_reducible rfl
                    rotate_left
                    · simp only [Act.put, List.setIfInBounds_toArray, List.set_cons_zero, List.set_cons_succ, i64_w, i32_w]
                      rfl
                    refine take_ (i := 21) (N := some 38) (v := ?_) (a' := ?_) #[true, true, true, true, true, true, true, true, true, true, true, true, true, true, true, true, true, true, true, true, true, true, false, false, false, false, false, false, false, false, false, false, false, false, false, false, false, false] rfl rfl (take_ofW HT_.out HW_.out (by kernel_rfl)) (fun _ _ _ h => h) (Or.inl ⟨by rfl, ?_⟩) hHeld ?_ ?_
                    rotate_left
                    · rintro w' ⟨s0, s1, s2, s3, s4, s5, s6, s7, s8, s9, s10, s11, s12, s13, s14, s15, s16, s17, s18, s19, s20, s21, s22, s23, s24, s25, s26, s27, s28, s29, s30, s31, s32, s33, s34, s35⟩
                      go_simp
                      with_reducible rfl
                    rotate_left
                    · simp only [Act.put, List.setIfInBounds_toArray, List.set_cons_zero, List.set_cons_succ, i64_w, i32_w]
                      rfl
                    refine pure_ (i := 22) (N := some 39) (v := ?_) (a' := ?_) #[true, true, true, true, true, true, true, true, true, true, true, true, true, true, true, true, true, true, true, true, true, true, true, false, false, false, false, false, false, false, false, false, false, false, false, false, false, false] rfl rfl (any_of HT_.out (by kernel_rfl)) (fun _ _ _ h => h) (Or.inl ⟨by rfl, ?_⟩) ?_ ?_
                    rotate_left
                    · intro w'
                      go_simp
                      with_reducible rfl
                    rotate_left
                    · simp only [Act.put, List.setIfInBounds_toArray, List.set_cons_zero, List.set_cons_succ, i64_w, i32_w]
                      rfl
                    refine pure_ (i := 23) (N := some 40) (v := ?_) (a' := ?_) #[true, true, true, true, true, true, true, true, true, true, true, true, true, true, true, true, true, true, true, true, true, true, true, true, false, false, false, false, false, false, false, false, false, false, false, false, false, false] rfl rfl (any_of HT_.out (by kernel_rfl)) (fun _ _ _ h => h) (Or.inl ⟨by rfl, ?_⟩) ?_ ?_
                    rotate_left
                    · intro w'
                      go_simp
                      with_reducible rfl
                    rotate_left
                    · simp only [Act.put, List.setIfInBounds_toArray, List.set_cons_zero, List.set_cons_succ, i64_w, i32_w]
                      rfl
                    refine pure_ (i := 24) (N := some 41) (v := ?_) (a' := ?_) #[true, true, true, true, true, true, true, true, true, true, true, true, true, true, true, true, true, true, true, true, true, true, true, true, true, false, false, false, false, false, false, false, false, false, false, false, false, false] rfl rfl (any_of HT_.out (by kernel_rfl)) (fun _ _ _ h => h) (Or.inl ⟨by rfl, ?_⟩) ?_ ?_
                    rotate_left
                    · intro w'
                      go_simp
                      with_reducible rfl
                    rotate_left
                    · simp only [Act.put, List.setIfInBounds_toArray, List.set_cons_zero, List.set_cons_succ, i64_w, i32_w]
                      rfl
                    refine pure_ (i := 25) (N := some 42) (v := ?_) (a' := ?_) #[true, true, true, true, true, true, true, true, true, true, true, true, true, true, true, true, true, true, true, true, true, true, true, true, true, true, false, false, false, false, false, false, false, false, false, false, false, false] rfl rfl (any_of HT_.out (by kernel_rfl)) (fun _ _ _ h => h) (Or.inl ⟨by rfl, ?_⟩) ?_ ?_
                    rotate_left
                    · intro w'
                      go_simp
                      with_reducible rfl
                    rotate_left
                    · simp only [Act.put, List.setIfInBounds_toArray, List.set_cons_zero, List.set_cons_succ, i64_w, i32_w]
                      rfl
                    refine pure_ (i := 26) (N := some 43) (v := ?_) (a' := ?_) #[true, true, true, true, true, true, true, true, true, true, true, true, true, true, true, true, true, true, true, true, true, true, true, true, true, true, true, false, false, false, false, false, false, false, false, false, false, false] rfl rfl (any_of HT_.out (by kernel_rfl)) (fun _ _ _ h => h) (Or.inl ⟨by rfl, ?_⟩) ?_ ?_
                    rotate_left
                    · intro w'
                      go_simp
                      with_reducible rfl
                    rotate_left
                    · simp only [Act.put, List.setIfInBounds_toArray, List.set_cons_zero, List.set_cons_succ, i64_w, i32_w]
                      rfl
                    refine pure_ (i := 27) (N := some 44) (v := ?_) (a' := ?_) #[true, true, true, true, true, true, true, true, true, true, true, true, true, true, true, true, true, true, true, true, true, true, true, true, true, true, true, true, false, false, false, false, false, false, false, false, false, false] rfl rfl (any_of HT_.out (by kernel_rfl)) (fun _ _ _ h => h) (Or.inl ⟨by rfl, ?_⟩) ?_ ?_
                    rotate_left
                    · intro w'
                      go_simp
                      with_reducible rfl
                    rotate_left
                    · simp only [Act.put, List.setIfInBounds_toArray, List.set_cons_zero, List.set_cons_succ, i64_w, i32_w]
                      rfl
                    refine pure_ (i := 28) (N := some 45) (v := ?_) (a' := ?_) #[true, true, true, true, true, true, true, true, true, true, true, true, true, true, true, true, true, true, true, true, true, true, true, true, true, true, true, true, true, false, false, false, false, false, false, false, false, false] rfl rfl (any_of HT_.out (by kernel_rfl)) (fun _ _ _ h => h) (Or.inl ⟨by rfl, ?_⟩) ?_ ?_
                    rotate_left
                    · intro w'
                      go_simp
                      with_reducible rfl
                    rotate_left
                    · simp only [Act.put, List.setIfInBounds_toArray, List.set_cons_zero, List.set_cons_succ, i64_w, i32_w]
                      rfl
                    refine pure_ (i := 30) (N := some 47) (v := ?_) (a' := ?_) #[true, true, true, true, true, true, true, true, true, true, true, true, true, true, true, true, true, true, true, true, true, true, true, true, true, true, true, true, true, false, true, false, false, false, false, false, false, false] rfl rfl (any_of HT_.out (by kernel_rfl)) (fun _ _ _ h => h) (Or.inl ⟨by rfl, ?_⟩) ?_ ?_
                    rotate_left
                    · intro w'
                      go_simp
                      with_reducible rfl
                    rotate_left
                    · simp only [Act.put, List.setIfInBounds_toArray, List.set_cons_zero, List.set_cons_succ, i64_w, i32_w]
                      rfl
                    refine pure_ (i := 31) (N := some 48) (v := ?_) (a' := ?_) #[true, true, true, true, true, true, true, true, true, true, true, true, true, true, true, true, true, true, true, true, true, true, true, true, true, true, true, true, true, false, true, true, false, false, false, false, false, false] rfl rfl (any_of HT_.out (by kernel_rfl)) (fun _ _ _ h => h) (Or.inl ⟨by rfl, ?_⟩) ?_ ?_
                    rotate_left
                    · intro w'
                      go_simp
                      with_reducible rfl
                    rotate_left
                    · simp only [Act.put, List.setIfInBounds_toArray, List.set_cons_zero, List.set_cons_succ, i64_w, i32_w]
                      rfl
                    refine pure_ (i := 32) (N := some 49) (v := ?_) (a' := ?_) #[true, true, true, true, true, true, true, true, true, true, true, true, true, true, true, true, true, true, true, true, true, true, true, true, true, true, true, true, true, false, true, true, true, false, false, false, false, false] rfl rfl (any_of HT_.out (by kernel_rfl)) (fun _ _ _ h => h) (Or.inl ⟨by rfl, ?_⟩) ?_ ?_
                    rotate_left
                    · intro w'
                      go_simp
                      with_reducible rfl
                    rotate_left
                    · simp only [Act.put, List.setIfInBounds_toArray, List.set_cons_zero, List.set_cons_succ, i64_w, i32_w]
                      rfl
                    refine pure_ (i := 33) (N := some 50) (v := ?_) (a' := ?_) #[true, true, true, true, true, true, true, true, true, true, true, true, true, true, true, true, true, true, true, true, true, true, true, true, true, true, true, true, true, false, true, true, true, true, false, false, false, false] rfl rfl (any_of HT_.out (by kernel_rfl)) (fun _ _ _ h => h) (Or.inl ⟨by rfl, ?_⟩) ?_ ?_
                    rotate_left
                    · intro w'
                      go_simp
                      with_reducible rfl
                    rotate_left
                    · simp only [Act.put, List.setIfInBounds_toArray, List.set_cons_zero, List.set_cons_succ, i64_w, i32_w]
                      rfl
                    refine take_ (i := 29) (N := some 46) (v := ?_) (a' := ?_) #[true, true, true, true, true, true, true, true, true, true, true, true, true, true, true, true, true, true, true, true, true, true, true, true, true, true, true, true, true, true, true, true, true, true, false, false, false, false] rfl rfl (take_ofW HT_.out HW_.out (by kernel_rfl)) (fun _ _ _ h => h) (Or.inl ⟨by rfl, ?_⟩) hHeld ?_ ?_
                    rotate_left
                    · rintro w' ⟨s0, s1, s2, s3, s4, s5, s6, s7, s8, s9, s10, s11, s12, s13, s14, s15, s16, s17, s18, s19, s20, s21, s22, s23, s24, s25, s26, s27, s28, s29, s30, s31, s32, s33, s34, s35⟩
                      go_simp
                      with_reducible rfl
                    rotate_left
                    · simp only [Act.put, List.setIfInBounds_toArray, List.set_cons_zero, List.set_cons_succ, i64_w, i32_w]
                      rfl
                    refine take_ (i := 34) (N := some 51) (v := ?_) (a' := ?_) #[true, true, true, true, true, true, true, true, true, true, true, true, true, true, true, true, true, true, true, true, true, true, true, true, true, true, true, true, true, true, true, true, true, true, true, false, false, false] rfl rfl (take_ofW HT_.out HW_.out (by kernel_rfl)) (fun _ _ _ h => h) (Or.inl ⟨by rfl, ?_⟩) hHeld ?_ ?_
                    rotate_left
                    · rintro w' ⟨s0, s1, s2, s3, s4, s5, s6, s7, s8, s9, s10, s11, s12, s13, s14, s15, s16, s17, s18, s19, s20, s21, s22, s23, s24, s25, s26, s27, s28, s29, s30, s31, s32, s33, s34, s35⟩
                      go_simp
                      with_reducible rfl
                    rotate_left
                    · simp only [Act.put, List.setIfInBounds_toArray, List.set_cons_zero, List.set_cons_succ, i64_w, i32_w]
                      rfl
                    refine one_ (i := 35) (N := some 52) #[true, true, true, true, true, true, true, true, true, true, true, true, true, true, true, true, true, true, true, true, true, true, true, true, true, true, true, true, true, true, true, true, true, true, true, true, false, false] rfl rfl (one_of HT_.out (by kernel_rfl)) (by decide) (fun K hK => ?_)
                    refine goes_ Try.func73 (by kernel_rfl) rfl #[.slice A40001_5 ((rd_T59 l0 x5_1).f2).length c40001_5, .slice A40002_5 ((rd_T59 l1 x5_1).f2).length c40002_5] (by rfl) rfl rfl (by (try simp only [List.map_toArray, List.map_cons, List.map_nil]); first | done | rfl | (simp only [List.length_drop, List.length_take]; rfl)) ?_
                    with_reducible refine (laws_equalInts.calls k1 _ _ ((rd_T59 l0 x5_1).f2) _ _ ((rd_T59 l1 x5_1).f2) false _ ?side1 ?side2 ?side3 ?side4 A10.out).mono ?_
                    (case side1 => repeat (first | exact (Kd.C_below HR40005_5.out HB.out) | (with_reducible refine Kd.C_alloc ?_ _) | (with_reducible refine Kd.C_drewN ?_ _) | (with_reducible refine Kd.C_drew ?_)))
                    (case side2 => exact HC40005_5.out)
                    (case side3 => repeat (first | exact (Kd.C_below HR40006_5.out HB.out) | (with_reducible refine Kd.C_alloc ?_ _) | (with_reducible refine Kd.C_drewN ?_ _) | (with_reducible refine Kd.C_drew ?_)))
                    (case side4 => exact HC40006_5.out)
                    rintro e w' ⟨rfl, ⟨nd, rfl⟩⟩
                    refine ⟨_, rfl, ?_⟩
                    refine hK.out _ _ ⟨((HB.out.cell (World.block_lt_of_cell? w _ hw40001_0)).trans hw40001_0), ((HB.out.cell (World.block_lt_of_cell? w _ hw40001_1)).trans hw40001_1), ((HB.out.cell (World.block_lt_of_cell? w _ hw40001_2)).trans hw40001_2), ((HB.out.cell (World.block_lt_of_cell? w _ hw40001_3)).trans hw40001_3), ((HB.out.cell (World.block_lt_of_cell? w _ hw40001_4)).trans hw40001_4), ((HB.out.cell (World.block_lt_of_cell? w _ hw40001_5)).trans hw40001_5), ((HB.out.cell (World.block_lt_of_cell? w _ hw40002_0)).trans hw40002_0), ((HB.out.cell (World.block_lt_of_cell? w _ hw40002_1)).trans hw40002_1), ((HB.out.cell (World.block_lt_of_cell? w _ hw40002_2)).trans hw40002_2), ((HB.out.cell (World.block_lt_of_cell? w _ hw40002_3)).trans hw40002_3), ((HB.out.cell (World.block_lt_of_cell? w _ hw40002_4)).trans hw40002_4), ((HB.out.cell (World.block_lt_of_cell? w _ hw40002_5)).trans hw40002_5), ((HB.out.cell (World.block_lt_of_cell? w _ hw40003_0)).trans hw40003_0), ((HB.out.cell (World.block_lt_of_cell? w _ hw40003_1)).trans hw40003_1), ((HB.out.cell (World.block_lt_of_cell? w _ hw40003_2)).trans hw40003_2), ((HB.out.cell (World.block_lt_of_cell? w _ hw40003_3)).trans hw40003_3), ((HB.out.cell (World.block_lt_of_cell? w _ hw40003_4)).trans hw40003_4), ((HB.out.cell (World.block_lt_of_cell? w _ hw40003_5)).trans hw40003_5), ((HB.out.cell (World.block_lt_of_cell? w _ hw40004_0)).trans hw40004_0), ((HB.out.cell (World.block_lt_of_cell? w _ hw40004_1)).trans hw40004_1), ((HB.out.cell (World.block_lt_of_cell? w _ hw40004_2)).trans hw40004_2), ((HB.out.cell (World.block_lt_of_cell? w _ hw40004_3)).trans hw40004_3), ((HB.out.cell (World.block_lt_of_cell? w _ hw40004_4)).trans hw40004_4), ((HB.out.cell (World.block_lt_of_cell? w _ hw40004_5)).trans hw40004_5), ((HB.out.cell (World.block_lt_of_cell? w _ hw40005_0)).trans hw40005_0), ((HB.out.cell (World.block_lt_of_cell? w _ hw40005_1)).trans hw40005_1), ((HB.out.cell (World.block_lt_of_cell? w _ hw40005_2)).trans hw40005_2), ((HB.out.cell (World.block_lt_of_cell? w _ hw40005_3)).trans hw40005_3), ((HB.out.cell (World.block_lt_of_cell? w _ hw40005_4)).trans hw40005_4), ((HB.out.cell (World.block_lt_of_cell? w _ hw40005_5)).trans hw40005_5), ((HB.out.cell (World.block_lt_of_cell? w _ hw40006_0)).trans hw40006_0), ((HB.out.cell (World.block_lt_of_cell? w _ hw40006_1)).trans hw40006_1), ((HB.out.cell (World.block_lt_of_cell? w _ hw40006_2)).trans hw40006_2), ((HB.out.cell (World.block_lt_of_cell? w _ hw40006_3)).trans hw40006_3), ((HB.out.cell (World.block_lt_of_cell? w _ hw40006_4)).trans hw40006_4), ((HB.out.cell (World.block_lt_of_cell? w _ hw40006_5)).trans hw40006_5)⟩ (fun hHeld => ?_)
                    clear hK K
                    refine norm_ (a' := ?_) ?_ ?_
                    rotate_left
                    · show Act.put _ (some 52) _ = _
                      simp only [Act.put, List.setIfInBounds_toArray, List.set_cons_zero, List.set_cons_succ, i64_w, i32_w]
                      rfl
                    refine pure_ (i := 36) (N := some 53) (v := ?_) (a' := ?_) #[true, true, true, true, true, true, true, true, true, true, true, true, true, true, true, true, true, true, true, true, true, true, true, true, true, true, true, true, true, true, true, true, true, true, true, true, true, false] rfl rfl (any_of HT_.out (by kernel_rfl)) (fun _ _ _ h => h) (Or.inl ⟨by rfl, ?_⟩) ?_ ?_
                    rotate_left
                    · intro w'
                      go_simp
                      with_reducible rfl
                    rotate_left
                    · simp only [Act.put, List.setIfInBounds_toArray, List.set_cons_zero, List.set_cons_succ, i64_w, i32_w]
                      rfl
                    refine pure_ (i := 37) (N := some 54) (v := ?_) (a' := ?_) #[true, true, true, true, true, true, true, true, true, true, true, true, true, true, true, true, true, true, true, true, true, true, true, true, true, true, true, true, true, true, true, true, true, true, true, true, true, true] rfl rfl (any_of HT_.out (by kernel_rfl)) (fun _ _ _ h => h) (Or.inl ⟨by rfl, ?_⟩) ?_ ?_
                    rotate_left
                    · intro w'
                      go_simp
                      with_reducible rfl
                    rotate_left
                    · simp only [Act.put, List.setIfInBounds_toArray, List.set_cons_zero, List.set_cons_succ, i64_w, i32_w]
                      rfl
                    refine done_ (done_of HT_.out (by kernel_rfl)) ?_
                    try go_wp2
                    go_ret
                    exact ⟨by first | rfl | (simp [errW_none, errW_some] <;> rfl) | (simp [*, errW_none, errW_some] <;> rfl), by repeat (first | (with_reducible first | exact HB.out | apply below_alloc | apply pw_below_drewN | apply below_drew1) | exact HB.out)⟩
              · rw [if_neg c7] at H
                have c7b0 : (((rd_T59 l0 x5_1).f0) == ((rd_T59 l1 x5_1).f0)) = false := beq_eq_false_iff_ne.mpr c7
                have c7b1 : (((rd_T59 l0 x5_1).f0) != ((rd_T59 l1 x5_1).f0)) = true := bne_iff_ne.mpr c7
                obtain rfl := Option.some.inj H
                try go_wp2
                have n0_ := Aside0.mk (below_drew1 HB.out)
                clear HB
                have HB := n0_
                clear n0_
                have p40001 : 0 ≤ (x5_1 : Int) := of_decide_eq_true (by first | (with_reducible assumption) | assumption)
                have q40001 : x5_1 < (l0.length : Int) := of_decide_eq_true (by first | (with_reducible assumption) | assumption)
                obtain ⟨ad40001, A40001_5, c40001_5, e40001, hx40001_0, hx40001_1, hx40001_2, hx40001_3, hx40001_4, hx40001_5, hl40001_5, hi40001_5⟩ := at_T59 HR0.out x5_1 p40001 q40001
                have hw40001_5 := hx40001_5
                have hw40001_4 := hx40001_4
                have hw40001_3 := hx40001_3
                have hw40001_2 := hx40001_2
                have hw40001_1 := hx40001_1
                have hw40001_0 := hx40001_0
                cases e40001
                replace hx40001_0 := (HB.out.cell (World.block_lt_of_cell? w _ hx40001_0)).trans hx40001_0
                replace hx40001_1 := (HB.out.cell (World.block_lt_of_cell? w _ hx40001_1)).trans hx40001_1
                replace hx40001_2 := (HB.out.cell (World.block_lt_of_cell? w _ hx40001_2)).trans hx40001_2
                replace hx40001_3 := (HB.out.cell (World.block_lt_of_cell? w _ hx40001_3)).trans hx40001_3
                replace hx40001_4 := (HB.out.cell (World.block_lt_of_cell? w _ hx40001_4)).trans hx40001_4
                replace hx40001_5 := (HB.out.cell (World.block_lt_of_cell? w _ hx40001_5)).trans hx40001_5
                have HR40001_5 := Aside0.mk hi40001_5
                have HC40001_5 := Aside0.mk hl40001_5
                clear hi40001_5 hl40001_5
                replace p40001 := eq_true p40001
                replace q40001 := eq_true q40001
                have p40002 : 0 ≤ (x5_1 : Int) := of_decide_eq_true (by first | (with_reducible assumption) | assumption)
                have q40002 : x5_1 < (l1.length : Int) := of_decide_eq_true (by first | (with_reducible assumption) | assumption)
                obtain ⟨ad40002, A40002_5, c40002_5, e40002, hx40002_0, hx40002_1, hx40002_2, hx40002_3, hx40002_4, hx40002_5, hl40002_5, hi40002_5⟩ := at_T59 HR1.out x5_1 p40002 q40002
                have hw40002_5 := hx40002_5
                have hw40002_4 := hx40002_4
                have hw40002_3 := hx40002_3
                have hw40002_2 := hx40002_2
                have hw40002_1 := hx40002_1
                have hw40002_0 := hx40002_0
                cases e40002
                replace hx40002_0 := (HB.out.cell (World.block_lt_of_cell? w _ hx40002_0)).trans hx40002_0
                replace hx40002_1 := (HB.out.cell (World.block_lt_of_cell? w _ hx40002_1)).trans hx40002_1
                replace hx40002_2 := (HB.out.cell (World.block_lt_of_cell? w _ hx40002_2)).trans hx40002_2
                replace hx40002_3 := (HB.out.cell (World.block_lt_of_cell? w _ hx40002_3)).trans hx40002_3
                replace hx40002_4 := (HB.out.cell (World.block_lt_of_cell? w _ hx40002_4)).trans hx40002_4
                replace hx40002_5 := (HB.out.cell (World.block_lt_of_cell? w _ hx40002_5)).trans hx40002_5
                have HR40002_5 := Aside0.mk hi40002_5
                have HC40002_5 := Aside0.mk hl40002_5
                clear hi40002_5 hl40002_5
                replace p40002 := eq_true p40002
                replace q40002 := eq_true q40002
                refine start_ (n := 38) (S := fun w' => w'.cell? (ad40001.add ((x5_1).toNat * 6)) = some (.int .i64 ((rd_T59 l0 x5_1).f0)) ∧ w'.cell? ⟨(ad40001.add ((x5_1).toNat * 6)).block, (ad40001.add ((x5_1).toNat * 6)).off + 1, none⟩ = some (.int .i64 ((rd_T59 l0 x5_1).f1.f0)) ∧ w'.cell? ⟨(ad40001.add ((x5_1).toNat * 6)).block, (ad40001.add ((x5_1).toNat * 6)).off + 2, none⟩ = some (.int .i64 ((rd_T59 l0 x5_1).f1.f1)) ∧ w'.cell? ⟨(ad40001.add ((x5_1).toNat * 6)).block, (ad40001.add ((x5_1).toNat * 6)).off + 3, none⟩ = some (.int .i64 ((rd_T59 l0 x5_1).f1.f2)) ∧ w'.cell? ⟨(ad40001.add ((x5_1).toNat * 6)).block, (ad40001.add ((x5_1).toNat * 6)).off + 4, none⟩ = some (.int .i64 ((rd_T59 l0 x5_1).f1.f3)) ∧ w'.cell? ⟨(ad40001.add ((x5_1).toNat * 6)).block, (ad40001.add ((x5_1).toNat * 6)).off + 5, none⟩ = some (.slice A40001_5 ((rd_T59 l0 x5_1).f2).length c40001_5) ∧ w'.cell? (ad40002.add ((x5_1).toNat * 6)) = some (.int .i64 ((rd_T59 l1 x5_1).f0)) ∧ w'.cell? ⟨(ad40002.add ((x5_1).toNat * 6)).block, (ad40002.add ((x5_1).toNat * 6)).off + 1, none⟩ = some (.int .i64 ((rd_T59 l1 x5_1).f1.f0)) ∧ w'.cell? ⟨(ad40002.add ((x5_1).toNat * 6)).block, (ad40002.add ((x5_1).toNat * 6)).off + 2, none⟩ = some (.int .i64 ((rd_T59 l1 x5_1).f1.f1)) ∧ w'.cell? ⟨(ad40002.add ((x5_1).toNat * 6)).block, (ad40002.add ((x5_1).toNat * 6)).off + 3, none⟩ = some (.int .i64 ((rd_T59 l1 x5_1).f1.f2)) ∧ w'.cell? ⟨(ad40002.add ((x5_1).toNat * 6)).block, (ad40002.add ((x5_1).toNat * 6)).off + 4, none⟩ = some (.int .i64 ((rd_T59 l1 x5_1).f1.f3)) ∧ w'.cell? ⟨(ad40002.add ((x5_1).toNat * 6)).block, (ad40002.add ((x5_1).toNat * 6)).off + 5, none⟩ = some (.slice A40002_5 ((rd_T59 l1 x5_1).f2).length c40002_5)) (ds := []) #[false, false, false, false, false, false, false, false, false, false, false, false, false, false, false, false, false, false, false, false, false, false, false, false, false, false, false, false, false, false, false, false, false, false, false, false, false, false] (by kernel_rfl) rfl rfl ⟨((HB.out.cell (World.block_lt_of_cell? w _ hw40001_0)).trans hw40001_0), ((HB.out.cell (World.block_lt_of_cell? w _ hw40001_1)).trans hw40001_1), ((HB.out.cell (World.block_lt_of_cell? w _ hw40001_2)).trans hw40001_2), ((HB.out.cell (World.block_lt_of_cell? w _ hw40001_3)).trans hw40001_3), ((HB.out.cell (World.block_lt_of_cell? w _ hw40001_4)).trans hw40001_4), ((HB.out.cell (World.block_lt_of_cell? w _ hw40001_5)).trans hw40001_5), ((HB.out.cell (World.block_lt_of_cell? w _ hw40002_0)).trans hw40002_0), ((HB.out.cell (World.block_lt_of_cell? w _ hw40002_1)).trans hw40002_1), ((HB.out.cell (World.block_lt_of_cell? w _ hw40002_2)).trans hw40002_2), ((HB.out.cell (World.block_lt_of_cell? w _ hw40002_3)).trans hw40002_3), ((HB.out.cell (World.block_lt_of_cell? w _ hw40002_4)).trans hw40002_4), ((HB.out.cell (World.block_lt_of_cell? w _ hw40002_5)).trans hw40002_5)⟩ (fun hHeld => ?_); refine with_tabW laws_equalSteps.tab6 laws_equalSteps.bits6 (fun HT_ HW_ => ?_)
                generalize wr.drew = w14 at HB HR40001_5 HR40002_5 hx40001_0 hx40001_1 hx40001_2 hx40001_3 hx40001_4 hx40001_5 hx40002_0 hx40002_1 hx40002_2 hx40002_3 hx40002_4 hx40002_5 hHeld ⊢
                refine pure_ (i := 0) (N := some 17) (v := ?_) (a' := ?_) #[true, false, false, false, false, false, false, false, false, false, false, false, false, false, false, false, false, false, false, false, false, false, false, false, false, false, false, false, false, false, false, false, false, false, false, false, false, false] rfl rfl (any_of HT_.out (by kernel_rfl)) (fun _ _ _ h => h) (Or.inl ⟨by rfl, ?_⟩) ?_ ?_
                rotate_left
                · intro w'
                  go_simp
                  with_reducible rfl
                rotate_left
                · simp only [Act.put, List.setIfInBounds_toArray, List.set_cons_zero, List.set_cons_succ, i64_w, i32_w]
                  rfl
                refine pure_ (i := 1) (N := some 18) (v := ?_) (a' := ?_) #[true, true, false, false, false, false, false, false, false, false, false, false, false, false, false, false, false, false, false, false, false, false, false, false, false, false, false, false, false, false, false, false, false, false, false, false, false, false] rfl rfl (any_of HT_.out (by kernel_rfl)) (fun _ _ _ h => h) (Or.inl ⟨by rfl, ?_⟩) ?_ ?_
                rotate_left
                · intro w'
                  go_simp
                  with_reducible rfl
                rotate_left
                · simp only [Act.put, List.setIfInBounds_toArray, List.set_cons_zero, List.set_cons_succ, i64_w, i32_w]
                  rfl
                refine pure_ (i := 2) (N := some 19) (v := ?_) (a' := ?_) #[true, true, true, false, false, false, false, false, false, false, false, false, false, false, false, false, false, false, false, false, false, false, false, false, false, false, false, false, false, false, false, false, false, false, false, false, false, false] rfl rfl (any_of HT_.out (by kernel_rfl)) (fun _ _ _ h => h) (Or.inl ⟨by rfl, ?_⟩) ?_ ?_
                rotate_left
                · intro w'
                  go_simp
                  with_reducible rfl
                rotate_left
                · simp only [Act.put, List.setIfInBounds_toArray, List.set_cons_zero, List.set_cons_succ, i64_w, i32_w]
                  rfl
                refine pure_ (i := 3) (N := some 20) (v := ?_) (a' := ?_) #[true, true, true, true, false, false, false, false, false, false, false, false, false, false, false, false, false, false, false, false, false, false, false, false, false, false, false, false, false, false, false, false, false, false, false, false, false, false] rfl rfl (any_of HT_.out (by kernel_rfl)) (fun _ _ _ h => h) (Or.inl ⟨by rfl, ?_⟩) ?_ ?_
                rotate_left
                · intro w'
                  go_simp
                  with_reducible rfl
                rotate_left
                · simp only [Act.put, List.setIfInBounds_toArray, List.set_cons_zero, List.set_cons_succ, i64_w, i32_w]
                  rfl
                refine pure_ (i := 5) (N := some 22) (v := ?_) (a' := ?_) #[true, true, true, true, false, true, false, false, false, false, false, false, false, false, false, false, false, false, false, false, false, false, false, false, false, false, false, false, false, false, false, false, false, false, false, false, false, false] rfl rfl (any_of HT_.out (by kernel_rfl)) (fun _ _ _ h => h) (Or.inl ⟨by rfl, ?_⟩) ?_ ?_
                rotate_left
                · intro w'
                  go_simp
                  with_reducible rfl
                rotate_left
                · simp only [Act.put, List.setIfInBounds_toArray, List.set_cons_zero, List.set_cons_succ, i64_w, i32_w]
                  rfl
                refine pure_ (i := 6) (N := some 23) (v := ?_) (a' := ?_) #[true, true, true, true, false, true, true, false, false, false, false, false, false, false, false, false, false, false, false, false, false, false, false, false, false, false, false, false, false, false, false, false, false, false, false, false, false, false] rfl rfl (any_of HT_.out (by kernel_rfl)) (fun _ _ _ h => h) (Or.inl ⟨by rfl, ?_⟩) ?_ ?_
                rotate_left
                · intro w'
                  go_simp
                  with_reducible rfl
                rotate_left
                · simp only [Act.put, List.setIfInBounds_toArray, List.set_cons_zero, List.set_cons_succ, i64_w, i32_w]
                  rfl
                refine pure_ (i := 7) (N := some 24) (v := ?_) (a' := ?_) #[true, true, true, true, false, true, true, true, false, false, false, false, false, false, false, false, false, false, false, false, false, false, false, false, false, false, false, false, false, false, false, false, false, false, false, false, false, false] rfl rfl (any_of HT_.out (by kernel_rfl)) (fun _ _ _ h => h) (Or.inl ⟨by rfl, ?_⟩) ?_ ?_
                rotate_left
                · intro w'
                  go_simp
                  with_reducible rfl
                rotate_left
                · simp only [Act.put, List.setIfInBounds_toArray, List.set_cons_zero, List.set_cons_succ, i64_w, i32_w]
                  rfl
                refine pure_ (i := 8) (N := some 25) (v := ?_) (a' := ?_) #[true, true, true, true, false, true, true, true, true, false, false, false, false, false, false, false, false, false, false, false, false, false, false, false, false, false, false, false, false, false, false, false, false, false, false, false, false, false] rfl rfl (any_of HT_.out (by kernel_rfl)) (fun _ _ _ h => h) (Or.inl ⟨by rfl, ?_⟩) ?_ ?_
                rotate_left
                · intro w'
                  go_simp
                  with_reducible rfl
                rotate_left
                · simp only [Act.put, List.setIfInBounds_toArray, List.set_cons_zero, List.set_cons_succ, i64_w, i32_w]
                  rfl
                refine take_ (i := 4) (N := some 21) (v := ?_) (a' := ?_) #[true, true, true, true, true, true, true, true, true, false, false, false, false, false, false, false, false, false, false, false, false, false, false, false, false, false, false, false, false, false, false, false, false, false, false, false, false, false] rfl rfl (take_ofW HT_.out HW_.out (by kernel_rfl)) (fun _ _ _ h => h) (Or.inl ⟨by rfl, ?_⟩) hHeld ?_ ?_
                rotate_left
                · rintro w' ⟨s0, s1, s2, s3, s4, s5, s6, s7, s8, s9, s10, s11⟩
                  go_simp
                  with_reducible rfl
                rotate_left
                · simp only [Act.put, List.setIfInBounds_toArray, List.set_cons_zero, List.set_cons_succ, i64_w, i32_w]
                  rfl
                refine take_ (i := 9) (N := some 26) (v := ?_) (a' := ?_) #[true, true, true, true, true, true, true, true, true, true, false, false, false, false, false, false, false, false, false, false, false, false, false, false, false, false, false, false, false, false, false, false, false, false, false, false, false, false] rfl rfl (take_ofW HT_.out HW_.out (by kernel_rfl)) (fun _ _ _ h => h) (Or.inl ⟨by rfl, ?_⟩) hHeld ?_ ?_
                rotate_left
                · rintro w' ⟨s0, s1, s2, s3, s4, s5, s6, s7, s8, s9, s10, s11⟩
                  go_simp
                  with_reducible rfl
                rotate_left
                · simp only [Act.put, List.setIfInBounds_toArray, List.set_cons_zero, List.set_cons_succ, i64_w, i32_w]
                  rfl
                refine pure_ (i := 10) (N := some 27) (v := ?_) (a' := ?_) #[true, true, true, true, true, true, true, true, true, true, true, false, false, false, false, false, false, false, false, false, false, false, false, false, false, false, false, false, false, false, false, false, false, false, false, false, false, false] rfl rfl (any_of HT_.out (by kernel_rfl)) (fun _ _ _ h => h) (Or.inl ⟨by rfl, ?_⟩) ?_ ?_
                rotate_left
                · intro w'
                  go_simp
                  with_reducible rfl
                rotate_left
                · simp only [Act.put, List.setIfInBounds_toArray, List.set_cons_zero, List.set_cons_succ, i64_w, i32_w]
                  rfl
                refine pure_ (i := 11) (N := some 28) (v := ?_) (a' := ?_) #[true, true, true, true, true, true, true, true, true, true, true, true, false, false, false, false, false, false, false, false, false, false, false, false, false, false, false, false, false, false, false, false, false, false, false, false, false, false] rfl rfl (any_of HT_.out (by kernel_rfl)) (fun _ _ _ h => h) (Or.inl ⟨by rfl, ?_⟩) ?_ ?_
                rotate_left
                · intro w'
                  go_simp
                  with_reducible rfl
                rotate_left
                · simp only [Act.put, List.setIfInBounds_toArray, List.set_cons_zero, List.set_cons_succ, i64_w, i32_w]
                  rfl
                refine pure_ (i := 12) (N := some 29) (v := undef) (a' := ?_) #[true, true, true, true, true, true, true, true, true, true, true, true, true, false, false, false, false, false, false, false, false, false, false, false, false, false, false, false, false, false, false, false, false, false, false, false, false, false] rfl rfl (any_of HT_.out (by kernel_rfl)) (fun _ _ _ h => h) (Or.inr ⟨by rfl, rfl⟩) ?_ ?_
                rotate_left
                · simp only [Act.put, List.setIfInBounds_toArray, List.set_cons_zero, List.set_cons_succ, i64_w, i32_w]
                  rfl
                refine pure_ (i := 13) (N := some 30) (v := undef) (a' := ?_) #[true, true, true, true, true, true, true, true, true, true, true, true, true, true, false, false, false, false, false, false, false, false, false, false, false, false, false, false, false, false, false, false, false, false, false, false, false, false] rfl rfl (any_of HT_.out (by kernel_rfl)) (fun _ _ _ h => h) (Or.inr ⟨by rfl, rfl⟩) ?_ ?_
                rotate_left
                · simp only [Act.put, List.setIfInBounds_toArray, List.set_cons_zero, List.set_cons_succ, i64_w, i32_w]
                  rfl
                refine pure_ (i := 14) (N := some 31) (v := undef) (a' := ?_) #[true, true, true, true, true, true, true, true, true, true, true, true, true, true, true, false, false, false, false, false, false, false, false, false, false, false, false, false, false, false, false, false, false, false, false, false, false, false] rfl rfl (any_of HT_.out (by kernel_rfl)) (fun _ _ _ h => h) (Or.inr ⟨by rfl, rfl⟩) ?_ ?_
                rotate_left
                · simp only [Act.put, List.setIfInBounds_toArray, List.set_cons_zero, List.set_cons_succ, i64_w, i32_w]
                  rfl
                refine pure_ (i := 15) (N := some 32) (v := undef) (a' := ?_) #[true, true, true, true, true, true, true, true, true, true, true, true, true, true, true, true, false, false, false, false, false, false, false, false, false, false, false, false, false, false, false, false, false, false, false, false, false, false] rfl rfl (any_of HT_.out (by kernel_rfl)) (fun _ _ _ h => h) (Or.inr ⟨by rfl, rfl⟩) ?_ ?_
                rotate_left
                · simp only [Act.put, List.setIfInBounds_toArray, List.set_cons_zero, List.set_cons_succ, i64_w, i32_w]
                  rfl
                refine pure_ (i := 16) (N := some 33) (v := undef) (a' := ?_) #[true, true, true, true, true, true, true, true, true, true, true, true, true, true, true, true, true, false, false, false, false, false, false, false, false, false, false, false, false, false, false, false, false, false, false, false, false, false] rfl rfl (any_of HT_.out (by kernel_rfl)) (fun _ _ _ h => h) (Or.inr ⟨by rfl, rfl⟩) ?_ ?_
                rotate_left
                · simp only [Act.put, List.setIfInBounds_toArray, List.set_cons_zero, List.set_cons_succ, i64_w, i32_w]
                  rfl
                refine pure_ (i := 17) (N := some 34) (v := undef) (a' := ?_) #[true, true, true, true, true, true, true, true, true, true, true, true, true, true, true, true, true, true, false, false, false, false, false, false, false, false, false, false, false, false, false, false, false, false, false, false, false, false] rfl rfl (any_of HT_.out (by kernel_rfl)) (fun _ _ _ h => h) (Or.inr ⟨by rfl, rfl⟩) ?_ ?_
                rotate_left
                · simp only [Act.put, List.setIfInBounds_toArray, List.set_cons_zero, List.set_cons_succ, i64_w, i32_w]
                  rfl
                refine pure_ (i := 18) (N := some 35) (v := undef) (a' := ?_) #[true, true, true, true, true, true, true, true, true, true, true, true, true, true, true, true, true, true, true, false, false, false, false, false, false, false, false, false, false, false, false, false, false, false, false, false, false, false] rfl rfl (any_of HT_.out (by kernel_rfl)) (fun _ _ _ h => h) (Or.inr ⟨by rfl, rfl⟩) ?_ ?_
                rotate_left
                · simp only [Act.put, List.setIfInBounds_toArray, List.set_cons_zero, List.set_cons_succ, i64_w, i32_w]
                  rfl
                refine pure_ (i := 19) (N := some 36) (v := undef) (a' := ?_) #[true, true, true, true, true, true, true, true, true, true, true, true, true, true, true, true, true, true, true, true, false, false, false, false, false, false, false, false, false, false, false, false, false, false, false, false, false, false] rfl rfl (any_of HT_.out (by kernel_rfl)) (fun _ _ _ h => h) (Or.inr ⟨by rfl, rfl⟩) ?_ ?_
                rotate_left
                · simp only [Act.put, List.setIfInBounds_toArray, List.set_cons_zero, List.set_cons_succ, i64_w, i32_w]
                  rfl
                refine pure_ (i := 20) (N := some 37) (v := undef) (a' := ?_) #[true, true, true, true, true, true, true, true, true, true, true, true, true, true, true, true, true, true, true, true, true, false, false, false, false, false, false, false, false, false, false, false, false, false, false, false, false, false] rfl rfl (any_of HT_.out (by kernel_rfl)) (fun _ _ _ h => h) (Or.inr ⟨by rfl, rfl⟩) ?_ ?_
                rotate_left
                · simp only [Act.put, List.setIfInBounds_toArray, List.set_cons_zero, List.set_cons_succ, i64_w, i32_w]
                  rfl
                refine pure_ (i := 21) (N := some 38) (v := undef) (a' := ?_) #[true, true, true, true, true, true, true, true, true, true, true, true, true, true, true, true, true, true, true, true, true, true, false, false, false, false, false, false, false, false, false, false, false, false, false, false, false, false] rfl rfl (any_of HT_.out (by kernel_rfl)) (fun _ _ _ h => h) (Or.inr ⟨by rfl, rfl⟩) ?_ ?_
                rotate_left
                · simp only [Act.put, List.setIfInBounds_toArray, List.set_cons_zero, List.set_cons_succ, i64_w, i32_w]
                  rfl
                refine pure_ (i := 22) (N := some 39) (v := undef) (a' := ?_) #[true, true, true, true, true, true, true, true, true, true, true, true, true, true, true, true, true, true, true, true, true, true, true, false, false, false, false, false, false, false, false, false, false, false, false, false, false, false] rfl rfl (any_of HT_.out (by kernel_rfl)) (fun _ _ _ h => h) (Or.inr ⟨by rfl, rfl⟩) ?_ ?_
                rotate_left
                · simp only [Act.put, List.setIfInBounds_toArray, List.set_cons_zero, List.set_cons_succ, i64_w, i32_w]
                  rfl
                refine pure_ (i := 23) (N := some 40) (v := ?_) (a' := ?_) #[true, true, true, true, true, true, true, true, true, true, true, true, true, true, true, true, true, true, true, true, true, true, true, true, false, false, false, false, false, false, false, false, false, false, false, false, false, false] rfl rfl (any_of HT_.out (by kernel_rfl)) (fun _ _ _ h => h) (Or.inl ⟨by rfl, ?_⟩) ?_ ?_
                rotate_left
                · intro w'
                  go_simp
                  with_reducible rfl
                rotate_left
                · simp only [Act.put, List.setIfInBounds_toArray, List.set_cons_zero, List.set_cons_succ, i64_w, i32_w]
                  rfl
                refine pure_ (i := 24) (N := some 41) (v := ?_) (a' := ?_) #[true, true, true, true, true, true, true, true, true, true, true, true, true, true, true, true, true, true, true, true, true, true, true, true, true, false, false, false, false, false, false, false, false, false, false, false, false, false] rfl rfl (any_of HT_.out (by kernel_rfl)) (fun _ _ _ h => h) (Or.inl ⟨by rfl, ?_⟩) ?_ ?_
                rotate_left
                · intro w'
                  go_simp
                  with_reducible rfl
                rotate_left
                · simp only [Act.put, List.setIfInBounds_toArray, List.set_cons_zero, List.set_cons_succ, i64_w, i32_w]
                  rfl
                refine pure_ (i := 25) (N := some 42) (v := undef) (a' := ?_) #[true, true, true, true, true, true, true, true, true, true, true, true, true, true, true, true, true, true, true, true, true, true, true, true, true, true, false, false, false, false, false, false, false, false, false, false, false, false] rfl rfl (any_of HT_.out (by kernel_rfl)) (fun _ _ _ h => h) (Or.inr ⟨by rfl, rfl⟩) ?_ ?_
                rotate_left
                · simp only [Act.put, List.setIfInBounds_toArray, List.set_cons_zero, List.set_cons_succ, i64_w, i32_w]
                  rfl
                refine pure_ (i := 26) (N := some 43) (v := undef) (a' := ?_) #[true, true, true, true, true, true, true, true, true, true, true, true, true, true, true, true, true, true, true, true, true, true, true, true, true, true, true, false, false, false, false, false, false, false, false, false, false, false] rfl rfl (any_of HT_.out (by kernel_rfl)) (fun _ _ _ h => h) (Or.inr ⟨by rfl, rfl⟩) ?_ ?_
                rotate_left
                · simp only [Act.put, List.setIfInBounds_toArray, List.set_cons_zero, List.set_cons_succ, i64_w, i32_w]
                  rfl
                refine pure_ (i := 27) (N := some 44) (v := undef) (a' := ?_) #[true, true, true, true, true, true, true, true, true, true, true, true, true, true, true, true, true, true, true, true, true, true, true, true, true, true, true, true, false, false, false, false, false, false, false, false, false, false] rfl rfl (any_of HT_.out (by kernel_rfl)) (fun _ _ _ h => h) (Or.inr ⟨by rfl, rfl⟩) ?_ ?_
                rotate_left
                · simp only [Act.put, List.setIfInBounds_toArray, List.set_cons_zero, List.set_cons_succ, i64_w, i32_w]
                  rfl
                refine pure_ (i := 28) (N := some 45) (v := undef) (a' := ?_) #[true, true, true, true, true, true, true, true, true, true, true, true, true, true, true, true, true, true, true, true, true, true, true, true, true, true, true, true, true, false, false, false, false, false, false, false, false, false] rfl rfl (any_of HT_.out (by kernel_rfl)) (fun _ _ _ h => h) (Or.inr ⟨by rfl, rfl⟩) ?_ ?_
                rotate_left
                · simp only [Act.put, List.setIfInBounds_toArray, List.set_cons_zero, List.set_cons_succ, i64_w, i32_w]
                  rfl
                refine pure_ (i := 29) (N := some 46) (v := undef) (a' := ?_) #[true, true, true, true, true, true, true, true, true, true, true, true, true, true, true, true, true, true, true, true, true, true, true, true, true, true, true, true, true, true, false, false, false, false, false, false, false, false] rfl rfl (any_of HT_.out (by kernel_rfl)) (fun _ _ _ h => h) (Or.inr ⟨by rfl, rfl⟩) ?_ ?_
                rotate_left
                · simp only [Act.put, List.setIfInBounds_toArray, List.set_cons_zero, List.set_cons_succ, i64_w, i32_w]
                  rfl
                refine pure_ (i := 30) (N := some 47) (v := undef) (a' := ?_) #[true, true, true, true, true, true, true, true, true, true, true, true, true, true, true, true, true, true, true, true, true, true, true, true, true, true, true, true, true, true, true, false, false, false, false, false, false, false] rfl rfl (any_of HT_.out (by kernel_rfl)) (fun _ _ _ h => h) (Or.inr ⟨by rfl, rfl⟩) ?_ ?_
                rotate_left
                · simp only [Act.put, List.setIfInBounds_toArray, List.set_cons_zero, List.set_cons_succ, i64_w, i32_w]
                  rfl
                refine pure_ (i := 31) (N := some 48) (v := undef) (a' := ?_) #[true, true, true, true, true, true, true, true, true, true, true, true, true, true, true, true, true, true, true, true, true, true, true, true, true, true, true, true, true, true, true, true, false, false, false, false, false, false] rfl rfl (any_of HT_.out (by kernel_rfl)) (fun _ _ _ h => h) (Or.inr ⟨by rfl, rfl⟩) ?_ ?_
                rotate_left
                · simp only [Act.put, List.setIfInBounds_toArray, List.set_cons_zero, List.set_cons_succ, i64_w, i32_w]
                  rfl
                refine pure_ (i := 32) (N := some 49) (v := undef) (a' := ?_) #[true, true, true, true, true, true, true, true, true, true, true, true, true, true, true, true, true, true, true, true, true, true, true, true, true, true, true, true, true, true, true, true, true, false, false, false, false, false] rfl rfl (any_of HT_.out (by kernel_rfl)) (fun _ _ _ h => h) (Or.inr ⟨by rfl, rfl⟩) ?_ ?_
                rotate_left
                · simp only [Act.put, List.setIfInBounds_toArray, List.set_cons_zero, List.set_cons_succ, i64_w, i32_w]
                  rfl
                refine pure_ (i := 33) (N := some 50) (v := undef) (a' := ?_) #[true, true, true, true, true, true, true, true, true, true, true, true, true, true, true, true, true, true, true, true, true, true, true, true, true, true, true, true, true, true, true, true, true, true, false, false, false, false] rfl rfl (any_of HT_.out (by kernel_rfl)) (fun _ _ _ h => h) (Or.inr ⟨by rfl, rfl⟩) ?_ ?_
                rotate_left
                · simp only [Act.put, List.setIfInBounds_toArray, List.set_cons_zero, List.set_cons_succ, i64_w, i32_w]
                  rfl
                refine pure_ (i := 34) (N := some 51) (v := undef) (a' := ?_) #[true, true, true, true, true, true, true, true, true, true, true, true, true, true, true, true, true, true, true, true, true, true, true, true, true, true, true, true, true, true, true, true, true, true, true, false, false, false] rfl rfl (any_of HT_.out (by kernel_rfl)) (fun _ _ _ h => h) (Or.inr ⟨by rfl, rfl⟩) ?_ ?_
                rotate_left
                · simp only [Act.put, List.setIfInBounds_toArray, List.set_cons_zero, List.set_cons_succ, i64_w, i32_w]
                  rfl
                refine pure_ (i := 35) (N := some 52) (v := undef) (a' := ?_) #[true, true, true, true, true, true, true, true, true, true, true, true, true, true, true, true, true, true, true, true, true, true, true, true, true, true, true, true, true, true, true, true, true, true, true, true, false, false] rfl rfl (any_of HT_.out (by kernel_rfl)) (fun _ _ _ h => h) (Or.inr ⟨by rfl, rfl⟩) ?_ ?_
                rotate_left
                · simp only [Act.put, List.setIfInBounds_toArray, List.set_cons_zero, List.set_cons_succ, i64_w, i32_w]
                  rfl
                refine pure_ (i := 36) (N := some 53) (v := undef) (a' := ?_) #[true, true, true, true, true, true, true, true, true, true, true, true, true, true, true, true, true, true, true, true, true, true, true, true, true, true, true, true, true, true, true, true, true, true, true, true, true, false] rfl rfl (any_of HT_.out (by kernel_rfl)) (fun _ _ _ h => h) (Or.inr ⟨by rfl, rfl⟩) ?_ ?_
                rotate_left
                · simp only [Act.put, List.setIfInBounds_toArray, List.set_cons_zero, List.set_cons_succ, i64_w, i32_w]
                  rfl
                refine pure_ (i := 37) (N := some 54) (v := ?_) (a' := ?_) #[true, true, true, true, true, true, true, true, true, true, true, true, true, true, true, true, true, true, true, true, true, true, true, true, true, true, true, true, true, true, true, true, true, true, true, true, true, true] rfl rfl (any_of HT_.out (by kernel_rfl)) (fun _ _ _ h => h) (Or.inl ⟨by rfl, ?_⟩) ?_ ?_
                rotate_left
                · intro w'
                  go_simp
                  with_reducible rfl
                rotate_left
                · simp only [Act.put, List.setIfInBounds_toArray, List.set_cons_zero, List.set_cons_succ, i64_w, i32_w]
                  rfl
                refine done_ (done_of HT_.out (by kernel_rfl)) ?_
                try go_wp2
                go_ret
                exact ⟨by first | rfl | (simp [errW_none, errW_some] <;> rfl) | (simp [*, errW_none, errW_some] <;> rfl), by repeat (first | (with_reducible first | exact HB.out | apply below_alloc | apply pw_below_drewN | apply below_drew1) | exact HB.out)⟩
            · rw [if_neg c6] at H
              exact absurd H (by simp)
          · rw [if_neg c5] at H
            exact absurd H (by simp)
        · rw [if_neg c4] at H
          have c4b0 : decide (x5_1 < (l0.length : Int)) = false := decide_eq_false c4
          clear c4
          obtain rfl := Option.some.inj H
          go_wp2
          go_ret
          exact ⟨by first | rfl | (simp [errW_none, errW_some] <;> rfl) | (simp [*, errW_none, errW_some] <;> rfl), by repeat (first | (with_reducible first | exact HB.out | apply below_alloc | apply pw_below_drewN | apply below_drew1) | exact HB.out)⟩
  · rw [if_neg c3] at H
    have c3b0 : ((l0.length : Int) == (l1.length : Int)) = false := beq_eq_false_iff_ne.mpr c3
    have c3b1 : ((l0.length : Int) != (l1.length : Int)) = true := bne_iff_ne.mpr c3
    have c3b2 : (l0.length == l1.length) = false := by first | simpa using c3 | (simp at c3 ⊢; omega)
    obtain rfl := Option.some.inj H
    go_enter Try.func39, Try.ntmps39
    go_wp2
    go_ret
    exact ⟨by first | rfl | (simp [errW_none, errW_some] <;> rfl) | (simp [*, errW_none, errW_some] <;> rfl), by repeat (first | (with_reducible first | exact HB.out | apply below_alloc | apply pw_below_drewN | apply below_drew1) | exact HB.out)⟩

end Go.Proofs.Ytgfjccegehnjcaa.Q
