/- A part of the proof that the statement FnDirtyTilesSaid holds, under no condition of its own: Clean tiles are unchanged: the law FnDirtyTiles over lists of numbers alone. -/
import Derived.Test.YtnofkbbcbpjhfaaCFnDirtyTiles1
import Derived.Test.YtnofkbbcbpjhfaaCFnDirtyTiles2
import Derived.Deep.WholeRow
import Derived.Deep.RegionWith
import Derived.OrdersHeld
import Derived.Deep.RegionHeld
import Derived.RegionTactic
namespace Go.Proofs.Ytnofkbbcbpjhfaa.Q
open Go.RowKit Go.Proofs.YtnofkbbcbpjhfaaW.PrintWords Go.Proofs.YtnofkbbcbpjhfaaW.PrintLast Go.Proofs.YtnofkbbcbpjhfaaW.PrintMore
open Go.Proofs.YtnofkbbcbpjhfaaW.PrintWords.Aside0 (mk)
attribute [local go_sem] max2_int min2_int max_two min_two max_three min_three max_four min_four
set_option linter.unusedVariables false
set_option linter.unusedSimpArgs false
def spec_randomLayer.f (k : Nat) (s0_0 : List Int) (s0_1 : Int) (a1 : Int) : Option (Int × Int × Int × List Int × Int × Int × Int × Int × Bool × Int) := (spec_randomImage.f k s0_0 s0_1 a1).bind fun bt147002 => ((spec_reader_pick.f k s0_0 bt147002.2.2.2.2 7).bind fun bt147009 => ((spec_reader_pick.f k s0_0 bt147009.2 5).bind fun bt147011 => ((spec_reader_pick.f k s0_0 bt147011.2 5).bind fun bt147013 => ((spec_reader_pick.f k s0_0 bt147013.2 5).bind fun bt147015 => ((spec_reader_one.f k s0_0 bt147015.2 ([255, 128, 0, 200] : List Int)).bind fun bt147021 => (some (bt147002.1, bt147002.2.1, bt147002.2.2.1, bt147002.2.2.2.1, wrap64 (bt147009.1 - 3), wrap64 (bt147011.1 - 2), bt147013.1, bt147021.1, (bt147015.1 == 0), bt147021.2)))))))
theorem spec_randomLayer.mono : ∀ a0 a1 a2 k, LeO (spec_randomLayer.f k a0 a1 a2) (spec_randomLayer.f (k + 1) a0 a1 a2) := by
 intro a0 a1 a2 k
 unfold spec_randomLayer.f
 repeat' first | (with_reducible exact spec_randomImage.mono _ _ _ _) | (with_reducible exact spec_reader_one.mono _ _ _ _) | (with_reducible exact spec_reader_pick.mono _ _ _ _) | (with_reducible exact LeO.refl _) | (with_reducible refine LeO.bind ?_ (fun _ => ?_))
set_option maxHeartbeats 8000000 in
set_option maxRecDepth 100000 in
theorem spec_randomLayer.calls (k : Nat) (g : Nat) (s0_0 : List Int) (s0_1 : Int) (a1 : Int) (r1 : Int) (r2 : Int) (r3 : Int) (r4 : List Int) (r5 : Int) (r6 : Int) (r7 : Int) (r8 : Int) (r9 : Bool) (r10 : Int) (w0 w : World) (hI : IsS144 w0 w g s0_0 s0_1) (hB : Below w0.heap.size w0 w) (h : spec_randomLayer.f k s0_0 s0_1 a1 = some (r1, r2, r3, r4, r5, r6, r7, r8, r9, r10)) :
  Calls Try.prog 146 #[.pointer (some ⟨g, 0, none⟩), .int .i64 a1] w fun e w' => ∃ v3_ : Value, e = .returned (.agg #[.int .i64 r1, .int .i64 r2, .int .i64 r3, v3_, .int .i64 r5, .int .i64 r6, .int .i64 r7, .int .i64 r8, .bool r9]) ∧ Kd.R (Kd.int .i64) 3 w' w.heap.size (fun _ => True) v3_ r4 ∧ IsS144 w0 w' g s0_0 r10 ∧ Below w0.heap.size w0 w' ∧ KeepBut w w' g none := by
 have hu55 := Try.underlying55
 have HI0 := mk hI
 have HK := mk (KeepBut.refl w g none)
 have HL := mk hB.size
 clear hI
 have HW0 := mk hB.size
 have HB := mk hB
 clear hB
 have H : ((spec_randomImage.f k s0_0 s0_1 a1).bind fun bt147002 => ((spec_reader_pick.f k s0_0 bt147002.2.2.2.2 7).bind fun bt147009 => ((spec_reader_pick.f k s0_0 bt147009.2 5).bind fun bt147011 => ((spec_reader_pick.f k s0_0 bt147011.2 5).bind fun bt147013 => ((spec_reader_pick.f k s0_0 bt147013.2 5).bind fun bt147015 => ((spec_reader_one.f k s0_0 bt147015.2 ([255, 128, 0, 200] : List Int)).bind fun bt147021 => (some (bt147002.1, bt147002.2.1, bt147002.2.2.1, bt147002.2.2.2.1, wrap64 (bt147009.1 - 3), wrap64 (bt147011.1 - 2), bt147013.1, bt147021.1, (bt147015.1 == 0), bt147021.2)))))))) = some (r1, r2, r3, r4, r5, r6, r7, r8, r9, r10) := h
 clear h
 replace H := Option.bind_eq_some_iff.mp H
 obtain ⟨⟨t147002, t147003, t147004, t147005, t147008⟩, A30, H⟩ := H
 replace H : ((spec_reader_pick.f k s0_0 t147008 7).bind fun bt147009 => ((spec_reader_pick.f k s0_0 bt147009.2 5).bind fun bt147011 => ((spec_reader_pick.f k s0_0 bt147011.2 5).bind fun bt147013 => ((spec_reader_pick.f k s0_0 bt147013.2 5).bind fun bt147015 => ((spec_reader_one.f k s0_0 bt147015.2 ([255, 128, 0, 200] : List Int)).bind fun bt147021 => (some (t147002, t147003, t147004, t147005, wrap64 (bt147009.1 - 3), wrap64 (bt147011.1 - 2), bt147013.1, bt147021.1, (bt147015.1 == 0), bt147021.2))))))) = some (r1, r2, r3, r4, r5, r6, r7, r8, r9, r10) := H
 have A3 := mk A30
 clear A30
 replace H := Option.bind_eq_some_iff.mp H
 obtain ⟨⟨t147009, t147010⟩, A40, H⟩ := H
 replace H : ((spec_reader_pick.f k s0_0 t147010 5).bind fun bt147011 => ((spec_reader_pick.f k s0_0 bt147011.2 5).bind fun bt147013 => ((spec_reader_pick.f k s0_0 bt147013.2 5).bind fun bt147015 => ((spec_reader_one.f k s0_0 bt147015.2 ([255, 128, 0, 200] : List Int)).bind fun bt147021 => (some (t147002, t147003, t147004, t147005, wrap64 (t147009 - 3), wrap64 (bt147011.1 - 2), bt147013.1, bt147021.1, (bt147015.1 == 0), bt147021.2)))))) = some (r1, r2, r3, r4, r5, r6, r7, r8, r9, r10) := H
 have A4 := mk A40
 clear A40
 replace H := Option.bind_eq_some_iff.mp H
 obtain ⟨⟨t147011, t147012⟩, A50, H⟩ := H
 replace H : ((spec_reader_pick.f k s0_0 t147012 5).bind fun bt147013 => ((spec_reader_pick.f k s0_0 bt147013.2 5).bind fun bt147015 => ((spec_reader_one.f k s0_0 bt147015.2 ([255, 128, 0, 200] : List Int)).bind fun bt147021 => (some (t147002, t147003, t147004, t147005, wrap64 (t147009 - 3), wrap64 (t147011 - 2), bt147013.1, bt147021.1, (bt147015.1 == 0), bt147021.2))))) = some (r1, r2, r3, r4, r5, r6, r7, r8, r9, r10) := H
 have A5 := mk A50
 clear A50
 replace H := Option.bind_eq_some_iff.mp H
 obtain ⟨⟨t147013, t147014⟩, A60, H⟩ := H
 replace H : ((spec_reader_pick.f k s0_0 t147014 5).bind fun bt147015 => ((spec_reader_one.f k s0_0 bt147015.2 ([255, 128, 0, 200] : List Int)).bind fun bt147021 => (some (t147002, t147003, t147004, t147005, wrap64 (t147009 - 3), wrap64 (t147011 - 2), t147013, bt147021.1, (bt147015.1 == 0), bt147021.2)))) = some (r1, r2, r3, r4, r5, r6, r7, r8, r9, r10) := H
 have A6 := mk A60
 clear A60
 replace H := Option.bind_eq_some_iff.mp H
 obtain ⟨⟨t147015, t147016⟩, A70, H⟩ := H
 replace H : ((spec_reader_one.f k s0_0 t147016 ([255, 128, 0, 200] : List Int)).bind fun bt147021 => (some (t147002, t147003, t147004, t147005, wrap64 (t147009 - 3), wrap64 (t147011 - 2), t147013, bt147021.1, (t147015 == 0), bt147021.2))) = some (r1, r2, r3, r4, r5, r6, r7, r8, r9, r10) := H
 have A7 := mk A70
 clear A70
 obtain ⟨y147018, hy147018⟩ : ∃ y_ : List Int, y_ = ([255, 128, 0, 200] : List Int) := ⟨_, rfl⟩
 replace H : ((spec_reader_one.f k s0_0 t147016 y147018).bind fun bt147021 => (some (t147002, t147003, t147004, t147005, wrap64 (t147009 - 3), wrap64 (t147011 - 2), t147013, bt147021.1, (t147015 == 0), bt147021.2))) = some (r1, r2, r3, r4, r5, r6, r7, r8, r9, r10) := by (rw [hy147018]; with_reducible exact H)
 have Ny147018 := mk hy147018
 clear hy147018
 replace H := Option.bind_eq_some_iff.mp H
 obtain ⟨⟨t147021, t147022⟩, A80, H⟩ := H
 replace H : (some (t147002, t147003, t147004, t147005, wrap64 (t147009 - 3), wrap64 (t147011 - 2), t147013, t147021, (t147015 == 0), t147022)) = some (r1, r2, r3, r4, r5, r6, r7, r8, r9, r10) := H
 have A8 := mk A80
 clear A80
 simp only [Option.some.injEq, Prod.mk.injEq] at H
 obtain ⟨rfl, rfl, rfl, rfl, rfl, rfl, rfl, rfl, rfl, rfl⟩ := H
 go_enter Try.func146, Try.ntmps146
 go_wp2_with (first | ((with_reducible refine gate_dst (N := 4) rfl ?_); refine box_event ?hg (N := 4) ?hd (cs := #[.int .i64 0, .int .i64 0, .int .i64 0, .slice none 0 0, .int .i64 0, .int .i64 0, .int .i64 0, .int .i64 0, .bool false]) (t := 55) ?hr ?_; (case hd => rfl); (case hg => rfl); (case hr => (go_simp; done)); intro gb147001 hg w9 hbox hb; have n0_ := mk (IsS144.below HI0.out hb); have n1_ := mk (KeepBut.trans HK.out (KeepBut.of_below hb g none) (.inl rfl)); have n2_ := mk (below_step HB.out hb); have n3_ := mk (hbox); have n4_ := mk ((by rw [hg]; exact (keep_size (w := w) (g := g) (row := none) HK.out) : w.heap.size ≤ gb147001)); have n5_ := mk ((Nat.le_trans HW0.out (by rw [hg]; exact (keep_size (w := w) (g := g) (row := none) HK.out) : w.heap.size ≤ gb147001) : w0.heap.size ≤ gb147001)); have n6_ := mk ((by rw [hg]; exact Nat.ne_of_lt (IsS144.lt (show IsS144 w0 _ g s0_0 s0_1 from by exact HI0.out)) : g ≠ gb147001)); have n7_ := mk ((by rw [hg]; exact Nat.ne_of_gt (IsS144.lt (show IsS144 w0 _ g s0_0 s0_1 from by exact HI0.out)) : gb147001 ≠ g)); clear HI0; clear HK; clear HB; have HI0 := n0_; have HK := n1_; have HB := n2_; have BK147001 := n3_; have GW147001 := n4_; have GE147001 := n5_; have NB0_147001 := n6_; have NB147001_0 := n7_; clear n0_ n1_ n2_ n3_ n4_ n5_ n6_ n7_; clear hb hbox hg) | ((with_reducible refine gate_callee (f := 137) rfl ?_); refine goesL_ (some 8) rfl rfl Try.func137 (by kernel_rfl) rfl #[.pointer (some ⟨g, 0, none⟩), .int .i64 a1] rfl (by (try simp only [List.map_toArray, List.map_cons, List.map_nil]); rfl) ?_; (with_reducible refine (spec_randomImage.calls k g s0_0 s0_1 a1 t147002 t147003 t147004 t147005 t147008 w0 _ ?side1 ?side2 A3.out).mono ?_); (case side1 => repeat (with_reducible exact HI0.out)); (case side2 => repeat (with_reducible exact HB.out)); rintro e w10 ⟨v147006, rfl, ho0, hi, hb, hk⟩; refine ⟨_, rfl, ?_⟩; have n0_ := mk (KeepBut.blk hk (g' := gb147001) (o := .cells #[.int .i64 0, .int .i64 0, .int .i64 0, .slice none 0 0, .int .i64 0, .int .i64 0, .int .i64 0, .int .i64 0, .bool false] 55 (0, 0)) BK147001.out NB147001_0.out (by simp)); have n1_ := mk (Kd.R_lower ho0 (keep_size (w := w) (g := g) (row := none) HK.out)); have n2_ := mk (KeepBut.trans HK.out hk (.inl rfl)); have n3_ := mk (hb); have n4_ := mk (hi); clear BK147001; clear HK; clear HB; clear HI0; have BK147001 := n0_; have HO147007 := n1_; have HK := n2_; have HB := n3_; have HI0 := n4_; clear n0_ n1_ n2_ n3_ n4_; (try clear hb); (try clear hk); (try clear hi); (try clear ho0)) | ((with_reducible refine gate_callee (f := 127) rfl ?_); refine goesL_ (some 10) rfl rfl Try.func127 (by kernel_rfl) rfl #[.pointer (some ⟨g, 0, none⟩), .int .i64 7] rfl (by (try simp only [List.map_toArray, List.map_cons, List.map_nil]); rfl) ?_; (with_reducible refine (spec_reader_pick.calls k g s0_0 t147008 7 t147009 t147010 w0 _ ?side1 ?side2 A4.out).mono ?_); (case side1 => repeat (with_reducible exact HI0.out)); (case side2 => repeat (with_reducible exact HB.out)); rintro e w11 ⟨rfl, hi, hb, hk⟩; refine ⟨_, rfl, ?_⟩; have n0_ := mk (KeepBut.blk hk (g' := gb147001) (o := .cells #[.int .i64 0, .int .i64 0, .int .i64 0, .slice none 0 0, .int .i64 0, .int .i64 0, .int .i64 0, .int .i64 0, .bool false] 55 (0, 0)) BK147001.out NB147001_0.out (by simp)); have n1_ := mk (Kd.R_mono (Kd.R_keep (IsS144.apart (show IsS144 w0 _ g s0_0 t147008 from by exact HI0.out) HO147007.out (by decide)) hk (fun _ h => h.2)) (fun _ h => h.1)); have n2_ := mk (KeepBut.trans HK.out hk (.inl rfl)); have n3_ := mk (hb); have n4_ := mk (hi); clear BK147001; clear HO147007; clear HK; clear HB; clear HI0; have BK147001 := n0_; have HO147007 := n1_; have HK := n2_; have HB := n3_; have HI0 := n4_; clear n0_ n1_ n2_ n3_ n4_; (try clear hb); (try clear hk); (try clear hi)) | ((with_reducible refine gate_callee (f := 127) rfl ?_); refine goesL_ (some 13) rfl rfl Try.func127 (by kernel_rfl) rfl #[.pointer (some ⟨g, 0, none⟩), .int .i64 5] rfl (by (try simp only [List.map_toArray, List.map_cons, List.map_nil]); rfl) ?_; (with_reducible refine (spec_reader_pick.calls k g s0_0 t147010 5 t147011 t147012 w0 _ ?side1 ?side2 A5.out).mono ?_); (case side1 => repeat (with_reducible exact HI0.out)); (case side2 => repeat (with_reducible exact HB.out)); rintro e w12 ⟨rfl, hi, hb, hk⟩; refine ⟨_, rfl, ?_⟩; have n0_ := mk (KeepBut.blk hk (g' := gb147001) (o := .cells #[.int .i64 0, .int .i64 0, .int .i64 0, .slice none 0 0, .int .i64 0, .int .i64 0, .int .i64 0, .int .i64 0, .bool false] 55 (0, 0)) BK147001.out NB147001_0.out (by simp)); have n1_ := mk (Kd.R_mono (Kd.R_keep (IsS144.apart (show IsS144 w0 _ g s0_0 t147010 from by exact HI0.out) HO147007.out (by decide)) hk (fun _ h => h.2)) (fun _ h => h.1)); have n2_ := mk (KeepBut.trans HK.out hk (.inl rfl)); have n3_ := mk (hb); have n4_ := mk (hi); clear BK147001; clear HO147007; clear HK; clear HB; clear HI0; have BK147001 := n0_; have HO147007 := n1_; have HK := n2_; have HB := n3_; have HI0 := n4_; clear n0_ n1_ n2_ n3_ n4_; (try clear hb); (try clear hk); (try clear hi)) | ((with_reducible refine gate_callee (f := 127) rfl ?_); refine goesL_ (some 16) rfl rfl Try.func127 (by kernel_rfl) rfl #[.pointer (some ⟨g, 0, none⟩), .int .i64 5] rfl (by (try simp only [List.map_toArray, List.map_cons, List.map_nil]); rfl) ?_; (with_reducible refine (spec_reader_pick.calls k g s0_0 t147012 5 t147013 t147014 w0 _ ?side1 ?side2 A6.out).mono ?_); (case side1 => repeat (with_reducible exact HI0.out)); (case side2 => repeat (with_reducible exact HB.out)); rintro e w13 ⟨rfl, hi, hb, hk⟩; refine ⟨_, rfl, ?_⟩; have n0_ := mk (KeepBut.blk hk (g' := gb147001) (o := .cells #[.int .i64 0, .int .i64 0, .int .i64 0, .slice none 0 0, .int .i64 0, .int .i64 0, .int .i64 0, .int .i64 0, .bool false] 55 (0, 0)) BK147001.out NB147001_0.out (by simp)); have n1_ := mk (Kd.R_mono (Kd.R_keep (IsS144.apart (show IsS144 w0 _ g s0_0 t147012 from by exact HI0.out) HO147007.out (by decide)) hk (fun _ h => h.2)) (fun _ h => h.1)); have n2_ := mk (KeepBut.trans HK.out hk (.inl rfl)); have n3_ := mk (hb); have n4_ := mk (hi); clear BK147001; clear HO147007; clear HK; clear HB; clear HI0; have BK147001 := n0_; have HO147007 := n1_; have HK := n2_; have HB := n3_; have HI0 := n4_; clear n0_ n1_ n2_ n3_ n4_; (try clear hb); (try clear hk); (try clear hi)) | ((with_reducible refine gate_callee (f := 127) rfl ?_); refine goesL_ (some 18) rfl rfl Try.func127 (by kernel_rfl) rfl #[.pointer (some ⟨g, 0, none⟩), .int .i64 5] rfl (by (try simp only [List.map_toArray, List.map_cons, List.map_nil]); rfl) ?_; (with_reducible refine (spec_reader_pick.calls k g s0_0 t147014 5 t147015 t147016 w0 _ ?side1 ?side2 A7.out).mono ?_); (case side1 => repeat (with_reducible exact HI0.out)); (case side2 => repeat (with_reducible exact HB.out)); rintro e w14 ⟨rfl, hi, hb, hk⟩; refine ⟨_, rfl, ?_⟩; have n0_ := mk (KeepBut.blk hk (g' := gb147001) (o := .cells #[.int .i64 0, .int .i64 0, .int .i64 0, .slice none 0 0, .int .i64 0, .int .i64 0, .int .i64 0, .int .i64 0, .bool false] 55 (0, 0)) BK147001.out NB147001_0.out (by simp)); have n1_ := mk (Kd.R_mono (Kd.R_keep (IsS144.apart (show IsS144 w0 _ g s0_0 t147014 from by exact HI0.out) HO147007.out (by decide)) hk (fun _ h => h.2)) (fun _ h => h.1)); have n2_ := mk (KeepBut.trans HK.out hk (.inl rfl)); have n3_ := mk (hb); have n4_ := mk (hi); clear BK147001; clear HO147007; clear HK; clear HB; clear HI0; have BK147001 := n0_; have HO147007 := n1_; have HK := n2_; have HB := n3_; have HI0 := n4_; clear n0_ n1_ n2_ n3_ n4_; (try clear hb); (try clear hk); (try clear hi); obtain ⟨Ao15, co15, eo15⟩ := Kd.R_slice HO147007.out; subst eo15) | ((with_reducible refine gate_dst (N := 5) rfl ?_); refine box_event ?hg (N := 5) ?hd (cs := #[.int .i64 0, .int .i64 0, .int .i64 0, .slice none 0 0, .int .i64 0, .int .i64 0, .int .i64 0, .int .i64 0, .bool false]) (t := 55) ?hr ?_; (case hd => rfl); (case hg => rfl); (case hr => (go_simp; done)); intro gb147017 hg w16 hbox hb; have n0_ := mk (Kd.R_below HO147007.out hb); have n1_ := mk (IsS144.below HI0.out hb); have n2_ := mk (blk_below BK147001.out hb); have n3_ := mk (KeepBut.trans HK.out (KeepBut.of_below hb g none) (.inl rfl)); have n4_ := mk (below_step HB.out hb); have n5_ := mk (hbox); have n6_ := mk ((by rw [hg]; exact (keep_size (w := w) (g := g) (row := none) HK.out) : w.heap.size ≤ gb147017)); have n7_ := mk ((Nat.le_trans HW0.out (by rw [hg]; exact (keep_size (w := w) (g := g) (row := none) HK.out) : w.heap.size ≤ gb147017) : w0.heap.size ≤ gb147017)); have n8_ := mk ((by rw [hg]; exact Nat.ne_of_lt (blk_lt BK147001.out) : gb147001 ≠ gb147017)); have n9_ := mk ((by rw [hg]; exact Nat.ne_of_gt (blk_lt BK147001.out) : gb147017 ≠ gb147001)); have n10_ := mk ((by rw [hg]; exact Nat.ne_of_lt (IsS144.lt (show IsS144 w0 _ g s0_0 t147016 from by exact HI0.out)) : g ≠ gb147017)); have n11_ := mk ((by rw [hg]; exact Nat.ne_of_gt (IsS144.lt (show IsS144 w0 _ g s0_0 t147016 from by exact HI0.out)) : gb147017 ≠ g)); clear HO147007; clear HI0; clear BK147001; clear HK; clear HB; have HO147007 := n0_; have HI0 := n1_; have BK147001 := n2_; have HK := n3_; have HB := n4_; have BK147017 := n5_; have GW147017 := n6_; have GE147017 := n7_; have NB147001_147017 := n8_; have NB147017_147001 := n9_; have NB0_147017 := n10_; have NB147017_0 := n11_; clear n0_ n1_ n2_ n3_ n4_ n5_ n6_ n7_ n8_ n9_ n10_ n11_; clear hb hbox hg; have hnb17 := NB147017_147001.out; have hnc17 := NB147001_147017.out; have hnb18 := NB147017_0.out; have hnc18 := NB0_147017.out; obtain ⟨hcz19_0, hcz19_1, hcz19_2, hcz19_3, hcz19_4, hcz19_5, hcz19_6, hcz19_7, hcz19_8, hfz19_0, hfz19_1, hfz19_2, hfz19_3, hfz19_4, hfz19_5, hfz19_6, hfz19_7, -⟩ := c9 BK147017.out; have hfz19_8 := blk_frozen BK147017.out 8) | ((with_reducible refine gate_dst (N := 22) rfl ?_); refine Kd.R_lit (Kd.int .i64) _ 3 ?hg (N := 22) ?hd (xs := ([255, 128, 0, 200] : List Int)) (inner := [.int .i64 255, .int .i64 128, .int .i64 0, .int .i64 200]) (ok := fun _ => True) (okp := fun _ => True) ?hr ?hp (fun _ hk => hk) trivial (Below.refl _ _) (Nat.le_refl _) (by simp) ?_; (case hd => rfl); (case hg => rfl); (case hr => (go_simp; done)); (case hp => exact (Reps.one (show Kd.M (Kd.int .i64) _ _ _ 255 [.int .i64 255] from rfl) (Reps.one (show Kd.M (Kd.int .i64) _ _ _ 128 [.int .i64 128] from rfl) (Reps.one (show Kd.M (Kd.int .i64) _ _ _ 0 [.int .i64 0] from rfl) (Reps.one (show Kd.M (Kd.int .i64) _ _ _ 200 [.int .i64 200] from rfl) (Reps.none _ _)))))); intro v147019 w20 ho21 hb hg_ hnew_; clear hg_ hnew_; (rw [← Ny147018.out] at ho21); have n0_ := mk (Kd.R_elder' (by exact (Kd.R_mono (Kd.R_far (p := ⟨gb147017, 8, none⟩) (Kd.R_far (p := ⟨gb147017, 7, none⟩) (Kd.R_far (p := ⟨gb147017, 6, none⟩) (Kd.R_far (p := ⟨gb147017, 5, none⟩) (Kd.R_far (p := ⟨gb147017, 4, none⟩) (Kd.R_far (p := ⟨gb147017, 3, none⟩) (Kd.R_far (p := ⟨gb147017, 2, none⟩) (Kd.R_far (p := ⟨gb147017, 1, none⟩) (Kd.R_far (p := ⟨gb147017, 0, none⟩) (Kd.R_types HO147007.out BK147017.out (by decide)) (fun _ hk => hk.2) (.int .i64 t147002)) (fun _ hk => hk.2) (.int .i64 t147003)) (fun _ hk => hk.2) (.int .i64 t147004)) (fun _ hk => hk.2) (.slice Ao15 t147005.length co15)) (fun _ hk => hk.2) (.int .i64 (wrap64 (t147009 - 3)))) (fun _ hk => hk.2) (.int .i64 (wrap64 (t147011 - 2)))) (fun _ hk => hk.2) (.int .i64 t147013)) (fun _ hk => hk.2) (.int .i64 0)) (fun _ hk => hk.2) (.bool (t147015 == 0))) (fun _ h_ => h_.1))) (Kd.R_base ho21) hb); have n1_ := mk (Kd.R_lower (Kd.R_new' ho21 (Kd.R_lt (by exact (Kd.R_mono (Kd.R_far (p := ⟨gb147017, 8, none⟩) (Kd.R_far (p := ⟨gb147017, 7, none⟩) (Kd.R_far (p := ⟨gb147017, 6, none⟩) (Kd.R_far (p := ⟨gb147017, 5, none⟩) (Kd.R_far (p := ⟨gb147017, 4, none⟩) (Kd.R_far (p := ⟨gb147017, 3, none⟩) (Kd.R_far (p := ⟨gb147017, 2, none⟩) (Kd.R_far (p := ⟨gb147017, 1, none⟩) (Kd.R_far (p := ⟨gb147017, 0, none⟩) (Kd.R_types HO147007.out BK147017.out (by decide)) (fun _ hk => hk.2) (.int .i64 t147002)) (fun _ hk => hk.2) (.int .i64 t147003)) (fun _ hk => hk.2) (.int .i64 t147004)) (fun _ hk => hk.2) (.slice Ao15 t147005.length co15)) (fun _ hk => hk.2) (.int .i64 (wrap64 (t147009 - 3)))) (fun _ hk => hk.2) (.int .i64 (wrap64 (t147011 - 2)))) (fun _ hk => hk.2) (.int .i64 t147013)) (fun _ hk => hk.2) (.int .i64 0)) (fun _ hk => hk.2) (.bool (t147015 == 0))) (fun _ h_ => h_.1))))) (keep_size (w := w) (g := g) (row := none) (by repeat (with_reducible first | exact HK.out | refine keep_far ?_ GW147017.out _)))); have n2_ := mk (IsS144.below (show IsS144 w0 (((((((((w16.setCell ⟨gb147017, 0, none⟩ (.int .i64 t147002)).setCell ⟨gb147017, 1, none⟩ (.int .i64 t147003)).setCell ⟨gb147017, 2, none⟩ (.int .i64 t147004)).setCell ⟨gb147017, 3, none⟩ (.slice Ao15 t147005.length co15)).setCell ⟨gb147017, 4, none⟩ (.int .i64 (wrap64 (t147009 - 3)))).setCell ⟨gb147017, 5, none⟩ (.int .i64 (wrap64 (t147011 - 2)))).setCell ⟨gb147017, 6, none⟩ (.int .i64 t147013)).setCell ⟨gb147017, 7, none⟩ (.int .i64 0)).setCell ⟨gb147017, 8, none⟩ (.bool (t147015 == 0))) g s0_0 t147016 from by repeat (with_reducible first | exact HI0.out | refine IsS144.far ?_ NB0_147017.out _)) hb); have n3_ := mk (blk_below (g := gb147001) (o := .cells #[.int .i64 0, .int .i64 0, .int .i64 0, .slice none 0 0, .int .i64 0, .int .i64 0, .int .i64 0, .int .i64 0, .bool false] 55 (0, 0)) (by refine blk_far ?_ NB147001_147017.out _; refine blk_far ?_ NB147001_147017.out _; refine blk_far ?_ NB147001_147017.out _; refine blk_far ?_ NB147001_147017.out _; refine blk_far ?_ NB147001_147017.out _; refine blk_far ?_ NB147001_147017.out _; refine blk_far ?_ NB147001_147017.out _; refine blk_far ?_ NB147001_147017.out _; refine blk_far ?_ NB147001_147017.out _; exact BK147001.out) hb); have n4_ := mk (blk_below (g := gb147017) (o := .cells #[.int .i64 t147002, .int .i64 t147003, .int .i64 t147004, .slice Ao15 t147005.length co15, .int .i64 (wrap64 (t147009 - 3)), .int .i64 (wrap64 (t147011 - 2)), .int .i64 t147013, .int .i64 0, .bool (t147015 == 0)] 55 (0, 0)) (by refine blk_put (cs := #[.int .i64 t147002, .int .i64 t147003, .int .i64 t147004, .slice Ao15 t147005.length co15, .int .i64 (wrap64 (t147009 - 3)), .int .i64 (wrap64 (t147011 - 2)), .int .i64 t147013, .int .i64 0, .bool false]) ?_ 8 _ rfl; refine blk_put (cs := #[.int .i64 t147002, .int .i64 t147003, .int .i64 t147004, .slice Ao15 t147005.length co15, .int .i64 (wrap64 (t147009 - 3)), .int .i64 (wrap64 (t147011 - 2)), .int .i64 t147013, .int .i64 0, .bool false]) ?_ 7 _ rfl; refine blk_put (cs := #[.int .i64 t147002, .int .i64 t147003, .int .i64 t147004, .slice Ao15 t147005.length co15, .int .i64 (wrap64 (t147009 - 3)), .int .i64 (wrap64 (t147011 - 2)), .int .i64 0, .int .i64 0, .bool false]) ?_ 6 _ rfl; refine blk_put (cs := #[.int .i64 t147002, .int .i64 t147003, .int .i64 t147004, .slice Ao15 t147005.length co15, .int .i64 (wrap64 (t147009 - 3)), .int .i64 0, .int .i64 0, .int .i64 0, .bool false]) ?_ 5 _ rfl; refine blk_put (cs := #[.int .i64 t147002, .int .i64 t147003, .int .i64 t147004, .slice Ao15 t147005.length co15, .int .i64 0, .int .i64 0, .int .i64 0, .int .i64 0, .bool false]) ?_ 4 _ rfl; refine blk_put (cs := #[.int .i64 t147002, .int .i64 t147003, .int .i64 t147004, .slice none 0 0, .int .i64 0, .int .i64 0, .int .i64 0, .int .i64 0, .bool false]) ?_ 3 _ rfl; refine blk_put (cs := #[.int .i64 t147002, .int .i64 t147003, .int .i64 0, .slice none 0 0, .int .i64 0, .int .i64 0, .int .i64 0, .int .i64 0, .bool false]) ?_ 2 _ rfl; refine blk_put (cs := #[.int .i64 t147002, .int .i64 0, .int .i64 0, .slice none 0 0, .int .i64 0, .int .i64 0, .int .i64 0, .int .i64 0, .bool false]) ?_ 1 _ rfl; refine blk_put (cs := #[.int .i64 0, .int .i64 0, .int .i64 0, .slice none 0 0, .int .i64 0, .int .i64 0, .int .i64 0, .int .i64 0, .bool false]) ?_ 0 _ rfl; exact BK147017.out) hb); have n5_ := mk (KeepBut.trans (by repeat (with_reducible first | exact HK.out | refine keep_far ?_ GW147017.out _)) (KeepBut.of_below hb g none) (.inl rfl)); have n6_ := mk (below_step (by repeat (with_reducible first | exact HB.out | refine below_set ?_ GE147017.out)) hb); clear HO147007; clear HI0; clear BK147001; clear BK147017; clear HK; clear HB; have HO147007 := n0_; have HO147020 := n1_; have HI0 := n2_; have BK147001 := n3_; have BK147017 := n4_; have HK := n5_; have HB := n6_; clear n0_ n1_ n2_ n3_ n4_ n5_ n6_; clear hb ho21; obtain ⟨Ao22, co22, eo22⟩ := Kd.R_slice HO147020.out; subst eo22) | ((with_reducible refine gate_callee (f := 147) rfl ?_); refine goesL_ (some 23) rfl rfl Try.func147 (by kernel_rfl) rfl #[.pointer (some ⟨g, 0, none⟩), .slice Ao22 y147018.length co22] rfl (by (try simp only [List.map_toArray, List.map_cons, List.map_nil]); rfl) ?_; (with_reducible refine (spec_reader_one.calls k g s0_0 t147016 _ _ y147018 t147021 t147022 w0 _ ?side1 ?side2 ?side3 ?side4 ?side5 A8.out).mono ?_); (case side1 => repeat (with_reducible exact HI0.out)); (case side2 => repeat (with_reducible exact HB.out)); (case side3 => repeat (exact (Kd.R_reads' HO147020.out).2.2)); (case side4 => exact (Kd.R_reads' HO147020.out).2.1); (case side5 => exact far_slice (IsS144.own_ne HI0.out HO147020.out (by decide))); rintro e w23 ⟨rfl, hi, hb, hk⟩; refine ⟨_, rfl, ?_⟩; have n0_ := mk (KeepBut.blk hk (g' := gb147001) (o := .cells #[.int .i64 0, .int .i64 0, .int .i64 0, .slice none 0 0, .int .i64 0, .int .i64 0, .int .i64 0, .int .i64 0, .bool false] 55 (0, 0)) BK147001.out NB147001_0.out (by simp)); have n1_ := mk (Kd.R_mono (Kd.R_keep (IsS144.apart (show IsS144 w0 _ g s0_0 t147016 from by exact HI0.out) HO147007.out (by decide)) hk (fun _ h => h.2)) (fun _ h => h.1)); have n2_ := mk (KeepBut.blk hk (g' := gb147017) (o := .cells #[.int .i64 t147002, .int .i64 t147003, .int .i64 t147004, .slice Ao15 t147005.length co15, .int .i64 (wrap64 (t147009 - 3)), .int .i64 (wrap64 (t147011 - 2)), .int .i64 t147013, .int .i64 0, .bool (t147015 == 0)] 55 (0, 0)) BK147017.out NB147017_0.out (by simp)); have n3_ := mk (Kd.R_mono (Kd.R_keep (IsS144.apart (show IsS144 w0 _ g s0_0 t147016 from by exact HI0.out) HO147020.out (by decide)) hk (fun _ h => h.2)) (fun _ h => h.1)); have n4_ := mk (KeepBut.trans HK.out hk (.inl rfl)); have n5_ := mk (hb); have n6_ := mk (hi); clear BK147001; clear HO147007; clear BK147017; clear HO147020; clear HK; clear HB; clear HI0; have BK147001 := n0_; have HO147007 := n1_; have BK147017 := n2_; have HO147020 := n3_; have HK := n4_; have HB := n5_; have HI0 := n6_; clear n0_ n1_ n2_ n3_ n4_ n5_ n6_; (try clear hb); (try clear hk); (try clear hi); obtain ⟨hcz24_0, hcz24_1, hcz24_2, hcz24_3, hcz24_4, hcz24_5, hcz24_6, hcz24_7, hcz24_8, hfz24_0, hfz24_1, hfz24_2, hfz24_3, hfz24_4, hfz24_5, hfz24_6, hfz24_7, hfz24_8⟩ := c9 BK147017.out; have hnb25 := NB147001_0.out; have hnc25 := NB0_147001.out; obtain ⟨hcz26_0, hcz26_1, hcz26_2, hcz26_3, hcz26_4, hcz26_5, hcz26_6, hcz26_7, hcz26_8, hfz26_0, hfz26_1, hfz26_2, hfz26_3, hfz26_4, hfz26_5, hfz26_6, hfz26_7, hfz26_8⟩ := c9 BK147001.out))
 refine bodyPost_ret (results_cell_row rfl _ _ gb147001 55 #[.int .i64 t147002, .int .i64 t147003, .int .i64 t147004, .slice Ao15 t147005.length co15, .int .i64 (wrap64 (t147009 - 3)), .int .i64 (wrap64 (t147011 - 2)), .int .i64 t147013, .int .i64 t147021, .bool (t147015 == 0)] (0, 0) _ rfl (by refine blk_put (cs := #[.int .i64 t147002, .int .i64 t147003, .int .i64 t147004, .slice Ao15 t147005.length co15, .int .i64 (wrap64 (t147009 - 3)), .int .i64 (wrap64 (t147011 - 2)), .int .i64 t147013, .int .i64 t147021, .bool false]) ?_ 8 _ rfl; refine blk_put (cs := #[.int .i64 t147002, .int .i64 t147003, .int .i64 t147004, .slice Ao15 t147005.length co15, .int .i64 (wrap64 (t147009 - 3)), .int .i64 (wrap64 (t147011 - 2)), .int .i64 t147013, .int .i64 0, .bool false]) ?_ 7 _ rfl; refine blk_put (cs := #[.int .i64 t147002, .int .i64 t147003, .int .i64 t147004, .slice Ao15 t147005.length co15, .int .i64 (wrap64 (t147009 - 3)), .int .i64 (wrap64 (t147011 - 2)), .int .i64 0, .int .i64 0, .bool false]) ?_ 6 _ rfl; refine blk_put (cs := #[.int .i64 t147002, .int .i64 t147003, .int .i64 t147004, .slice Ao15 t147005.length co15, .int .i64 (wrap64 (t147009 - 3)), .int .i64 0, .int .i64 0, .int .i64 0, .bool false]) ?_ 5 _ rfl; refine blk_put (cs := #[.int .i64 t147002, .int .i64 t147003, .int .i64 t147004, .slice Ao15 t147005.length co15, .int .i64 0, .int .i64 0, .int .i64 0, .int .i64 0, .bool false]) ?_ 4 _ rfl; refine blk_put (cs := #[.int .i64 t147002, .int .i64 t147003, .int .i64 t147004, .slice none 0 0, .int .i64 0, .int .i64 0, .int .i64 0, .int .i64 0, .bool false]) ?_ 3 _ rfl; refine blk_put (cs := #[.int .i64 t147002, .int .i64 t147003, .int .i64 0, .slice none 0 0, .int .i64 0, .int .i64 0, .int .i64 0, .int .i64 0, .bool false]) ?_ 2 _ rfl; refine blk_put (cs := #[.int .i64 t147002, .int .i64 0, .int .i64 0, .slice none 0 0, .int .i64 0, .int .i64 0, .int .i64 0, .int .i64 0, .bool false]) ?_ 1 _ rfl; refine blk_put (cs := #[.int .i64 0, .int .i64 0, .int .i64 0, .slice none 0 0, .int .i64 0, .int .i64 0, .int .i64 0, .int .i64 0, .bool false]) ?_ 0 _ rfl; refine blk_far ?_ NB147001_147017.out _; exact BK147001.out) Try.underlying55 rfl (by kernel_rfl)) rfl ?_
 exact ⟨_, by rfl, by exact Kd.R_mono (Kd.R_far (p := ⟨gb147001, 8, none⟩) (Kd.R_far (p := ⟨gb147001, 7, none⟩) (Kd.R_far (p := ⟨gb147001, 6, none⟩) (Kd.R_far (p := ⟨gb147001, 5, none⟩) (Kd.R_far (p := ⟨gb147001, 4, none⟩) (Kd.R_far (p := ⟨gb147001, 3, none⟩) (Kd.R_far (p := ⟨gb147001, 2, none⟩) (Kd.R_far (p := ⟨gb147001, 1, none⟩) (Kd.R_far (p := ⟨gb147001, 0, none⟩) (Kd.R_far (p := ⟨gb147017, 7, none⟩) (Kd.R_types (Kd.R_types HO147007.out BK147017.out (by decide)) BK147001.out (by decide)) (fun _ hk => hk.1.2) (.int .i64 t147021)) (fun _ hk => hk.2) (.int .i64 t147002)) (fun _ hk => hk.2) (.int .i64 t147003)) (fun _ hk => hk.2) (.int .i64 t147004)) (fun _ hk => hk.2) (.slice Ao15 t147005.length co15)) (fun _ hk => hk.2) (.int .i64 (wrap64 (t147009 - 3)))) (fun _ hk => hk.2) (.int .i64 (wrap64 (t147011 - 2)))) (fun _ hk => hk.2) (.int .i64 t147013)) (fun _ hk => hk.2) (.int .i64 t147021)) (fun _ hk => hk.2) (.bool (t147015 == 0))) (fun _ hk => trivial), by repeat (with_reducible first | exact HI0.out | refine IsS144.far ?_ NB0_147001.out _ | refine IsS144.far ?_ NB0_147017.out _), by repeat (with_reducible first | exact HB.out | refine below_set ?_ GE147001.out | refine below_set ?_ GE147017.out), by repeat (with_reducible first | exact HK.out | refine keep_far ?_ GW147001.out _ | refine keep_far ?_ GW147017.out _)⟩


def spec_anyLayer.f (k : Nat) (s0_0 : List Int) (s0_1 : Int) (a1 : Int) : Option (Int × Int × Int × List Int × Int × Int × Int × Int × Bool × Int) := (spec_randomLayer.f k s0_0 s0_1 (mx 1 (mn a1 4))).bind fun bt116002 => ((spec_reader_pick.f k s0_0 bt116002.2.2.2.2.2.2.2.2.2 24).bind fun bt116015 => (if bt116015.1 = 0 then ((spec_reader_one.f k s0_0 bt116015.2 (([(-1), 5] : List Int))).bind fun bt116020 => (some (bt116002.1, bt116002.2.1, bt116002.2.2.1, bt116002.2.2.2.1, bt116002.2.2.2.2.1, bt116002.2.2.2.2.2.1, bt116020.1, bt116002.2.2.2.2.2.2.2.1, bt116002.2.2.2.2.2.2.2.2.1, bt116020.2))) else (if bt116015.1 = 1 then ((spec_reader_one.f k s0_0 bt116015.2 (([(-1), 256] : List Int))).bind fun bt116025 => (some (bt116002.1, bt116002.2.1, bt116002.2.2.1, bt116002.2.2.2.1, bt116002.2.2.2.2.1, bt116002.2.2.2.2.2.1, bt116002.2.2.2.2.2.2.1, bt116025.1, bt116002.2.2.2.2.2.2.2.2.1, bt116025.2))) else (if bt116015.1 = 2 then ((spec_reader_one.f k s0_0 bt116015.2 (([(-16), (-17), 16, 17] : List Int))).bind fun bt116030 => (some (bt116002.1, bt116002.2.1, bt116002.2.2.1, bt116002.2.2.2.1, bt116030.1, bt116002.2.2.2.2.2.1, bt116002.2.2.2.2.2.2.1, bt116002.2.2.2.2.2.2.2.1, bt116002.2.2.2.2.2.2.2.2.1, bt116030.2))) else (if bt116015.1 = 3 then ((spec_anyImage.f k s0_0 bt116015.2).bind fun bt116032 => (some (bt116032.1, bt116032.2.1, bt116032.2.2.1, bt116032.2.2.2.1, bt116002.2.2.2.2.1, bt116002.2.2.2.2.2.1, bt116002.2.2.2.2.2.2.1, bt116002.2.2.2.2.2.2.2.1, bt116002.2.2.2.2.2.2.2.2.1, bt116032.2.2.2.2))) else (some (bt116002.1, bt116002.2.1, bt116002.2.2.1, bt116002.2.2.2.1, bt116002.2.2.2.2.1, bt116002.2.2.2.2.2.1, bt116002.2.2.2.2.2.2.1, bt116002.2.2.2.2.2.2.2.1, bt116002.2.2.2.2.2.2.2.2.1, bt116015.2)))))))
theorem spec_anyLayer.mono : ∀ a0 a1 a2 k, LeO (spec_anyLayer.f k a0 a1 a2) (spec_anyLayer.f (k + 1) a0 a1 a2) := by
 intro a0 a1 a2 k
 unfold spec_anyLayer.f
 repeat' first | (with_reducible exact spec_anyImage.mono _ _ _) | (with_reducible exact spec_randomLayer.mono _ _ _ _) | (with_reducible exact spec_reader_one.mono _ _ _ _) | (with_reducible exact spec_reader_pick.mono _ _ _ _) | (with_reducible exact LeO.refl _) | (with_reducible refine LeO.ite ?_ ?_) | (with_reducible refine LeO.bind ?_ (fun _ => ?_))
set_option maxHeartbeats 8000000 in
set_option maxRecDepth 100000 in
theorem spec_anyLayer.calls (k : Nat) (g : Nat) (s0_0 : List Int) (s0_1 : Int) (a1 : Int) (r1 : Int) (r2 : Int) (r3 : Int) (r4 : List Int) (r5 : Int) (r6 : Int) (r7 : Int) (r8 : Int) (r9 : Bool) (r10 : Int) (w0 w : World) (hI : IsS144 w0 w g s0_0 s0_1) (hB : Below w0.heap.size w0 w) (h : spec_anyLayer.f k s0_0 s0_1 a1 = some (r1, r2, r3, r4, r5, r6, r7, r8, r9, r10)) :
  Calls Try.prog 115 #[.pointer (some ⟨g, 0, none⟩), .int .i64 a1] w fun e w' => ∃ v3_ : Value, e = .returned (.agg #[.int .i64 r1, .int .i64 r2, .int .i64 r3, v3_, .int .i64 r5, .int .i64 r6, .int .i64 r7, .int .i64 r8, .bool r9]) ∧ Kd.Q (Kd.int .i64) 3 w' w.heap.size (fun _ => True) v3_ r4 ∧ IsS144 w0 w' g s0_0 r10 ∧ Below w0.heap.size w0 w' ∧ KeepBut w w' g none := by
 have hu55 := Try.underlying55
 have hu27 := Try.underlying27
 have HI0 := mk hI
 have HK := mk (KeepBut.refl w g none)
 have HL := mk hB.size
 clear hI
 have HW0 := mk hB.size
 have HB := mk hB
 clear hB
 have H : ((spec_randomLayer.f k s0_0 s0_1 (mx 1 (mn a1 4))).bind fun bt116002 => ((spec_reader_pick.f k s0_0 bt116002.2.2.2.2.2.2.2.2.2 24).bind fun bt116015 => (if bt116015.1 = 0 then ((spec_reader_one.f k s0_0 bt116015.2 (([(-1), 5] : List Int))).bind fun bt116020 => (some (bt116002.1, bt116002.2.1, bt116002.2.2.1, bt116002.2.2.2.1, bt116002.2.2.2.2.1, bt116002.2.2.2.2.2.1, bt116020.1, bt116002.2.2.2.2.2.2.2.1, bt116002.2.2.2.2.2.2.2.2.1, bt116020.2))) else (if bt116015.1 = 1 then ((spec_reader_one.f k s0_0 bt116015.2 (([(-1), 256] : List Int))).bind fun bt116025 => (some (bt116002.1, bt116002.2.1, bt116002.2.2.1, bt116002.2.2.2.1, bt116002.2.2.2.2.1, bt116002.2.2.2.2.2.1, bt116002.2.2.2.2.2.2.1, bt116025.1, bt116002.2.2.2.2.2.2.2.2.1, bt116025.2))) else (if bt116015.1 = 2 then ((spec_reader_one.f k s0_0 bt116015.2 (([(-16), (-17), 16, 17] : List Int))).bind fun bt116030 => (some (bt116002.1, bt116002.2.1, bt116002.2.2.1, bt116002.2.2.2.1, bt116030.1, bt116002.2.2.2.2.2.1, bt116002.2.2.2.2.2.2.1, bt116002.2.2.2.2.2.2.2.1, bt116002.2.2.2.2.2.2.2.2.1, bt116030.2))) else (if bt116015.1 = 3 then ((spec_anyImage.f k s0_0 bt116015.2).bind fun bt116032 => (some (bt116032.1, bt116032.2.1, bt116032.2.2.1, bt116032.2.2.2.1, bt116002.2.2.2.2.1, bt116002.2.2.2.2.2.1, bt116002.2.2.2.2.2.2.1, bt116002.2.2.2.2.2.2.2.1, bt116002.2.2.2.2.2.2.2.2.1, bt116032.2.2.2.2))) else (some (bt116002.1, bt116002.2.1, bt116002.2.2.1, bt116002.2.2.2.1, bt116002.2.2.2.2.1, bt116002.2.2.2.2.2.1, bt116002.2.2.2.2.2.2.1, bt116002.2.2.2.2.2.2.2.1, bt116002.2.2.2.2.2.2.2.2.1, bt116015.2)))))))) = some (r1, r2, r3, r4, r5, r6, r7, r8, r9, r10) := h
 clear h
 obtain ⟨ji3, hji3⟩ : ∃ j_ : Int, (mn a1 4) = j_ := ⟨_, rfl⟩
 replace H : ((spec_randomLayer.f k s0_0 s0_1 (mx 1 ji3)).bind fun bt116002 => ((spec_reader_pick.f k s0_0 bt116002.2.2.2.2.2.2.2.2.2 24).bind fun bt116015 => (if bt116015.1 = 0 then ((spec_reader_one.f k s0_0 bt116015.2 (([(-1), 5] : List Int))).bind fun bt116020 => (some (bt116002.1, bt116002.2.1, bt116002.2.2.1, bt116002.2.2.2.1, bt116002.2.2.2.2.1, bt116002.2.2.2.2.2.1, bt116020.1, bt116002.2.2.2.2.2.2.2.1, bt116002.2.2.2.2.2.2.2.2.1, bt116020.2))) else (if bt116015.1 = 1 then ((spec_reader_one.f k s0_0 bt116015.2 (([(-1), 256] : List Int))).bind fun bt116025 => (some (bt116002.1, bt116002.2.1, bt116002.2.2.1, bt116002.2.2.2.1, bt116002.2.2.2.2.1, bt116002.2.2.2.2.2.1, bt116002.2.2.2.2.2.2.1, bt116025.1, bt116002.2.2.2.2.2.2.2.2.1, bt116025.2))) else (if bt116015.1 = 2 then ((spec_reader_one.f k s0_0 bt116015.2 (([(-16), (-17), 16, 17] : List Int))).bind fun bt116030 => (some (bt116002.1, bt116002.2.1, bt116002.2.2.1, bt116002.2.2.2.1, bt116030.1, bt116002.2.2.2.2.2.1, bt116002.2.2.2.2.2.2.1, bt116002.2.2.2.2.2.2.2.1, bt116002.2.2.2.2.2.2.2.2.1, bt116030.2))) else (if bt116015.1 = 3 then ((spec_anyImage.f k s0_0 bt116015.2).bind fun bt116032 => (some (bt116032.1, bt116032.2.1, bt116032.2.2.1, bt116032.2.2.2.1, bt116002.2.2.2.2.1, bt116002.2.2.2.2.2.1, bt116002.2.2.2.2.2.2.1, bt116002.2.2.2.2.2.2.2.1, bt116002.2.2.2.2.2.2.2.2.1, bt116032.2.2.2.2))) else (some (bt116002.1, bt116002.2.1, bt116002.2.2.1, bt116002.2.2.2.1, bt116002.2.2.2.2.1, bt116002.2.2.2.2.2.1, bt116002.2.2.2.2.2.2.1, bt116002.2.2.2.2.2.2.2.1, bt116002.2.2.2.2.2.2.2.2.1, bt116015.2)))))))) = some (r1, r2, r3, r4, r5, r6, r7, r8, r9, r10) := by (rw [hji3] at H; exact H)
 (try (have hji3h : ji3 ≤ 4 := by (rw [← hji3]; unfold mn; (repeat' split) <;> omega)))
 (try (have hji3g : ji3 ≤ 64 := by omega))
 have hji3_ : (if 4 < a1 then 4 else a1) = ji3 := hji3
 obtain ⟨ji4, hji4⟩ : ∃ j_ : Int, (mx 1 ji3) = j_ := ⟨_, rfl⟩
 replace H : ((spec_randomLayer.f k s0_0 s0_1 ji4).bind fun bt116002 => ((spec_reader_pick.f k s0_0 bt116002.2.2.2.2.2.2.2.2.2 24).bind fun bt116015 => (if bt116015.1 = 0 then ((spec_reader_one.f k s0_0 bt116015.2 (([(-1), 5] : List Int))).bind fun bt116020 => (some (bt116002.1, bt116002.2.1, bt116002.2.2.1, bt116002.2.2.2.1, bt116002.2.2.2.2.1, bt116002.2.2.2.2.2.1, bt116020.1, bt116002.2.2.2.2.2.2.2.1, bt116002.2.2.2.2.2.2.2.2.1, bt116020.2))) else (if bt116015.1 = 1 then ((spec_reader_one.f k s0_0 bt116015.2 (([(-1), 256] : List Int))).bind fun bt116025 => (some (bt116002.1, bt116002.2.1, bt116002.2.2.1, bt116002.2.2.2.1, bt116002.2.2.2.2.1, bt116002.2.2.2.2.2.1, bt116002.2.2.2.2.2.2.1, bt116025.1, bt116002.2.2.2.2.2.2.2.2.1, bt116025.2))) else (if bt116015.1 = 2 then ((spec_reader_one.f k s0_0 bt116015.2 (([(-16), (-17), 16, 17] : List Int))).bind fun bt116030 => (some (bt116002.1, bt116002.2.1, bt116002.2.2.1, bt116002.2.2.2.1, bt116030.1, bt116002.2.2.2.2.2.1, bt116002.2.2.2.2.2.2.1, bt116002.2.2.2.2.2.2.2.1, bt116002.2.2.2.2.2.2.2.2.1, bt116030.2))) else (if bt116015.1 = 3 then ((spec_anyImage.f k s0_0 bt116015.2).bind fun bt116032 => (some (bt116032.1, bt116032.2.1, bt116032.2.2.1, bt116032.2.2.2.1, bt116002.2.2.2.2.1, bt116002.2.2.2.2.2.1, bt116002.2.2.2.2.2.2.1, bt116002.2.2.2.2.2.2.2.1, bt116002.2.2.2.2.2.2.2.2.1, bt116032.2.2.2.2))) else (some (bt116002.1, bt116002.2.1, bt116002.2.2.1, bt116002.2.2.2.1, bt116002.2.2.2.2.1, bt116002.2.2.2.2.2.1, bt116002.2.2.2.2.2.2.1, bt116002.2.2.2.2.2.2.2.1, bt116002.2.2.2.2.2.2.2.2.1, bt116015.2)))))))) = some (r1, r2, r3, r4, r5, r6, r7, r8, r9, r10) := by (rw [hji4] at H; exact H)
 have hji4_ : (if 1 < ji3 then ji3 else 1) = ji4 := hji4
 replace H := Option.bind_eq_some_iff.mp H
 obtain ⟨⟨t116002, t116003, t116004, t116005, t116008, t116009, t116010, t116011, t116012, t116013⟩, A50, H⟩ := H
 replace H : ((spec_reader_pick.f k s0_0 t116013 24).bind fun bt116015 => (if bt116015.1 = 0 then ((spec_reader_one.f k s0_0 bt116015.2 (([(-1), 5] : List Int))).bind fun bt116020 => (some (t116002, t116003, t116004, t116005, t116008, t116009, bt116020.1, t116011, t116012, bt116020.2))) else (if bt116015.1 = 1 then ((spec_reader_one.f k s0_0 bt116015.2 (([(-1), 256] : List Int))).bind fun bt116025 => (some (t116002, t116003, t116004, t116005, t116008, t116009, t116010, bt116025.1, t116012, bt116025.2))) else (if bt116015.1 = 2 then ((spec_reader_one.f k s0_0 bt116015.2 (([(-16), (-17), 16, 17] : List Int))).bind fun bt116030 => (some (t116002, t116003, t116004, t116005, bt116030.1, t116009, t116010, t116011, t116012, bt116030.2))) else (if bt116015.1 = 3 then ((spec_anyImage.f k s0_0 bt116015.2).bind fun bt116032 => (some (bt116032.1, bt116032.2.1, bt116032.2.2.1, bt116032.2.2.2.1, t116008, t116009, t116010, t116011, t116012, bt116032.2.2.2.2))) else (some (t116002, t116003, t116004, t116005, t116008, t116009, t116010, t116011, t116012, bt116015.2))))))) = some (r1, r2, r3, r4, r5, r6, r7, r8, r9, r10) := H
 have A5 := mk A50
 clear A50
 replace H := Option.bind_eq_some_iff.mp H
 obtain ⟨⟨t116015, t116016⟩, A60, H⟩ := H
 replace H : (if t116015 = 0 then ((spec_reader_one.f k s0_0 t116016 (([(-1), 5] : List Int))).bind fun bt116020 => (some (t116002, t116003, t116004, t116005, t116008, t116009, bt116020.1, t116011, t116012, bt116020.2))) else (if t116015 = 1 then ((spec_reader_one.f k s0_0 t116016 (([(-1), 256] : List Int))).bind fun bt116025 => (some (t116002, t116003, t116004, t116005, t116008, t116009, t116010, bt116025.1, t116012, bt116025.2))) else (if t116015 = 2 then ((spec_reader_one.f k s0_0 t116016 (([(-16), (-17), 16, 17] : List Int))).bind fun bt116030 => (some (t116002, t116003, t116004, t116005, bt116030.1, t116009, t116010, t116011, t116012, bt116030.2))) else (if t116015 = 3 then ((spec_anyImage.f k s0_0 t116016).bind fun bt116032 => (some (bt116032.1, bt116032.2.1, bt116032.2.2.1, bt116032.2.2.2.1, t116008, t116009, t116010, t116011, t116012, bt116032.2.2.2.2))) else (some (t116002, t116003, t116004, t116005, t116008, t116009, t116010, t116011, t116012, t116016)))))) = some (r1, r2, r3, r4, r5, r6, r7, r8, r9, r10) := H
 have A6 := mk A60
 clear A60
 by_cases c7 : t116015 = 0
 ·rw [if_pos c7] at H
  have c7b0 : (t116015 == 0) = true := beq_iff_eq.mpr c7
  have c7b1 : (t116015 != 0) = false := bne_eq_false_iff_eq.mpr c7
  clear c7
  obtain ⟨y116017, hy116017⟩ : ∃ y_ : List Int, y_ = (([(-1), 5] : List Int)) := ⟨_, rfl⟩
  replace H : ((spec_reader_one.f k s0_0 t116016 y116017).bind fun bt116020 => (some (t116002, t116003, t116004, t116005, t116008, t116009, bt116020.1, t116011, t116012, bt116020.2))) = some (r1, r2, r3, r4, r5, r6, r7, r8, r9, r10) := by (rw [hy116017]; with_reducible exact H)
  have Ny116017 := mk hy116017
  clear hy116017
  replace H := Option.bind_eq_some_iff.mp H
  obtain ⟨⟨t116020, t116021⟩, A80, H⟩ := H
  replace H : (some (t116002, t116003, t116004, t116005, t116008, t116009, t116020, t116011, t116012, t116021)) = some (r1, r2, r3, r4, r5, r6, r7, r8, r9, r10) := H
  have A8 := mk A80
  clear A80
  simp only [Option.some.injEq, Prod.mk.injEq] at H
  obtain ⟨rfl, rfl, rfl, rfl, rfl, rfl, rfl, rfl, rfl, rfl⟩ := H
  go_enter Try.func115, Try.ntmps115
  go_wp2_with (first | ((with_reducible refine gate_dst (N := 4) rfl ?_); refine box_event ?hg (N := 4) ?hd (cs := #[.int .i64 0, .int .i64 0, .int .i64 0, .slice none 0 0, .int .i64 0, .int .i64 0, .int .i64 0, .int .i64 0, .bool false]) (t := 55) ?hr ?_; (case hd => rfl); (case hg => rfl); (case hr => (go_simp; done)); intro gb116001 hg w9 hbox hb; have n0_ := mk (IsS144.below HI0.out hb); have n1_ := mk (KeepBut.trans HK.out (KeepBut.of_below hb g none) (.inl rfl)); have n2_ := mk (below_step HB.out hb); have n3_ := mk (hbox); have n4_ := mk ((by rw [hg]; exact (keep_size (w := w) (g := g) (row := none) HK.out) : w.heap.size ≤ gb116001)); have n5_ := mk ((Nat.le_trans HW0.out (by rw [hg]; exact (keep_size (w := w) (g := g) (row := none) HK.out) : w.heap.size ≤ gb116001) : w0.heap.size ≤ gb116001)); have n6_ := mk ((by rw [hg]; exact Nat.ne_of_lt (IsS144.lt (show IsS144 w0 _ g s0_0 s0_1 from by exact HI0.out)) : g ≠ gb116001)); have n7_ := mk ((by rw [hg]; exact Nat.ne_of_gt (IsS144.lt (show IsS144 w0 _ g s0_0 s0_1 from by exact HI0.out)) : gb116001 ≠ g)); clear HI0; clear HK; clear HB; have HI0 := n0_; have HK := n1_; have HB := n2_; have BK116001 := n3_; have GW116001 := n4_; have GE116001 := n5_; have NB0_116001 := n6_; have NB116001_0 := n7_; clear n0_ n1_ n2_ n3_ n4_ n5_ n6_ n7_; clear hb hbox hg) | ((with_reducible refine gate_callee (f := 146) rfl ?_); refine goesL_ (some 10) rfl rfl Try.func146 (by kernel_rfl) rfl #[.pointer (some ⟨g, 0, none⟩), .int .i64 ji4] rfl (by (try simp only [List.map_toArray, List.map_cons, List.map_nil]); rfl) ?_; (with_reducible refine (spec_randomLayer.calls k g s0_0 s0_1 ji4 t116002 t116003 t116004 t116005 t116008 t116009 t116010 t116011 t116012 t116013 w0 _ ?side1 ?side2 A5.out).mono ?_); (case side1 => repeat (with_reducible exact HI0.out)); (case side2 => repeat (with_reducible exact HB.out)); rintro e w10 ⟨v116006, rfl, ho0, hi, hb, hk⟩; refine ⟨_, rfl, ?_⟩; have n0_ := mk (KeepBut.blk hk (g' := gb116001) (o := .cells #[.int .i64 0, .int .i64 0, .int .i64 0, .slice none 0 0, .int .i64 0, .int .i64 0, .int .i64 0, .int .i64 0, .bool false] 55 (0, 0)) BK116001.out NB116001_0.out (by simp)); have n1_ := mk (Kd.R_lower ho0 (keep_size (w := w) (g := g) (row := none) HK.out)); have n2_ := mk (KeepBut.trans HK.out hk (.inl rfl)); have n3_ := mk (hb); have n4_ := mk (hi); clear BK116001; clear HK; clear HB; clear HI0; have BK116001 := n0_; have HO116007 := n1_; have HK := n2_; have HB := n3_; have HI0 := n4_; clear n0_ n1_ n2_ n3_ n4_; (try clear hb); (try clear hk); (try clear hi); (try clear ho0)) | ((with_reducible refine gate_dst (N := 5) rfl ?_); refine box_event ?hg (N := 5) ?hd (cs := #[.int .i64 0, .int .i64 0, .int .i64 0, .slice none 0 0, .int .i64 0, .int .i64 0, .int .i64 0, .int .i64 0, .bool false]) (t := 55) ?hr ?_; (case hd => rfl); (case hg => rfl); (case hr => (go_simp; done)); intro gb116014 hg w11 hbox hb; have n0_ := mk (Kd.R_below HO116007.out hb); have n1_ := mk (IsS144.below HI0.out hb); have n2_ := mk (blk_below BK116001.out hb); have n3_ := mk (KeepBut.trans HK.out (KeepBut.of_below hb g none) (.inl rfl)); have n4_ := mk (below_step HB.out hb); have n5_ := mk (hbox); have n6_ := mk ((by rw [hg]; exact (keep_size (w := w) (g := g) (row := none) HK.out) : w.heap.size ≤ gb116014)); have n7_ := mk ((Nat.le_trans HW0.out (by rw [hg]; exact (keep_size (w := w) (g := g) (row := none) HK.out) : w.heap.size ≤ gb116014) : w0.heap.size ≤ gb116014)); have n8_ := mk ((by rw [hg]; exact Nat.ne_of_lt (blk_lt BK116001.out) : gb116001 ≠ gb116014)); have n9_ := mk ((by rw [hg]; exact Nat.ne_of_gt (blk_lt BK116001.out) : gb116014 ≠ gb116001)); have n10_ := mk ((by rw [hg]; exact Nat.ne_of_lt (IsS144.lt (show IsS144 w0 _ g s0_0 t116013 from by exact HI0.out)) : g ≠ gb116014)); have n11_ := mk ((by rw [hg]; exact Nat.ne_of_gt (IsS144.lt (show IsS144 w0 _ g s0_0 t116013 from by exact HI0.out)) : gb116014 ≠ g)); clear HO116007; clear HI0; clear BK116001; clear HK; clear HB; have HO116007 := n0_; have HI0 := n1_; have BK116001 := n2_; have HK := n3_; have HB := n4_; have BK116014 := n5_; have GW116014 := n6_; have GE116014 := n7_; have NB116001_116014 := n8_; have NB116014_116001 := n9_; have NB0_116014 := n10_; have NB116014_0 := n11_; clear n0_ n1_ n2_ n3_ n4_ n5_ n6_ n7_ n8_ n9_ n10_ n11_; clear hb hbox hg; have hnb12 := NB116014_116001.out; have hnc12 := NB116001_116014.out; have hnb13 := NB116014_0.out; have hnc13 := NB0_116014.out; obtain ⟨hcz14_0, hcz14_1, hcz14_2, hcz14_3, hcz14_4, hcz14_5, hcz14_6, hcz14_7, hcz14_8, hfz14_0, hfz14_1, hfz14_2, hfz14_3, hfz14_4, hfz14_5, hfz14_6, hfz14_7, hfz14_8⟩ := c9 BK116014.out; obtain ⟨Ao15, co15, eo15⟩ := Kd.R_slice HO116007.out; subst eo15) | ((with_reducible refine gate_callee (f := 127) rfl ?_); refine goesL_ (some 12) rfl rfl Try.func127 (by kernel_rfl) rfl #[.pointer (some ⟨g, 0, none⟩), .int .i64 24] rfl (by (try simp only [List.map_toArray, List.map_cons, List.map_nil]); rfl) ?_; (with_reducible refine (spec_reader_pick.calls k g s0_0 t116013 24 t116015 t116016 w0 _ ?side1 ?side2 A6.out).mono ?_); (case side1 => repeat (with_reducible first | exact HI0.out | refine IsS144.far ?_ NB0_116014.out _)); (case side2 => repeat (with_reducible first | exact HB.out | refine below_set ?_ GE116014.out)); rintro e w16 ⟨rfl, hi, hb, hk⟩; refine ⟨_, rfl, ?_⟩; have n0_ := mk (KeepBut.blk hk (g' := gb116001) (o := .cells #[.int .i64 0, .int .i64 0, .int .i64 0, .slice none 0 0, .int .i64 0, .int .i64 0, .int .i64 0, .int .i64 0, .bool false] 55 (0, 0)) (by refine blk_far ?_ NB116001_116014.out _; refine blk_far ?_ NB116001_116014.out _; refine blk_far ?_ NB116001_116014.out _; refine blk_far ?_ NB116001_116014.out _; refine blk_far ?_ NB116001_116014.out _; refine blk_far ?_ NB116001_116014.out _; refine blk_far ?_ NB116001_116014.out _; refine blk_far ?_ NB116001_116014.out _; refine blk_far ?_ NB116001_116014.out _; exact BK116001.out) NB116001_0.out (by simp)); have n1_ := mk (Kd.R_mono (Kd.R_keep (IsS144.apart (show IsS144 w0 _ g s0_0 t116013 from by repeat (with_reducible first | exact HI0.out | refine IsS144.far ?_ NB0_116014.out _)) (by exact (Kd.R_mono (Kd.R_far (p := ⟨gb116014, 8, none⟩) (Kd.R_far (p := ⟨gb116014, 7, none⟩) (Kd.R_far (p := ⟨gb116014, 6, none⟩) (Kd.R_far (p := ⟨gb116014, 5, none⟩) (Kd.R_far (p := ⟨gb116014, 4, none⟩) (Kd.R_far (p := ⟨gb116014, 3, none⟩) (Kd.R_far (p := ⟨gb116014, 2, none⟩) (Kd.R_far (p := ⟨gb116014, 1, none⟩) (Kd.R_far (p := ⟨gb116014, 0, none⟩) (Kd.R_types HO116007.out BK116014.out (by decide)) (fun _ hk => hk.2) (.int .i64 t116002)) (fun _ hk => hk.2) (.int .i64 t116003)) (fun _ hk => hk.2) (.int .i64 t116004)) (fun _ hk => hk.2) (.slice Ao15 t116005.length co15)) (fun _ hk => hk.2) (.int .i64 t116008)) (fun _ hk => hk.2) (.int .i64 t116009)) (fun _ hk => hk.2) (.int .i64 t116010)) (fun _ hk => hk.2) (.int .i64 t116011)) (fun _ hk => hk.2) (.bool t116012)) (fun _ h_ => h_.1))) (by decide)) hk (fun _ h => h.2)) (fun _ h => h.1)); have n2_ := mk (KeepBut.blk hk (g' := gb116014) (o := .cells #[.int .i64 t116002, .int .i64 t116003, .int .i64 t116004, .slice Ao15 t116005.length co15, .int .i64 t116008, .int .i64 t116009, .int .i64 t116010, .int .i64 t116011, .bool t116012] 55 (0, 0)) (by refine blk_put (cs := #[.int .i64 t116002, .int .i64 t116003, .int .i64 t116004, .slice Ao15 t116005.length co15, .int .i64 t116008, .int .i64 t116009, .int .i64 t116010, .int .i64 t116011, .bool false]) ?_ 8 _ rfl; refine blk_put (cs := #[.int .i64 t116002, .int .i64 t116003, .int .i64 t116004, .slice Ao15 t116005.length co15, .int .i64 t116008, .int .i64 t116009, .int .i64 t116010, .int .i64 0, .bool false]) ?_ 7 _ rfl; refine blk_put (cs := #[.int .i64 t116002, .int .i64 t116003, .int .i64 t116004, .slice Ao15 t116005.length co15, .int .i64 t116008, .int .i64 t116009, .int .i64 0, .int .i64 0, .bool false]) ?_ 6 _ rfl; refine blk_put (cs := #[.int .i64 t116002, .int .i64 t116003, .int .i64 t116004, .slice Ao15 t116005.length co15, .int .i64 t116008, .int .i64 0, .int .i64 0, .int .i64 0, .bool false]) ?_ 5 _ rfl; refine blk_put (cs := #[.int .i64 t116002, .int .i64 t116003, .int .i64 t116004, .slice Ao15 t116005.length co15, .int .i64 0, .int .i64 0, .int .i64 0, .int .i64 0, .bool false]) ?_ 4 _ rfl; refine blk_put (cs := #[.int .i64 t116002, .int .i64 t116003, .int .i64 t116004, .slice none 0 0, .int .i64 0, .int .i64 0, .int .i64 0, .int .i64 0, .bool false]) ?_ 3 _ rfl; refine blk_put (cs := #[.int .i64 t116002, .int .i64 t116003, .int .i64 0, .slice none 0 0, .int .i64 0, .int .i64 0, .int .i64 0, .int .i64 0, .bool false]) ?_ 2 _ rfl; refine blk_put (cs := #[.int .i64 t116002, .int .i64 0, .int .i64 0, .slice none 0 0, .int .i64 0, .int .i64 0, .int .i64 0, .int .i64 0, .bool false]) ?_ 1 _ rfl; refine blk_put (cs := #[.int .i64 0, .int .i64 0, .int .i64 0, .slice none 0 0, .int .i64 0, .int .i64 0, .int .i64 0, .int .i64 0, .bool false]) ?_ 0 _ rfl; exact BK116014.out) NB116014_0.out (by simp)); have n3_ := mk (KeepBut.trans (by repeat (with_reducible first | exact HK.out | refine keep_far ?_ GW116014.out _)) hk (.inl rfl)); have n4_ := mk (hb); have n5_ := mk (hi); clear BK116001; clear HO116007; clear BK116014; clear HK; clear HB; clear HI0; have BK116001 := n0_; have HO116007 := n1_; have BK116014 := n2_; have HK := n3_; have HB := n4_; have HI0 := n5_; clear n0_ n1_ n2_ n3_ n4_ n5_; (try clear hb); (try clear hk); (try clear hi)) | ((with_reducible refine gate_dst (N := 16) rfl ?_); refine Kd.R_lit (Kd.int .i64) _ 3 ?hg (N := 16) ?hd (xs := ([(-1), 5] : List Int)) (inner := [.int .i64 (-1), .int .i64 5]) (ok := fun _ => True) (okp := fun _ => True) ?hr ?hp (fun _ hk => hk) trivial (Below.refl _ _) (Nat.le_refl _) (by simp) ?_; (case hd => rfl); (case hg => rfl); (case hr => (go_simp; done)); (case hp => exact (Reps.one (show Kd.M (Kd.int .i64) _ _ _ (-1) [.int .i64 (-1)] from rfl) (Reps.one (show Kd.M (Kd.int .i64) _ _ _ 5 [.int .i64 5] from rfl) (Reps.none _ _)))); intro v116018 w17 ho18 hb hg_ hnew_; clear hg_ hnew_; (rw [← Ny116017.out] at ho18); have n0_ := mk (Kd.R_elder' HO116007.out (Kd.R_base ho18) hb); have n1_ := mk (Kd.R_lower (Kd.R_new' ho18 (Kd.R_lt HO116007.out)) (keep_size (w := w) (g := g) (row := none) HK.out)); have n2_ := mk (IsS144.below HI0.out hb); have n3_ := mk (blk_below BK116001.out hb); have n4_ := mk (blk_below BK116014.out hb); have n5_ := mk (KeepBut.trans HK.out (KeepBut.of_below hb g none) (.inl rfl)); have n6_ := mk (below_step HB.out hb); clear HO116007; clear HI0; clear BK116001; clear BK116014; clear HK; clear HB; have HO116007 := n0_; have HO116019 := n1_; have HI0 := n2_; have BK116001 := n3_; have BK116014 := n4_; have HK := n5_; have HB := n6_; clear n0_ n1_ n2_ n3_ n4_ n5_ n6_; clear hb ho18; obtain ⟨Ao19, co19, eo19⟩ := Kd.R_slice HO116019.out; subst eo19) | ((with_reducible refine gate_callee (f := 147) rfl ?_); refine goesL_ (some 17) rfl rfl Try.func147 (by kernel_rfl) rfl #[.pointer (some ⟨g, 0, none⟩), .slice Ao19 y116017.length co19] rfl (by (try simp only [List.map_toArray, List.map_cons, List.map_nil]); rfl) ?_; (with_reducible refine (spec_reader_one.calls k g s0_0 t116016 _ _ y116017 t116020 t116021 w0 _ ?side1 ?side2 ?side3 ?side4 ?side5 A8.out).mono ?_); (case side1 => repeat (with_reducible exact HI0.out)); (case side2 => repeat (with_reducible exact HB.out)); (case side3 => repeat (exact (Kd.R_reads' HO116019.out).2.2)); (case side4 => exact (Kd.R_reads' HO116019.out).2.1); (case side5 => exact far_slice (IsS144.own_ne HI0.out HO116019.out (by decide))); rintro e w20 ⟨rfl, hi, hb, hk⟩; refine ⟨_, rfl, ?_⟩; have n0_ := mk (KeepBut.blk hk (g' := gb116001) (o := .cells #[.int .i64 0, .int .i64 0, .int .i64 0, .slice none 0 0, .int .i64 0, .int .i64 0, .int .i64 0, .int .i64 0, .bool false] 55 (0, 0)) BK116001.out NB116001_0.out (by simp)); have n1_ := mk (Kd.R_mono (Kd.R_keep (IsS144.apart (show IsS144 w0 _ g s0_0 t116016 from by exact HI0.out) HO116007.out (by decide)) hk (fun _ h => h.2)) (fun _ h => h.1)); have n2_ := mk (KeepBut.blk hk (g' := gb116014) (o := .cells #[.int .i64 t116002, .int .i64 t116003, .int .i64 t116004, .slice Ao15 t116005.length co15, .int .i64 t116008, .int .i64 t116009, .int .i64 t116010, .int .i64 t116011, .bool t116012] 55 (0, 0)) BK116014.out NB116014_0.out (by simp)); have n3_ := mk (Kd.R_mono (Kd.R_keep (IsS144.apart (show IsS144 w0 _ g s0_0 t116016 from by exact HI0.out) HO116019.out (by decide)) hk (fun _ h => h.2)) (fun _ h => h.1)); have n4_ := mk (KeepBut.trans HK.out hk (.inl rfl)); have n5_ := mk (hb); have n6_ := mk (hi); clear BK116001; clear HO116007; clear BK116014; clear HO116019; clear HK; clear HB; clear HI0; have BK116001 := n0_; have HO116007 := n1_; have BK116014 := n2_; have HO116019 := n3_; have HK := n4_; have HB := n5_; have HI0 := n6_; clear n0_ n1_ n2_ n3_ n4_ n5_ n6_; (try clear hb); (try clear hk); (try clear hi); obtain ⟨hcz21_0, hcz21_1, hcz21_2, hcz21_3, hcz21_4, hcz21_5, hcz21_6, hcz21_7, hcz21_8, hfz21_0, hfz21_1, hfz21_2, hfz21_3, hfz21_4, hfz21_5, hfz21_6, hfz21_7, hfz21_8⟩ := c9 BK116014.out; have hnb22 := NB116001_0.out; have hnc22 := NB0_116001.out; obtain ⟨hcz23_0, hcz23_1, hcz23_2, hcz23_3, hcz23_4, hcz23_5, hcz23_6, hcz23_7, hcz23_8, hfz23_0, hfz23_1, hfz23_2, hfz23_3, hfz23_4, hfz23_5, hfz23_6, hfz23_7, hfz23_8⟩ := c9 BK116001.out))
  refine bodyPost_ret (results_cell_row rfl _ _ gb116001 55 #[.int .i64 t116002, .int .i64 t116003, .int .i64 t116004, .slice Ao15 t116005.length co15, .int .i64 t116008, .int .i64 t116009, .int .i64 t116020, .int .i64 t116011, .bool t116012] (0, 0) _ rfl (by refine blk_put (cs := #[.int .i64 t116002, .int .i64 t116003, .int .i64 t116004, .slice Ao15 t116005.length co15, .int .i64 t116008, .int .i64 t116009, .int .i64 t116020, .int .i64 t116011, .bool false]) ?_ 8 _ rfl; refine blk_put (cs := #[.int .i64 t116002, .int .i64 t116003, .int .i64 t116004, .slice Ao15 t116005.length co15, .int .i64 t116008, .int .i64 t116009, .int .i64 t116020, .int .i64 0, .bool false]) ?_ 7 _ rfl; refine blk_put (cs := #[.int .i64 t116002, .int .i64 t116003, .int .i64 t116004, .slice Ao15 t116005.length co15, .int .i64 t116008, .int .i64 t116009, .int .i64 0, .int .i64 0, .bool false]) ?_ 6 _ rfl; refine blk_put (cs := #[.int .i64 t116002, .int .i64 t116003, .int .i64 t116004, .slice Ao15 t116005.length co15, .int .i64 t116008, .int .i64 0, .int .i64 0, .int .i64 0, .bool false]) ?_ 5 _ rfl; refine blk_put (cs := #[.int .i64 t116002, .int .i64 t116003, .int .i64 t116004, .slice Ao15 t116005.length co15, .int .i64 0, .int .i64 0, .int .i64 0, .int .i64 0, .bool false]) ?_ 4 _ rfl; refine blk_put (cs := #[.int .i64 t116002, .int .i64 t116003, .int .i64 t116004, .slice none 0 0, .int .i64 0, .int .i64 0, .int .i64 0, .int .i64 0, .bool false]) ?_ 3 _ rfl; refine blk_put (cs := #[.int .i64 t116002, .int .i64 t116003, .int .i64 0, .slice none 0 0, .int .i64 0, .int .i64 0, .int .i64 0, .int .i64 0, .bool false]) ?_ 2 _ rfl; refine blk_put (cs := #[.int .i64 t116002, .int .i64 0, .int .i64 0, .slice none 0 0, .int .i64 0, .int .i64 0, .int .i64 0, .int .i64 0, .bool false]) ?_ 1 _ rfl; refine blk_put (cs := #[.int .i64 0, .int .i64 0, .int .i64 0, .slice none 0 0, .int .i64 0, .int .i64 0, .int .i64 0, .int .i64 0, .bool false]) ?_ 0 _ rfl; refine blk_far ?_ NB116001_116014.out _; exact BK116001.out) Try.underlying55 rfl (by kernel_rfl)) rfl ?_
  exact ⟨_, by rfl, Kd.Q_of_R (by exact Kd.R_mono (Kd.R_far (p := ⟨gb116001, 8, none⟩) (Kd.R_far (p := ⟨gb116001, 7, none⟩) (Kd.R_far (p := ⟨gb116001, 6, none⟩) (Kd.R_far (p := ⟨gb116001, 5, none⟩) (Kd.R_far (p := ⟨gb116001, 4, none⟩) (Kd.R_far (p := ⟨gb116001, 3, none⟩) (Kd.R_far (p := ⟨gb116001, 2, none⟩) (Kd.R_far (p := ⟨gb116001, 1, none⟩) (Kd.R_far (p := ⟨gb116001, 0, none⟩) (Kd.R_far (p := ⟨gb116014, 6, none⟩) (Kd.R_types (Kd.R_types HO116007.out BK116014.out (by decide)) BK116001.out (by decide)) (fun _ hk => hk.1.2) (.int .i64 t116020)) (fun _ hk => hk.2) (.int .i64 t116002)) (fun _ hk => hk.2) (.int .i64 t116003)) (fun _ hk => hk.2) (.int .i64 t116004)) (fun _ hk => hk.2) (.slice Ao15 t116005.length co15)) (fun _ hk => hk.2) (.int .i64 t116008)) (fun _ hk => hk.2) (.int .i64 t116009)) (fun _ hk => hk.2) (.int .i64 t116020)) (fun _ hk => hk.2) (.int .i64 t116011)) (fun _ hk => hk.2) (.bool t116012)) (fun _ hk => trivial)), by repeat (with_reducible first | exact HI0.out | refine IsS144.far ?_ NB0_116001.out _ | refine IsS144.far ?_ NB0_116014.out _), by repeat (with_reducible first | exact HB.out | refine below_set ?_ GE116001.out | refine below_set ?_ GE116014.out), by repeat (with_reducible first | exact HK.out | refine keep_far ?_ GW116001.out _ | refine keep_far ?_ GW116014.out _)⟩
 ·rw [if_neg c7] at H
  have c7b0 : (t116015 == 0) = false := beq_eq_false_iff_ne.mpr c7
  have c7b1 : (t116015 != 0) = true := bne_iff_ne.mpr c7
  by_cases c24 : t116015 = 1
  ·rw [if_pos c24] at H
   have c24b0 : (t116015 == 1) = true := beq_iff_eq.mpr c24
   have c24b1 : (t116015 != 1) = false := bne_eq_false_iff_eq.mpr c24
   clear c24
   obtain ⟨y116022, hy116022⟩ : ∃ y_ : List Int, y_ = (([(-1), 256] : List Int)) := ⟨_, rfl⟩
   replace H : ((spec_reader_one.f k s0_0 t116016 y116022).bind fun bt116025 => (some (t116002, t116003, t116004, t116005, t116008, t116009, t116010, bt116025.1, t116012, bt116025.2))) = some (r1, r2, r3, r4, r5, r6, r7, r8, r9, r10) := by (rw [hy116022]; with_reducible exact H)
   have Ny116022 := mk hy116022
   clear hy116022
   replace H := Option.bind_eq_some_iff.mp H
   obtain ⟨⟨t116025, t116026⟩, A250, H⟩ := H
   replace H : (some (t116002, t116003, t116004, t116005, t116008, t116009, t116010, t116025, t116012, t116026)) = some (r1, r2, r3, r4, r5, r6, r7, r8, r9, r10) := H
   have A25 := mk A250
   clear A250
   simp only [Option.some.injEq, Prod.mk.injEq] at H
   obtain ⟨rfl, rfl, rfl, rfl, rfl, rfl, rfl, rfl, rfl, rfl⟩ := H
   go_enter Try.func115, Try.ntmps115
   go_wp2_with (first | ((with_reducible refine gate_dst (N := 4) rfl ?_); refine box_event ?hg (N := 4) ?hd (cs := #[.int .i64 0, .int .i64 0, .int .i64 0, .slice none 0 0, .int .i64 0, .int .i64 0, .int .i64 0, .int .i64 0, .bool false]) (t := 55) ?hr ?_; (case hd => rfl); (case hg => rfl); (case hr => (go_simp; done)); intro gb116001 hg w26 hbox hb; have n0_ := mk (IsS144.below HI0.out hb); have n1_ := mk (KeepBut.trans HK.out (KeepBut.of_below hb g none) (.inl rfl)); have n2_ := mk (below_step HB.out hb); have n3_ := mk (hbox); have n4_ := mk ((by rw [hg]; exact (keep_size (w := w) (g := g) (row := none) HK.out) : w.heap.size ≤ gb116001)); have n5_ := mk ((Nat.le_trans HW0.out (by rw [hg]; exact (keep_size (w := w) (g := g) (row := none) HK.out) : w.heap.size ≤ gb116001) : w0.heap.size ≤ gb116001)); have n6_ := mk ((by rw [hg]; exact Nat.ne_of_lt (IsS144.lt (show IsS144 w0 _ g s0_0 s0_1 from by exact HI0.out)) : g ≠ gb116001)); have n7_ := mk ((by rw [hg]; exact Nat.ne_of_gt (IsS144.lt (show IsS144 w0 _ g s0_0 s0_1 from by exact HI0.out)) : gb116001 ≠ g)); clear HI0; clear HK; clear HB; have HI0 := n0_; have HK := n1_; have HB := n2_; have BK116001 := n3_; have GW116001 := n4_; have GE116001 := n5_; have NB0_116001 := n6_; have NB116001_0 := n7_; clear n0_ n1_ n2_ n3_ n4_ n5_ n6_ n7_; clear hb hbox hg) | ((with_reducible refine gate_callee (f := 146) rfl ?_); refine goesL_ (some 10) rfl rfl Try.func146 (by kernel_rfl) rfl #[.pointer (some ⟨g, 0, none⟩), .int .i64 ji4] rfl (by (try simp only [List.map_toArray, List.map_cons, List.map_nil]); rfl) ?_; (with_reducible refine (spec_randomLayer.calls k g s0_0 s0_1 ji4 t116002 t116003 t116004 t116005 t116008 t116009 t116010 t116011 t116012 t116013 w0 _ ?side1 ?side2 A5.out).mono ?_); (case side1 => repeat (with_reducible exact HI0.out)); (case side2 => repeat (with_reducible exact HB.out)); rintro e w27 ⟨v116006, rfl, ho0, hi, hb, hk⟩; refine ⟨_, rfl, ?_⟩; have n0_ := mk (KeepBut.blk hk (g' := gb116001) (o := .cells #[.int .i64 0, .int .i64 0, .int .i64 0, .slice none 0 0, .int .i64 0, .int .i64 0, .int .i64 0, .int .i64 0, .bool false] 55 (0, 0)) BK116001.out NB116001_0.out (by simp)); have n1_ := mk (Kd.R_lower ho0 (keep_size (w := w) (g := g) (row := none) HK.out)); have n2_ := mk (KeepBut.trans HK.out hk (.inl rfl)); have n3_ := mk (hb); have n4_ := mk (hi); clear BK116001; clear HK; clear HB; clear HI0; have BK116001 := n0_; have HO116007 := n1_; have HK := n2_; have HB := n3_; have HI0 := n4_; clear n0_ n1_ n2_ n3_ n4_; (try clear hb); (try clear hk); (try clear hi); (try clear ho0)) | ((with_reducible refine gate_dst (N := 5) rfl ?_); refine box_event ?hg (N := 5) ?hd (cs := #[.int .i64 0, .int .i64 0, .int .i64 0, .slice none 0 0, .int .i64 0, .int .i64 0, .int .i64 0, .int .i64 0, .bool false]) (t := 55) ?hr ?_; (case hd => rfl); (case hg => rfl); (case hr => (go_simp; done)); intro gb116014 hg w28 hbox hb; have n0_ := mk (Kd.R_below HO116007.out hb); have n1_ := mk (IsS144.below HI0.out hb); have n2_ := mk (blk_below BK116001.out hb); have n3_ := mk (KeepBut.trans HK.out (KeepBut.of_below hb g none) (.inl rfl)); have n4_ := mk (below_step HB.out hb); have n5_ := mk (hbox); have n6_ := mk ((by rw [hg]; exact (keep_size (w := w) (g := g) (row := none) HK.out) : w.heap.size ≤ gb116014)); have n7_ := mk ((Nat.le_trans HW0.out (by rw [hg]; exact (keep_size (w := w) (g := g) (row := none) HK.out) : w.heap.size ≤ gb116014) : w0.heap.size ≤ gb116014)); have n8_ := mk ((by rw [hg]; exact Nat.ne_of_lt (blk_lt BK116001.out) : gb116001 ≠ gb116014)); have n9_ := mk ((by rw [hg]; exact Nat.ne_of_gt (blk_lt BK116001.out) : gb116014 ≠ gb116001)); have n10_ := mk ((by rw [hg]; exact Nat.ne_of_lt (IsS144.lt (show IsS144 w0 _ g s0_0 t116013 from by exact HI0.out)) : g ≠ gb116014)); have n11_ := mk ((by rw [hg]; exact Nat.ne_of_gt (IsS144.lt (show IsS144 w0 _ g s0_0 t116013 from by exact HI0.out)) : gb116014 ≠ g)); clear HO116007; clear HI0; clear BK116001; clear HK; clear HB; have HO116007 := n0_; have HI0 := n1_; have BK116001 := n2_; have HK := n3_; have HB := n4_; have BK116014 := n5_; have GW116014 := n6_; have GE116014 := n7_; have NB116001_116014 := n8_; have NB116014_116001 := n9_; have NB0_116014 := n10_; have NB116014_0 := n11_; clear n0_ n1_ n2_ n3_ n4_ n5_ n6_ n7_ n8_ n9_ n10_ n11_; clear hb hbox hg; have hnb29 := NB116014_116001.out; have hnc29 := NB116001_116014.out; have hnb30 := NB116014_0.out; have hnc30 := NB0_116014.out; obtain ⟨hcz31_0, hcz31_1, hcz31_2, hcz31_3, hcz31_4, hcz31_5, hcz31_6, hcz31_7, hcz31_8, hfz31_0, hfz31_1, hfz31_2, hfz31_3, hfz31_4, hfz31_5, hfz31_6, hfz31_7, hfz31_8⟩ := c9 BK116014.out; obtain ⟨Ao32, co32, eo32⟩ := Kd.R_slice HO116007.out; subst eo32) | ((with_reducible refine gate_callee (f := 127) rfl ?_); refine goesL_ (some 12) rfl rfl Try.func127 (by kernel_rfl) rfl #[.pointer (some ⟨g, 0, none⟩), .int .i64 24] rfl (by (try simp only [List.map_toArray, List.map_cons, List.map_nil]); rfl) ?_; (with_reducible refine (spec_reader_pick.calls k g s0_0 t116013 24 t116015 t116016 w0 _ ?side1 ?side2 A6.out).mono ?_); (case side1 => repeat (with_reducible first | exact HI0.out | refine IsS144.far ?_ NB0_116014.out _)); (case side2 => repeat (with_reducible first | exact HB.out | refine below_set ?_ GE116014.out)); rintro e w33 ⟨rfl, hi, hb, hk⟩; refine ⟨_, rfl, ?_⟩; have n0_ := mk (KeepBut.blk hk (g' := gb116001) (o := .cells #[.int .i64 0, .int .i64 0, .int .i64 0, .slice none 0 0, .int .i64 0, .int .i64 0, .int .i64 0, .int .i64 0, .bool false] 55 (0, 0)) (by refine blk_far ?_ NB116001_116014.out _; refine blk_far ?_ NB116001_116014.out _; refine blk_far ?_ NB116001_116014.out _; refine blk_far ?_ NB116001_116014.out _; refine blk_far ?_ NB116001_116014.out _; refine blk_far ?_ NB116001_116014.out _; refine blk_far ?_ NB116001_116014.out _; refine blk_far ?_ NB116001_116014.out _; refine blk_far ?_ NB116001_116014.out _; exact BK116001.out) NB116001_0.out (by simp)); have n1_ := mk (Kd.R_mono (Kd.R_keep (IsS144.apart (show IsS144 w0 _ g s0_0 t116013 from by repeat (with_reducible first | exact HI0.out | refine IsS144.far ?_ NB0_116014.out _)) (by exact (Kd.R_mono (Kd.R_far (p := ⟨gb116014, 8, none⟩) (Kd.R_far (p := ⟨gb116014, 7, none⟩) (Kd.R_far (p := ⟨gb116014, 6, none⟩) (Kd.R_far (p := ⟨gb116014, 5, none⟩) (Kd.R_far (p := ⟨gb116014, 4, none⟩) (Kd.R_far (p := ⟨gb116014, 3, none⟩) (Kd.R_far (p := ⟨gb116014, 2, none⟩) (Kd.R_far (p := ⟨gb116014, 1, none⟩) (Kd.R_far (p := ⟨gb116014, 0, none⟩) (Kd.R_types HO116007.out BK116014.out (by decide)) (fun _ hk => hk.2) (.int .i64 t116002)) (fun _ hk => hk.2) (.int .i64 t116003)) (fun _ hk => hk.2) (.int .i64 t116004)) (fun _ hk => hk.2) (.slice Ao32 t116005.length co32)) (fun _ hk => hk.2) (.int .i64 t116008)) (fun _ hk => hk.2) (.int .i64 t116009)) (fun _ hk => hk.2) (.int .i64 t116010)) (fun _ hk => hk.2) (.int .i64 t116011)) (fun _ hk => hk.2) (.bool t116012)) (fun _ h_ => h_.1))) (by decide)) hk (fun _ h => h.2)) (fun _ h => h.1)); have n2_ := mk (KeepBut.blk hk (g' := gb116014) (o := .cells #[.int .i64 t116002, .int .i64 t116003, .int .i64 t116004, .slice Ao32 t116005.length co32, .int .i64 t116008, .int .i64 t116009, .int .i64 t116010, .int .i64 t116011, .bool t116012] 55 (0, 0)) (by refine blk_put (cs := #[.int .i64 t116002, .int .i64 t116003, .int .i64 t116004, .slice Ao32 t116005.length co32, .int .i64 t116008, .int .i64 t116009, .int .i64 t116010, .int .i64 t116011, .bool false]) ?_ 8 _ rfl; refine blk_put (cs := #[.int .i64 t116002, .int .i64 t116003, .int .i64 t116004, .slice Ao32 t116005.length co32, .int .i64 t116008, .int .i64 t116009, .int .i64 t116010, .int .i64 0, .bool false]) ?_ 7 _ rfl; refine blk_put (cs := #[.int .i64 t116002, .int .i64 t116003, .int .i64 t116004, .slice Ao32 t116005.length co32, .int .i64 t116008, .int .i64 t116009, .int .i64 0, .int .i64 0, .bool false]) ?_ 6 _ rfl; refine blk_put (cs := #[.int .i64 t116002, .int .i64 t116003, .int .i64 t116004, .slice Ao32 t116005.length co32, .int .i64 t116008, .int .i64 0, .int .i64 0, .int .i64 0, .bool false]) ?_ 5 _ rfl; refine blk_put (cs := #[.int .i64 t116002, .int .i64 t116003, .int .i64 t116004, .slice Ao32 t116005.length co32, .int .i64 0, .int .i64 0, .int .i64 0, .int .i64 0, .bool false]) ?_ 4 _ rfl; refine blk_put (cs := #[.int .i64 t116002, .int .i64 t116003, .int .i64 t116004, .slice none 0 0, .int .i64 0, .int .i64 0, .int .i64 0, .int .i64 0, .bool false]) ?_ 3 _ rfl; refine blk_put (cs := #[.int .i64 t116002, .int .i64 t116003, .int .i64 0, .slice none 0 0, .int .i64 0, .int .i64 0, .int .i64 0, .int .i64 0, .bool false]) ?_ 2 _ rfl; refine blk_put (cs := #[.int .i64 t116002, .int .i64 0, .int .i64 0, .slice none 0 0, .int .i64 0, .int .i64 0, .int .i64 0, .int .i64 0, .bool false]) ?_ 1 _ rfl; refine blk_put (cs := #[.int .i64 0, .int .i64 0, .int .i64 0, .slice none 0 0, .int .i64 0, .int .i64 0, .int .i64 0, .int .i64 0, .bool false]) ?_ 0 _ rfl; exact BK116014.out) NB116014_0.out (by simp)); have n3_ := mk (KeepBut.trans (by repeat (with_reducible first | exact HK.out | refine keep_far ?_ GW116014.out _)) hk (.inl rfl)); have n4_ := mk (hb); have n5_ := mk (hi); clear BK116001; clear HO116007; clear BK116014; clear HK; clear HB; clear HI0; have BK116001 := n0_; have HO116007 := n1_; have BK116014 := n2_; have HK := n3_; have HB := n4_; have HI0 := n5_; clear n0_ n1_ n2_ n3_ n4_ n5_; (try clear hb); (try clear hk); (try clear hi)) | ((with_reducible refine gate_dst (N := 22) rfl ?_); refine Kd.R_lit (Kd.int .i64) _ 3 ?hg (N := 22) ?hd (xs := ([(-1), 256] : List Int)) (inner := [.int .i64 (-1), .int .i64 256]) (ok := fun _ => True) (okp := fun _ => True) ?hr ?hp (fun _ hk => hk) trivial (Below.refl _ _) (Nat.le_refl _) (by simp) ?_; (case hd => rfl); (case hg => rfl); (case hr => (go_simp; done)); (case hp => exact (Reps.one (show Kd.M (Kd.int .i64) _ _ _ (-1) [.int .i64 (-1)] from rfl) (Reps.one (show Kd.M (Kd.int .i64) _ _ _ 256 [.int .i64 256] from rfl) (Reps.none _ _)))); intro v116023 w34 ho35 hb hg_ hnew_; clear hg_ hnew_; (rw [← Ny116022.out] at ho35); have n0_ := mk (Kd.R_elder' HO116007.out (Kd.R_base ho35) hb); have n1_ := mk (Kd.R_lower (Kd.R_new' ho35 (Kd.R_lt HO116007.out)) (keep_size (w := w) (g := g) (row := none) HK.out)); have n2_ := mk (IsS144.below HI0.out hb); have n3_ := mk (blk_below BK116001.out hb); have n4_ := mk (blk_below BK116014.out hb); have n5_ := mk (KeepBut.trans HK.out (KeepBut.of_below hb g none) (.inl rfl)); have n6_ := mk (below_step HB.out hb); clear HO116007; clear HI0; clear BK116001; clear BK116014; clear HK; clear HB; have HO116007 := n0_; have HO116024 := n1_; have HI0 := n2_; have BK116001 := n3_; have BK116014 := n4_; have HK := n5_; have HB := n6_; clear n0_ n1_ n2_ n3_ n4_ n5_ n6_; clear hb ho35; obtain ⟨Ao36, co36, eo36⟩ := Kd.R_slice HO116024.out; subst eo36) | ((with_reducible refine gate_callee (f := 147) rfl ?_); refine goesL_ (some 23) rfl rfl Try.func147 (by kernel_rfl) rfl #[.pointer (some ⟨g, 0, none⟩), .slice Ao36 y116022.length co36] rfl (by (try simp only [List.map_toArray, List.map_cons, List.map_nil]); rfl) ?_; (with_reducible refine (spec_reader_one.calls k g s0_0 t116016 _ _ y116022 t116025 t116026 w0 _ ?side1 ?side2 ?side3 ?side4 ?side5 A25.out).mono ?_); (case side1 => repeat (with_reducible exact HI0.out)); (case side2 => repeat (with_reducible exact HB.out)); (case side3 => repeat (exact (Kd.R_reads' HO116024.out).2.2)); (case side4 => exact (Kd.R_reads' HO116024.out).2.1); (case side5 => exact far_slice (IsS144.own_ne HI0.out HO116024.out (by decide))); rintro e w37 ⟨rfl, hi, hb, hk⟩; refine ⟨_, rfl, ?_⟩; have n0_ := mk (KeepBut.blk hk (g' := gb116001) (o := .cells #[.int .i64 0, .int .i64 0, .int .i64 0, .slice none 0 0, .int .i64 0, .int .i64 0, .int .i64 0, .int .i64 0, .bool false] 55 (0, 0)) BK116001.out NB116001_0.out (by simp)); have n1_ := mk (Kd.R_mono (Kd.R_keep (IsS144.apart (show IsS144 w0 _ g s0_0 t116016 from by exact HI0.out) HO116007.out (by decide)) hk (fun _ h => h.2)) (fun _ h => h.1)); have n2_ := mk (KeepBut.blk hk (g' := gb116014) (o := .cells #[.int .i64 t116002, .int .i64 t116003, .int .i64 t116004, .slice Ao32 t116005.length co32, .int .i64 t116008, .int .i64 t116009, .int .i64 t116010, .int .i64 t116011, .bool t116012] 55 (0, 0)) BK116014.out NB116014_0.out (by simp)); have n3_ := mk (Kd.R_mono (Kd.R_keep (IsS144.apart (show IsS144 w0 _ g s0_0 t116016 from by exact HI0.out) HO116024.out (by decide)) hk (fun _ h => h.2)) (fun _ h => h.1)); have n4_ := mk (KeepBut.trans HK.out hk (.inl rfl)); have n5_ := mk (hb); have n6_ := mk (hi); clear BK116001; clear HO116007; clear BK116014; clear HO116024; clear HK; clear HB; clear HI0; have BK116001 := n0_; have HO116007 := n1_; have BK116014 := n2_; have HO116024 := n3_; have HK := n4_; have HB := n5_; have HI0 := n6_; clear n0_ n1_ n2_ n3_ n4_ n5_ n6_; (try clear hb); (try clear hk); (try clear hi); obtain ⟨hcz38_0, hcz38_1, hcz38_2, hcz38_3, hcz38_4, hcz38_5, hcz38_6, hcz38_7, hcz38_8, hfz38_0, hfz38_1, hfz38_2, hfz38_3, hfz38_4, hfz38_5, hfz38_6, hfz38_7, hfz38_8⟩ := c9 BK116014.out; have hnb39 := NB116001_0.out; have hnc39 := NB0_116001.out; obtain ⟨hcz40_0, hcz40_1, hcz40_2, hcz40_3, hcz40_4, hcz40_5, hcz40_6, hcz40_7, hcz40_8, hfz40_0, hfz40_1, hfz40_2, hfz40_3, hfz40_4, hfz40_5, hfz40_6, hfz40_7, hfz40_8⟩ := c9 BK116001.out))
   refine bodyPost_ret (results_cell_row rfl _ _ gb116001 55 #[.int .i64 t116002, .int .i64 t116003, .int .i64 t116004, .slice Ao32 t116005.length co32, .int .i64 t116008, .int .i64 t116009, .int .i64 t116010, .int .i64 t116025, .bool t116012] (0, 0) _ rfl (by refine blk_put (cs := #[.int .i64 t116002, .int .i64 t116003, .int .i64 t116004, .slice Ao32 t116005.length co32, .int .i64 t116008, .int .i64 t116009, .int .i64 t116010, .int .i64 t116025, .bool false]) ?_ 8 _ rfl; refine blk_put (cs := #[.int .i64 t116002, .int .i64 t116003, .int .i64 t116004, .slice Ao32 t116005.length co32, .int .i64 t116008, .int .i64 t116009, .int .i64 t116010, .int .i64 0, .bool false]) ?_ 7 _ rfl; refine blk_put (cs := #[.int .i64 t116002, .int .i64 t116003, .int .i64 t116004, .slice Ao32 t116005.length co32, .int .i64 t116008, .int .i64 t116009, .int .i64 0, .int .i64 0, .bool false]) ?_ 6 _ rfl; refine blk_put (cs := #[.int .i64 t116002, .int .i64 t116003, .int .i64 t116004, .slice Ao32 t116005.length co32, .int .i64 t116008, .int .i64 0, .int .i64 0, .int .i64 0, .bool false]) ?_ 5 _ rfl; refine blk_put (cs := #[.int .i64 t116002, .int .i64 t116003, .int .i64 t116004, .slice Ao32 t116005.length co32, .int .i64 0, .int .i64 0, .int .i64 0, .int .i64 0, .bool false]) ?_ 4 _ rfl; refine blk_put (cs := #[.int .i64 t116002, .int .i64 t116003, .int .i64 t116004, .slice none 0 0, .int .i64 0, .int .i64 0, .int .i64 0, .int .i64 0, .bool false]) ?_ 3 _ rfl; refine blk_put (cs := #[.int .i64 t116002, .int .i64 t116003, .int .i64 0, .slice none 0 0, .int .i64 0, .int .i64 0, .int .i64 0, .int .i64 0, .bool false]) ?_ 2 _ rfl; refine blk_put (cs := #[.int .i64 t116002, .int .i64 0, .int .i64 0, .slice none 0 0, .int .i64 0, .int .i64 0, .int .i64 0, .int .i64 0, .bool false]) ?_ 1 _ rfl; refine blk_put (cs := #[.int .i64 0, .int .i64 0, .int .i64 0, .slice none 0 0, .int .i64 0, .int .i64 0, .int .i64 0, .int .i64 0, .bool false]) ?_ 0 _ rfl; refine blk_far ?_ NB116001_116014.out _; exact BK116001.out) Try.underlying55 rfl (by kernel_rfl)) rfl ?_
   exact ⟨_, by rfl, Kd.Q_of_R (by exact Kd.R_mono (Kd.R_far (p := ⟨gb116001, 8, none⟩) (Kd.R_far (p := ⟨gb116001, 7, none⟩) (Kd.R_far (p := ⟨gb116001, 6, none⟩) (Kd.R_far (p := ⟨gb116001, 5, none⟩) (Kd.R_far (p := ⟨gb116001, 4, none⟩) (Kd.R_far (p := ⟨gb116001, 3, none⟩) (Kd.R_far (p := ⟨gb116001, 2, none⟩) (Kd.R_far (p := ⟨gb116001, 1, none⟩) (Kd.R_far (p := ⟨gb116001, 0, none⟩) (Kd.R_far (p := ⟨gb116014, 7, none⟩) (Kd.R_types (Kd.R_types HO116007.out BK116014.out (by decide)) BK116001.out (by decide)) (fun _ hk => hk.1.2) (.int .i64 t116025)) (fun _ hk => hk.2) (.int .i64 t116002)) (fun _ hk => hk.2) (.int .i64 t116003)) (fun _ hk => hk.2) (.int .i64 t116004)) (fun _ hk => hk.2) (.slice Ao32 t116005.length co32)) (fun _ hk => hk.2) (.int .i64 t116008)) (fun _ hk => hk.2) (.int .i64 t116009)) (fun _ hk => hk.2) (.int .i64 t116010)) (fun _ hk => hk.2) (.int .i64 t116025)) (fun _ hk => hk.2) (.bool t116012)) (fun _ hk => trivial)), by repeat (with_reducible first | exact HI0.out | refine IsS144.far ?_ NB0_116001.out _ | refine IsS144.far ?_ NB0_116014.out _), by repeat (with_reducible first | exact HB.out | refine below_set ?_ GE116001.out | refine below_set ?_ GE116014.out), by repeat (with_reducible first | exact HK.out | refine keep_far ?_ GW116001.out _ | refine keep_far ?_ GW116014.out _)⟩
  ·rw [if_neg c24] at H
   have c24b0 : (t116015 == 1) = false := beq_eq_false_iff_ne.mpr c24
   have c24b1 : (t116015 != 1) = true := bne_iff_ne.mpr c24
   by_cases c41 : t116015 = 2
   ·rw [if_pos c41] at H
    have c41b0 : (t116015 == 2) = true := beq_iff_eq.mpr c41
    have c41b1 : (t116015 != 2) = false := bne_eq_false_iff_eq.mpr c41
    clear c41
    obtain ⟨y116027, hy116027⟩ : ∃ y_ : List Int, y_ = (([(-16), (-17), 16, 17] : List Int)) := ⟨_, rfl⟩
    replace H : ((spec_reader_one.f k s0_0 t116016 y116027).bind fun bt116030 => (some (t116002, t116003, t116004, t116005, bt116030.1, t116009, t116010, t116011, t116012, bt116030.2))) = some (r1, r2, r3, r4, r5, r6, r7, r8, r9, r10) := by (rw [hy116027]; with_reducible exact H)
    have Ny116027 := mk hy116027
    clear hy116027
    replace H := Option.bind_eq_some_iff.mp H
    obtain ⟨⟨t116030, t116031⟩, A420, H⟩ := H
    replace H : (some (t116002, t116003, t116004, t116005, t116030, t116009, t116010, t116011, t116012, t116031)) = some (r1, r2, r3, r4, r5, r6, r7, r8, r9, r10) := H
    have A42 := mk A420
    clear A420
    simp only [Option.some.injEq, Prod.mk.injEq] at H
    obtain ⟨rfl, rfl, rfl, rfl, rfl, rfl, rfl, rfl, rfl, rfl⟩ := H
    go_enter Try.func115, Try.ntmps115
    go_wp2_with (first | ((with_reducible refine gate_dst (N := 4) rfl ?_); refine box_event ?hg (N := 4) ?hd (cs := #[.int .i64 0, .int .i64 0, .int .i64 0, .slice none 0 0, .int .i64 0, .int .i64 0, .int .i64 0, .int .i64 0, .bool false]) (t := 55) ?hr ?_; (case hd => rfl); (case hg => rfl); (case hr => (go_simp; done)); intro gb116001 hg w43 hbox hb; have n0_ := mk (IsS144.below HI0.out hb); have n1_ := mk (KeepBut.trans HK.out (KeepBut.of_below hb g none) (.inl rfl)); have n2_ := mk (below_step HB.out hb); have n3_ := mk (hbox); have n4_ := mk ((by rw [hg]; exact (keep_size (w := w) (g := g) (row := none) HK.out) : w.heap.size ≤ gb116001)); have n5_ := mk ((Nat.le_trans HW0.out (by rw [hg]; exact (keep_size (w := w) (g := g) (row := none) HK.out) : w.heap.size ≤ gb116001) : w0.heap.size ≤ gb116001)); have n6_ := mk ((by rw [hg]; exact Nat.ne_of_lt (IsS144.lt (show IsS144 w0 _ g s0_0 s0_1 from by exact HI0.out)) : g ≠ gb116001)); have n7_ := mk ((by rw [hg]; exact Nat.ne_of_gt (IsS144.lt (show IsS144 w0 _ g s0_0 s0_1 from by exact HI0.out)) : gb116001 ≠ g)); clear HI0; clear HK; clear HB; have HI0 := n0_; have HK := n1_; have HB := n2_; have BK116001 := n3_; have GW116001 := n4_; have GE116001 := n5_; have NB0_116001 := n6_; have NB116001_0 := n7_; clear n0_ n1_ n2_ n3_ n4_ n5_ n6_ n7_; clear hb hbox hg) | ((with_reducible refine gate_callee (f := 146) rfl ?_); refine goesL_ (some 10) rfl rfl Try.func146 (by kernel_rfl) rfl #[.pointer (some ⟨g, 0, none⟩), .int .i64 ji4] rfl (by (try simp only [List.map_toArray, List.map_cons, List.map_nil]); rfl) ?_; (with_reducible refine (spec_randomLayer.calls k g s0_0 s0_1 ji4 t116002 t116003 t116004 t116005 t116008 t116009 t116010 t116011 t116012 t116013 w0 _ ?side1 ?side2 A5.out).mono ?_); (case side1 => repeat (with_reducible exact HI0.out)); (case side2 => repeat (with_reducible exact HB.out)); rintro e w44 ⟨v116006, rfl, ho0, hi, hb, hk⟩; refine ⟨_, rfl, ?_⟩; have n0_ := mk (KeepBut.blk hk (g' := gb116001) (o := .cells #[.int .i64 0, .int .i64 0, .int .i64 0, .slice none 0 0, .int .i64 0, .int .i64 0, .int .i64 0, .int .i64 0, .bool false] 55 (0, 0)) BK116001.out NB116001_0.out (by simp)); have n1_ := mk (Kd.R_lower ho0 (keep_size (w := w) (g := g) (row := none) HK.out)); have n2_ := mk (KeepBut.trans HK.out hk (.inl rfl)); have n3_ := mk (hb); have n4_ := mk (hi); clear BK116001; clear HK; clear HB; clear HI0; have BK116001 := n0_; have HO116007 := n1_; have HK := n2_; have HB := n3_; have HI0 := n4_; clear n0_ n1_ n2_ n3_ n4_; (try clear hb); (try clear hk); (try clear hi); (try clear ho0)) | ((with_reducible refine gate_dst (N := 5) rfl ?_); refine box_event ?hg (N := 5) ?hd (cs := #[.int .i64 0, .int .i64 0, .int .i64 0, .slice none 0 0, .int .i64 0, .int .i64 0, .int .i64 0, .int .i64 0, .bool false]) (t := 55) ?hr ?_; (case hd => rfl); (case hg => rfl); (case hr => (go_simp; done)); intro gb116014 hg w45 hbox hb; have n0_ := mk (Kd.R_below HO116007.out hb); have n1_ := mk (IsS144.below HI0.out hb); have n2_ := mk (blk_below BK116001.out hb); have n3_ := mk (KeepBut.trans HK.out (KeepBut.of_below hb g none) (.inl rfl)); have n4_ := mk (below_step HB.out hb); have n5_ := mk (hbox); have n6_ := mk ((by rw [hg]; exact (keep_size (w := w) (g := g) (row := none) HK.out) : w.heap.size ≤ gb116014)); have n7_ := mk ((Nat.le_trans HW0.out (by rw [hg]; exact (keep_size (w := w) (g := g) (row := none) HK.out) : w.heap.size ≤ gb116014) : w0.heap.size ≤ gb116014)); have n8_ := mk ((by rw [hg]; exact Nat.ne_of_lt (blk_lt BK116001.out) : gb116001 ≠ gb116014)); have n9_ := mk ((by rw [hg]; exact Nat.ne_of_gt (blk_lt BK116001.out) : gb116014 ≠ gb116001)); have n10_ := mk ((by rw [hg]; exact Nat.ne_of_lt (IsS144.lt (show IsS144 w0 _ g s0_0 t116013 from by exact HI0.out)) : g ≠ gb116014)); have n11_ := mk ((by rw [hg]; exact Nat.ne_of_gt (IsS144.lt (show IsS144 w0 _ g s0_0 t116013 from by exact HI0.out)) : gb116014 ≠ g)); clear HO116007; clear HI0; clear BK116001; clear HK; clear HB; have HO116007 := n0_; have HI0 := n1_; have BK116001 := n2_; have HK := n3_; have HB := n4_; have BK116014 := n5_; have GW116014 := n6_; have GE116014 := n7_; have NB116001_116014 := n8_; have NB116014_116001 := n9_; have NB0_116014 := n10_; have NB116014_0 := n11_; clear n0_ n1_ n2_ n3_ n4_ n5_ n6_ n7_ n8_ n9_ n10_ n11_; clear hb hbox hg; have hnb46 := NB116014_116001.out; have hnc46 := NB116001_116014.out; have hnb47 := NB116014_0.out; have hnc47 := NB0_116014.out; obtain ⟨hcz48_0, hcz48_1, hcz48_2, hcz48_3, hcz48_4, hcz48_5, hcz48_6, hcz48_7, hcz48_8, hfz48_0, hfz48_1, hfz48_2, hfz48_3, hfz48_4, hfz48_5, hfz48_6, hfz48_7, hfz48_8⟩ := c9 BK116014.out; obtain ⟨Ao49, co49, eo49⟩ := Kd.R_slice HO116007.out; subst eo49) | ((with_reducible refine gate_callee (f := 127) rfl ?_); refine goesL_ (some 12) rfl rfl Try.func127 (by kernel_rfl) rfl #[.pointer (some ⟨g, 0, none⟩), .int .i64 24] rfl (by (try simp only [List.map_toArray, List.map_cons, List.map_nil]); rfl) ?_; (with_reducible refine (spec_reader_pick.calls k g s0_0 t116013 24 t116015 t116016 w0 _ ?side1 ?side2 A6.out).mono ?_); (case side1 => repeat (with_reducible first | exact HI0.out | refine IsS144.far ?_ NB0_116014.out _)); (case side2 => repeat (with_reducible first | exact HB.out | refine below_set ?_ GE116014.out)); rintro e w50 ⟨rfl, hi, hb, hk⟩; refine ⟨_, rfl, ?_⟩; have n0_ := mk (KeepBut.blk hk (g' := gb116001) (o := .cells #[.int .i64 0, .int .i64 0, .int .i64 0, .slice none 0 0, .int .i64 0, .int .i64 0, .int .i64 0, .int .i64 0, .bool false] 55 (0, 0)) (by refine blk_far ?_ NB116001_116014.out _; refine blk_far ?_ NB116001_116014.out _; refine blk_far ?_ NB116001_116014.out _; refine blk_far ?_ NB116001_116014.out _; refine blk_far ?_ NB116001_116014.out _; refine blk_far ?_ NB116001_116014.out _; refine blk_far ?_ NB116001_116014.out _; refine blk_far ?_ NB116001_116014.out _; refine blk_far ?_ NB116001_116014.out _; exact BK116001.out) NB116001_0.out (by simp)); have n1_ := mk (Kd.R_mono (Kd.R_keep (IsS144.apart (show IsS144 w0 _ g s0_0 t116013 from by repeat (with_reducible first | exact HI0.out | refine IsS144.far ?_ NB0_116014.out _)) (by exact (Kd.R_mono (Kd.R_far (p := ⟨gb116014, 8, none⟩) (Kd.R_far (p := ⟨gb116014, 7, none⟩) (Kd.R_far (p := ⟨gb116014, 6, none⟩) (Kd.R_far (p := ⟨gb116014, 5, none⟩) (Kd.R_far (p := ⟨gb116014, 4, none⟩) (Kd.R_far (p := ⟨gb116014, 3, none⟩) (Kd.R_far (p := ⟨gb116014, 2, none⟩) (Kd.R_far (p := ⟨gb116014, 1, none⟩) (Kd.R_far (p := ⟨gb116014, 0, none⟩) (Kd.R_types HO116007.out BK116014.out (by decide)) (fun _ hk => hk.2) (.int .i64 t116002)) (fun _ hk => hk.2) (.int .i64 t116003)) (fun _ hk => hk.2) (.int .i64 t116004)) (fun _ hk => hk.2) (.slice Ao49 t116005.length co49)) (fun _ hk => hk.2) (.int .i64 t116008)) (fun _ hk => hk.2) (.int .i64 t116009)) (fun _ hk => hk.2) (.int .i64 t116010)) (fun _ hk => hk.2) (.int .i64 t116011)) (fun _ hk => hk.2) (.bool t116012)) (fun _ h_ => h_.1))) (by decide)) hk (fun _ h => h.2)) (fun _ h => h.1)); have n2_ := mk (KeepBut.blk hk (g' := gb116014) (o := .cells #[.int .i64 t116002, .int .i64 t116003, .int .i64 t116004, .slice Ao49 t116005.length co49, .int .i64 t116008, .int .i64 t116009, .int .i64 t116010, .int .i64 t116011, .bool t116012] 55 (0, 0)) (by refine blk_put (cs := #[.int .i64 t116002, .int .i64 t116003, .int .i64 t116004, .slice Ao49 t116005.length co49, .int .i64 t116008, .int .i64 t116009, .int .i64 t116010, .int .i64 t116011, .bool false]) ?_ 8 _ rfl; refine blk_put (cs := #[.int .i64 t116002, .int .i64 t116003, .int .i64 t116004, .slice Ao49 t116005.length co49, .int .i64 t116008, .int .i64 t116009, .int .i64 t116010, .int .i64 0, .bool false]) ?_ 7 _ rfl; refine blk_put (cs := #[.int .i64 t116002, .int .i64 t116003, .int .i64 t116004, .slice Ao49 t116005.length co49, .int .i64 t116008, .int .i64 t116009, .int .i64 0, .int .i64 0, .bool false]) ?_ 6 _ rfl; refine blk_put (cs := #[.int .i64 t116002, .int .i64 t116003, .int .i64 t116004, .slice Ao49 t116005.length co49, .int .i64 t116008, .int .i64 0, .int .i64 0, .int .i64 0, .bool false]) ?_ 5 _ rfl; refine blk_put (cs := #[.int .i64 t116002, .int .i64 t116003, .int .i64 t116004, .slice Ao49 t116005.length co49, .int .i64 0, .int .i64 0, .int .i64 0, .int .i64 0, .bool false]) ?_ 4 _ rfl; refine blk_put (cs := #[.int .i64 t116002, .int .i64 t116003, .int .i64 t116004, .slice none 0 0, .int .i64 0, .int .i64 0, .int .i64 0, .int .i64 0, .bool false]) ?_ 3 _ rfl; refine blk_put (cs := #[.int .i64 t116002, .int .i64 t116003, .int .i64 0, .slice none 0 0, .int .i64 0, .int .i64 0, .int .i64 0, .int .i64 0, .bool false]) ?_ 2 _ rfl; refine blk_put (cs := #[.int .i64 t116002, .int .i64 0, .int .i64 0, .slice none 0 0, .int .i64 0, .int .i64 0, .int .i64 0, .int .i64 0, .bool false]) ?_ 1 _ rfl; refine blk_put (cs := #[.int .i64 0, .int .i64 0, .int .i64 0, .slice none 0 0, .int .i64 0, .int .i64 0, .int .i64 0, .int .i64 0, .bool false]) ?_ 0 _ rfl; exact BK116014.out) NB116014_0.out (by simp)); have n3_ := mk (KeepBut.trans (by repeat (with_reducible first | exact HK.out | refine keep_far ?_ GW116014.out _)) hk (.inl rfl)); have n4_ := mk (hb); have n5_ := mk (hi); clear BK116001; clear HO116007; clear BK116014; clear HK; clear HB; clear HI0; have BK116001 := n0_; have HO116007 := n1_; have BK116014 := n2_; have HK := n3_; have HB := n4_; have HI0 := n5_; clear n0_ n1_ n2_ n3_ n4_ n5_; (try clear hb); (try clear hk); (try clear hi)) | ((with_reducible refine gate_dst (N := 28) rfl ?_); refine Kd.R_lit (Kd.int .i64) _ 3 ?hg (N := 28) ?hd (xs := ([(-16), (-17), 16, 17] : List Int)) (inner := [.int .i64 (-16), .int .i64 (-17), .int .i64 16, .int .i64 17]) (ok := fun _ => True) (okp := fun _ => True) ?hr ?hp (fun _ hk => hk) trivial (Below.refl _ _) (Nat.le_refl _) (by simp) ?_; (case hd => rfl); (case hg => rfl); (case hr => (go_simp; done)); (case hp => exact (Reps.one (show Kd.M (Kd.int .i64) _ _ _ (-16) [.int .i64 (-16)] from rfl) (Reps.one (show Kd.M (Kd.int .i64) _ _ _ (-17) [.int .i64 (-17)] from rfl) (Reps.one (show Kd.M (Kd.int .i64) _ _ _ 16 [.int .i64 16] from rfl) (Reps.one (show Kd.M (Kd.int .i64) _ _ _ 17 [.int .i64 17] from rfl) (Reps.none _ _)))))); intro v116028 w51 ho52 hb hg_ hnew_; clear hg_ hnew_; (rw [← Ny116027.out] at ho52); have n0_ := mk (Kd.R_elder' HO116007.out (Kd.R_base ho52) hb); have n1_ := mk (Kd.R_lower (Kd.R_new' ho52 (Kd.R_lt HO116007.out)) (keep_size (w := w) (g := g) (row := none) HK.out)); have n2_ := mk (IsS144.below HI0.out hb); have n3_ := mk (blk_below BK116001.out hb); have n4_ := mk (blk_below BK116014.out hb); have n5_ := mk (KeepBut.trans HK.out (KeepBut.of_below hb g none) (.inl rfl)); have n6_ := mk (below_step HB.out hb); clear HO116007; clear HI0; clear BK116001; clear BK116014; clear HK; clear HB; have HO116007 := n0_; have HO116029 := n1_; have HI0 := n2_; have BK116001 := n3_; have BK116014 := n4_; have HK := n5_; have HB := n6_; clear n0_ n1_ n2_ n3_ n4_ n5_ n6_; clear hb ho52; obtain ⟨Ao53, co53, eo53⟩ := Kd.R_slice HO116029.out; subst eo53) | ((with_reducible refine gate_callee (f := 147) rfl ?_); refine goesL_ (some 29) rfl rfl Try.func147 (by kernel_rfl) rfl #[.pointer (some ⟨g, 0, none⟩), .slice Ao53 y116027.length co53] rfl (by (try simp only [List.map_toArray, List.map_cons, List.map_nil]); rfl) ?_; (with_reducible refine (spec_reader_one.calls k g s0_0 t116016 _ _ y116027 t116030 t116031 w0 _ ?side1 ?side2 ?side3 ?side4 ?side5 A42.out).mono ?_); (case side1 => repeat (with_reducible exact HI0.out)); (case side2 => repeat (with_reducible exact HB.out)); (case side3 => repeat (exact (Kd.R_reads' HO116029.out).2.2)); (case side4 => exact (Kd.R_reads' HO116029.out).2.1); (case side5 => exact far_slice (IsS144.own_ne HI0.out HO116029.out (by decide))); rintro e w54 ⟨rfl, hi, hb, hk⟩; refine ⟨_, rfl, ?_⟩; have n0_ := mk (KeepBut.blk hk (g' := gb116001) (o := .cells #[.int .i64 0, .int .i64 0, .int .i64 0, .slice none 0 0, .int .i64 0, .int .i64 0, .int .i64 0, .int .i64 0, .bool false] 55 (0, 0)) BK116001.out NB116001_0.out (by simp)); have n1_ := mk (Kd.R_mono (Kd.R_keep (IsS144.apart (show IsS144 w0 _ g s0_0 t116016 from by exact HI0.out) HO116007.out (by decide)) hk (fun _ h => h.2)) (fun _ h => h.1)); have n2_ := mk (KeepBut.blk hk (g' := gb116014) (o := .cells #[.int .i64 t116002, .int .i64 t116003, .int .i64 t116004, .slice Ao49 t116005.length co49, .int .i64 t116008, .int .i64 t116009, .int .i64 t116010, .int .i64 t116011, .bool t116012] 55 (0, 0)) BK116014.out NB116014_0.out (by simp)); have n3_ := mk (Kd.R_mono (Kd.R_keep (IsS144.apart (show IsS144 w0 _ g s0_0 t116016 from by exact HI0.out) HO116029.out (by decide)) hk (fun _ h => h.2)) (fun _ h => h.1)); have n4_ := mk (KeepBut.trans HK.out hk (.inl rfl)); have n5_ := mk (hb); have n6_ := mk (hi); clear BK116001; clear HO116007; clear BK116014; clear HO116029; clear HK; clear HB; clear HI0; have BK116001 := n0_; have HO116007 := n1_; have BK116014 := n2_; have HO116029 := n3_; have HK := n4_; have HB := n5_; have HI0 := n6_; clear n0_ n1_ n2_ n3_ n4_ n5_ n6_; (try clear hb); (try clear hk); (try clear hi); obtain ⟨hcz55_0, hcz55_1, hcz55_2, hcz55_3, hcz55_4, hcz55_5, hcz55_6, hcz55_7, hcz55_8, hfz55_0, hfz55_1, hfz55_2, hfz55_3, hfz55_4, hfz55_5, hfz55_6, hfz55_7, hfz55_8⟩ := c9 BK116014.out; have hnb56 := NB116001_0.out; have hnc56 := NB0_116001.out; obtain ⟨hcz57_0, hcz57_1, hcz57_2, hcz57_3, hcz57_4, hcz57_5, hcz57_6, hcz57_7, hcz57_8, hfz57_0, hfz57_1, hfz57_2, hfz57_3, hfz57_4, hfz57_5, hfz57_6, hfz57_7, hfz57_8⟩ := c9 BK116001.out))
    refine bodyPost_ret (results_cell_row rfl _ _ gb116001 55 #[.int .i64 t116002, .int .i64 t116003, .int .i64 t116004, .slice Ao49 t116005.length co49, .int .i64 t116030, .int .i64 t116009, .int .i64 t116010, .int .i64 t116011, .bool t116012] (0, 0) _ rfl (by refine blk_put (cs := #[.int .i64 t116002, .int .i64 t116003, .int .i64 t116004, .slice Ao49 t116005.length co49, .int .i64 t116030, .int .i64 t116009, .int .i64 t116010, .int .i64 t116011, .bool false]) ?_ 8 _ rfl; refine blk_put (cs := #[.int .i64 t116002, .int .i64 t116003, .int .i64 t116004, .slice Ao49 t116005.length co49, .int .i64 t116030, .int .i64 t116009, .int .i64 t116010, .int .i64 0, .bool false]) ?_ 7 _ rfl; refine blk_put (cs := #[.int .i64 t116002, .int .i64 t116003, .int .i64 t116004, .slice Ao49 t116005.length co49, .int .i64 t116030, .int .i64 t116009, .int .i64 0, .int .i64 0, .bool false]) ?_ 6 _ rfl; refine blk_put (cs := #[.int .i64 t116002, .int .i64 t116003, .int .i64 t116004, .slice Ao49 t116005.length co49, .int .i64 t116030, .int .i64 0, .int .i64 0, .int .i64 0, .bool false]) ?_ 5 _ rfl; refine blk_put (cs := #[.int .i64 t116002, .int .i64 t116003, .int .i64 t116004, .slice Ao49 t116005.length co49, .int .i64 0, .int .i64 0, .int .i64 0, .int .i64 0, .bool false]) ?_ 4 _ rfl; refine blk_put (cs := #[.int .i64 t116002, .int .i64 t116003, .int .i64 t116004, .slice none 0 0, .int .i64 0, .int .i64 0, .int .i64 0, .int .i64 0, .bool false]) ?_ 3 _ rfl; refine blk_put (cs := #[.int .i64 t116002, .int .i64 t116003, .int .i64 0, .slice none 0 0, .int .i64 0, .int .i64 0, .int .i64 0, .int .i64 0, .bool false]) ?_ 2 _ rfl; refine blk_put (cs := #[.int .i64 t116002, .int .i64 0, .int .i64 0, .slice none 0 0, .int .i64 0, .int .i64 0, .int .i64 0, .int .i64 0, .bool false]) ?_ 1 _ rfl; refine blk_put (cs := #[.int .i64 0, .int .i64 0, .int .i64 0, .slice none 0 0, .int .i64 0, .int .i64 0, .int .i64 0, .int .i64 0, .bool false]) ?_ 0 _ rfl; refine blk_far ?_ NB116001_116014.out _; exact BK116001.out) Try.underlying55 rfl (by kernel_rfl)) rfl ?_
    exact ⟨_, by rfl, Kd.Q_of_R (by exact Kd.R_mono (Kd.R_far (p := ⟨gb116001, 8, none⟩) (Kd.R_far (p := ⟨gb116001, 7, none⟩) (Kd.R_far (p := ⟨gb116001, 6, none⟩) (Kd.R_far (p := ⟨gb116001, 5, none⟩) (Kd.R_far (p := ⟨gb116001, 4, none⟩) (Kd.R_far (p := ⟨gb116001, 3, none⟩) (Kd.R_far (p := ⟨gb116001, 2, none⟩) (Kd.R_far (p := ⟨gb116001, 1, none⟩) (Kd.R_far (p := ⟨gb116001, 0, none⟩) (Kd.R_far (p := ⟨gb116014, 4, none⟩) (Kd.R_types (Kd.R_types HO116007.out BK116014.out (by decide)) BK116001.out (by decide)) (fun _ hk => hk.1.2) (.int .i64 t116030)) (fun _ hk => hk.2) (.int .i64 t116002)) (fun _ hk => hk.2) (.int .i64 t116003)) (fun _ hk => hk.2) (.int .i64 t116004)) (fun _ hk => hk.2) (.slice Ao49 t116005.length co49)) (fun _ hk => hk.2) (.int .i64 t116030)) (fun _ hk => hk.2) (.int .i64 t116009)) (fun _ hk => hk.2) (.int .i64 t116010)) (fun _ hk => hk.2) (.int .i64 t116011)) (fun _ hk => hk.2) (.bool t116012)) (fun _ hk => trivial)), by repeat (with_reducible first | exact HI0.out | refine IsS144.far ?_ NB0_116001.out _ | refine IsS144.far ?_ NB0_116014.out _), by repeat (with_reducible first | exact HB.out | refine below_set ?_ GE116001.out | refine below_set ?_ GE116014.out), by repeat (with_reducible first | exact HK.out | refine keep_far ?_ GW116001.out _ | refine keep_far ?_ GW116014.out _)⟩
   ·rw [if_neg c41] at H
    have c41b0 : (t116015 == 2) = false := beq_eq_false_iff_ne.mpr c41
    have c41b1 : (t116015 != 2) = true := bne_iff_ne.mpr c41
    by_cases c58 : t116015 = 3
    ·rw [if_pos c58] at H
     have c58b0 : (t116015 == 3) = true := beq_iff_eq.mpr c58
     have c58b1 : (t116015 != 3) = false := bne_eq_false_iff_eq.mpr c58
     clear c58
     replace H := Option.bind_eq_some_iff.mp H
     obtain ⟨⟨t116032, t116033, t116034, t116035, t116038⟩, A590, H⟩ := H
     replace H : (some (t116032, t116033, t116034, t116035, t116008, t116009, t116010, t116011, t116012, t116038)) = some (r1, r2, r3, r4, r5, r6, r7, r8, r9, r10) := H
     have A59 := mk A590
     clear A590
     simp only [Option.some.injEq, Prod.mk.injEq] at H
     obtain ⟨rfl, rfl, rfl, rfl, rfl, rfl, rfl, rfl, rfl, rfl⟩ := H
     go_enter Try.func115, Try.ntmps115
     go_wp2_with (first | ((with_reducible refine gate_dst (N := 4) rfl ?_); refine box_event ?hg (N := 4) ?hd (cs := #[.int .i64 0, .int .i64 0, .int .i64 0, .slice none 0 0, .int .i64 0, .int .i64 0, .int .i64 0, .int .i64 0, .bool false]) (t := 55) ?hr ?_; (case hd => rfl); (case hg => rfl); (case hr => (go_simp; done)); intro gb116001 hg w60 hbox hb; have n0_ := mk (IsS144.below HI0.out hb); have n1_ := mk (KeepBut.trans HK.out (KeepBut.of_below hb g none) (.inl rfl)); have n2_ := mk (below_step HB.out hb); have n3_ := mk (hbox); have n4_ := mk ((by rw [hg]; exact (keep_size (w := w) (g := g) (row := none) HK.out) : w.heap.size ≤ gb116001)); have n5_ := mk ((Nat.le_trans HW0.out (by rw [hg]; exact (keep_size (w := w) (g := g) (row := none) HK.out) : w.heap.size ≤ gb116001) : w0.heap.size ≤ gb116001)); have n6_ := mk ((by rw [hg]; exact Nat.ne_of_lt (IsS144.lt (show IsS144 w0 _ g s0_0 s0_1 from by exact HI0.out)) : g ≠ gb116001)); have n7_ := mk ((by rw [hg]; exact Nat.ne_of_gt (IsS144.lt (show IsS144 w0 _ g s0_0 s0_1 from by exact HI0.out)) : gb116001 ≠ g)); clear HI0; clear HK; clear HB; have HI0 := n0_; have HK := n1_; have HB := n2_; have BK116001 := n3_; have GW116001 := n4_; have GE116001 := n5_; have NB0_116001 := n6_; have NB116001_0 := n7_; clear n0_ n1_ n2_ n3_ n4_ n5_ n6_ n7_; clear hb hbox hg) | ((with_reducible refine gate_callee (f := 146) rfl ?_); refine goesL_ (some 10) rfl rfl Try.func146 (by kernel_rfl) rfl #[.pointer (some ⟨g, 0, none⟩), .int .i64 ji4] rfl (by (try simp only [List.map_toArray, List.map_cons, List.map_nil]); rfl) ?_; (with_reducible refine (spec_randomLayer.calls k g s0_0 s0_1 ji4 t116002 t116003 t116004 t116005 t116008 t116009 t116010 t116011 t116012 t116013 w0 _ ?side1 ?side2 A5.out).mono ?_); (case side1 => repeat (with_reducible exact HI0.out)); (case side2 => repeat (with_reducible exact HB.out)); rintro e w61 ⟨v116006, rfl, ho0, hi, hb, hk⟩; refine ⟨_, rfl, ?_⟩; have n0_ := mk (KeepBut.blk hk (g' := gb116001) (o := .cells #[.int .i64 0, .int .i64 0, .int .i64 0, .slice none 0 0, .int .i64 0, .int .i64 0, .int .i64 0, .int .i64 0, .bool false] 55 (0, 0)) BK116001.out NB116001_0.out (by simp)); have n1_ := mk (Kd.R_lower ho0 (keep_size (w := w) (g := g) (row := none) HK.out)); have n2_ := mk (KeepBut.trans HK.out hk (.inl rfl)); have n3_ := mk (hb); have n4_ := mk (hi); clear BK116001; clear HK; clear HB; clear HI0; have BK116001 := n0_; have HO116007 := n1_; have HK := n2_; have HB := n3_; have HI0 := n4_; clear n0_ n1_ n2_ n3_ n4_; (try clear hb); (try clear hk); (try clear hi); (try clear ho0)) | ((with_reducible refine gate_dst (N := 5) rfl ?_); refine box_event ?hg (N := 5) ?hd (cs := #[.int .i64 0, .int .i64 0, .int .i64 0, .slice none 0 0, .int .i64 0, .int .i64 0, .int .i64 0, .int .i64 0, .bool false]) (t := 55) ?hr ?_; (case hd => rfl); (case hg => rfl); (case hr => (go_simp; done)); intro gb116014 hg w62 hbox hb; have n0_ := mk (Kd.R_below HO116007.out hb); have n1_ := mk (IsS144.below HI0.out hb); have n2_ := mk (blk_below BK116001.out hb); have n3_ := mk (KeepBut.trans HK.out (KeepBut.of_below hb g none) (.inl rfl)); have n4_ := mk (below_step HB.out hb); have n5_ := mk (hbox); have n6_ := mk ((by rw [hg]; exact (keep_size (w := w) (g := g) (row := none) HK.out) : w.heap.size ≤ gb116014)); have n7_ := mk ((Nat.le_trans HW0.out (by rw [hg]; exact (keep_size (w := w) (g := g) (row := none) HK.out) : w.heap.size ≤ gb116014) : w0.heap.size ≤ gb116014)); have n8_ := mk ((by rw [hg]; exact Nat.ne_of_lt (blk_lt BK116001.out) : gb116001 ≠ gb116014)); have n9_ := mk ((by rw [hg]; exact Nat.ne_of_gt (blk_lt BK116001.out) : gb116014 ≠ gb116001)); have n10_ := mk ((by rw [hg]; exact Nat.ne_of_lt (IsS144.lt (show IsS144 w0 _ g s0_0 t116013 from by exact HI0.out)) : g ≠ gb116014)); have n11_ := mk ((by rw [hg]; exact Nat.ne_of_gt (IsS144.lt (show IsS144 w0 _ g s0_0 t116013 from by exact HI0.out)) : gb116014 ≠ g)); clear HO116007; clear HI0; clear BK116001; clear HK; clear HB; have HO116007 := n0_; have HI0 := n1_; have BK116001 := n2_; have HK := n3_; have HB := n4_; have BK116014 := n5_; have GW116014 := n6_; have GE116014 := n7_; have NB116001_116014 := n8_; have NB116014_116001 := n9_; have NB0_116014 := n10_; have NB116014_0 := n11_; clear n0_ n1_ n2_ n3_ n4_ n5_ n6_ n7_ n8_ n9_ n10_ n11_; clear hb hbox hg; have hnb63 := NB116014_116001.out; have hnc63 := NB116001_116014.out; have hnb64 := NB116014_0.out; have hnc64 := NB0_116014.out; obtain ⟨hcz65_0, hcz65_1, hcz65_2, hcz65_3, hcz65_4, hcz65_5, hcz65_6, hcz65_7, hcz65_8, hfz65_0, hfz65_1, hfz65_2, hfz65_3, hfz65_4, hfz65_5, hfz65_6, hfz65_7, hfz65_8⟩ := c9 BK116014.out; obtain ⟨Ao66, co66, eo66⟩ := Kd.R_slice HO116007.out; subst eo66) | ((with_reducible refine gate_callee (f := 127) rfl ?_); refine goesL_ (some 12) rfl rfl Try.func127 (by kernel_rfl) rfl #[.pointer (some ⟨g, 0, none⟩), .int .i64 24] rfl (by (try simp only [List.map_toArray, List.map_cons, List.map_nil]); rfl) ?_; (with_reducible refine (spec_reader_pick.calls k g s0_0 t116013 24 t116015 t116016 w0 _ ?side1 ?side2 A6.out).mono ?_); (case side1 => repeat (with_reducible first | exact HI0.out | refine IsS144.far ?_ NB0_116014.out _)); (case side2 => repeat (with_reducible first | exact HB.out | refine below_set ?_ GE116014.out)); rintro e w67 ⟨rfl, hi, hb, hk⟩; refine ⟨_, rfl, ?_⟩; have n0_ := mk (KeepBut.blk hk (g' := gb116001) (o := .cells #[.int .i64 0, .int .i64 0, .int .i64 0, .slice none 0 0, .int .i64 0, .int .i64 0, .int .i64 0, .int .i64 0, .bool false] 55 (0, 0)) (by refine blk_far ?_ NB116001_116014.out _; refine blk_far ?_ NB116001_116014.out _; refine blk_far ?_ NB116001_116014.out _; refine blk_far ?_ NB116001_116014.out _; refine blk_far ?_ NB116001_116014.out _; refine blk_far ?_ NB116001_116014.out _; refine blk_far ?_ NB116001_116014.out _; refine blk_far ?_ NB116001_116014.out _; refine blk_far ?_ NB116001_116014.out _; exact BK116001.out) NB116001_0.out (by simp)); have n1_ := mk (Kd.R_mono (Kd.R_keep (IsS144.apart (show IsS144 w0 _ g s0_0 t116013 from by repeat (with_reducible first | exact HI0.out | refine IsS144.far ?_ NB0_116014.out _)) (by exact (Kd.R_mono (Kd.R_far (p := ⟨gb116014, 8, none⟩) (Kd.R_far (p := ⟨gb116014, 7, none⟩) (Kd.R_far (p := ⟨gb116014, 6, none⟩) (Kd.R_far (p := ⟨gb116014, 5, none⟩) (Kd.R_far (p := ⟨gb116014, 4, none⟩) (Kd.R_far (p := ⟨gb116014, 3, none⟩) (Kd.R_far (p := ⟨gb116014, 2, none⟩) (Kd.R_far (p := ⟨gb116014, 1, none⟩) (Kd.R_far (p := ⟨gb116014, 0, none⟩) (Kd.R_types HO116007.out BK116014.out (by decide)) (fun _ hk => hk.2) (.int .i64 t116002)) (fun _ hk => hk.2) (.int .i64 t116003)) (fun _ hk => hk.2) (.int .i64 t116004)) (fun _ hk => hk.2) (.slice Ao66 t116005.length co66)) (fun _ hk => hk.2) (.int .i64 t116008)) (fun _ hk => hk.2) (.int .i64 t116009)) (fun _ hk => hk.2) (.int .i64 t116010)) (fun _ hk => hk.2) (.int .i64 t116011)) (fun _ hk => hk.2) (.bool t116012)) (fun _ h_ => h_.1))) (by decide)) hk (fun _ h => h.2)) (fun _ h => h.1)); have n2_ := mk (KeepBut.blk hk (g' := gb116014) (o := .cells #[.int .i64 t116002, .int .i64 t116003, .int .i64 t116004, .slice Ao66 t116005.length co66, .int .i64 t116008, .int .i64 t116009, .int .i64 t116010, .int .i64 t116011, .bool t116012] 55 (0, 0)) (by refine blk_put (cs := #[.int .i64 t116002, .int .i64 t116003, .int .i64 t116004, .slice Ao66 t116005.length co66, .int .i64 t116008, .int .i64 t116009, .int .i64 t116010, .int .i64 t116011, .bool false]) ?_ 8 _ rfl; refine blk_put (cs := #[.int .i64 t116002, .int .i64 t116003, .int .i64 t116004, .slice Ao66 t116005.length co66, .int .i64 t116008, .int .i64 t116009, .int .i64 t116010, .int .i64 0, .bool false]) ?_ 7 _ rfl; refine blk_put (cs := #[.int .i64 t116002, .int .i64 t116003, .int .i64 t116004, .slice Ao66 t116005.length co66, .int .i64 t116008, .int .i64 t116009, .int .i64 0, .int .i64 0, .bool false]) ?_ 6 _ rfl; refine blk_put (cs := #[.int .i64 t116002, .int .i64 t116003, .int .i64 t116004, .slice Ao66 t116005.length co66, .int .i64 t116008, .int .i64 0, .int .i64 0, .int .i64 0, .bool false]) ?_ 5 _ rfl; refine blk_put (cs := #[.int .i64 t116002, .int .i64 t116003, .int .i64 t116004, .slice Ao66 t116005.length co66, .int .i64 0, .int .i64 0, .int .i64 0, .int .i64 0, .bool false]) ?_ 4 _ rfl; refine blk_put (cs := #[.int .i64 t116002, .int .i64 t116003, .int .i64 t116004, .slice none 0 0, .int .i64 0, .int .i64 0, .int .i64 0, .int .i64 0, .bool false]) ?_ 3 _ rfl; refine blk_put (cs := #[.int .i64 t116002, .int .i64 t116003, .int .i64 0, .slice none 0 0, .int .i64 0, .int .i64 0, .int .i64 0, .int .i64 0, .bool false]) ?_ 2 _ rfl; refine blk_put (cs := #[.int .i64 t116002, .int .i64 0, .int .i64 0, .slice none 0 0, .int .i64 0, .int .i64 0, .int .i64 0, .int .i64 0, .bool false]) ?_ 1 _ rfl; refine blk_put (cs := #[.int .i64 0, .int .i64 0, .int .i64 0, .slice none 0 0, .int .i64 0, .int .i64 0, .int .i64 0, .int .i64 0, .bool false]) ?_ 0 _ rfl; exact BK116014.out) NB116014_0.out (by simp)); have n3_ := mk (KeepBut.trans (by repeat (with_reducible first | exact HK.out | refine keep_far ?_ GW116014.out _)) hk (.inl rfl)); have n4_ := mk (hb); have n5_ := mk (hi); clear BK116001; clear HO116007; clear BK116014; clear HK; clear HB; clear HI0; have BK116001 := n0_; have HO116007 := n1_; have BK116014 := n2_; have HK := n3_; have HB := n4_; have HI0 := n5_; clear n0_ n1_ n2_ n3_ n4_ n5_; (try clear hb); (try clear hk); (try clear hi)) | ((with_reducible refine gate_callee (f := 94) rfl ?_); refine goesL_ (some 34) rfl rfl Try.func94 (by kernel_rfl) rfl #[.pointer (some ⟨g, 0, none⟩)] rfl (by (try simp only [List.map_toArray, List.map_cons, List.map_nil]); rfl) ?_; (with_reducible refine (spec_anyImage.calls k g s0_0 t116016 t116032 t116033 t116034 t116035 t116038 w0 _ ?side1 ?side2 A59.out).mono ?_); (case side1 => repeat (with_reducible exact HI0.out)); (case side2 => repeat (with_reducible exact HB.out)); rintro e w68 ⟨v116036, rfl, ho0, hi, hb, hk⟩; refine ⟨_, rfl, ?_⟩; have n0_ := mk (KeepBut.blk hk (g' := gb116001) (o := .cells #[.int .i64 0, .int .i64 0, .int .i64 0, .slice none 0 0, .int .i64 0, .int .i64 0, .int .i64 0, .int .i64 0, .bool false] 55 (0, 0)) BK116001.out NB116001_0.out (by simp)); have n1_ := mk (Kd.R_mono (Kd.R_told (Kd.R_oldK (IsS144.apart (show IsS144 w0 _ g s0_0 t116016 from by exact HI0.out) HO116007.out (by decide)) hk) (Kd.Q_base ho0)) (fun _ h_ => h_.1)); have n2_ := mk (KeepBut.blk hk (g' := gb116014) (o := .cells #[.int .i64 t116002, .int .i64 t116003, .int .i64 t116004, .slice Ao66 t116005.length co66, .int .i64 t116008, .int .i64 t116009, .int .i64 t116010, .int .i64 t116011, .bool t116012] 55 (0, 0)) BK116014.out NB116014_0.out (by simp)); have n3_ := mk (Kd.Q_lower (Kd.Q_new' ho0 (Kd.R_lt HO116007.out)) (keep_size (w := w) (g := g) (row := none) HK.out)); have n4_ := mk (KeepBut.trans HK.out hk (.inl rfl)); have n5_ := mk (hb); have n6_ := mk (hi); clear BK116001; clear HO116007; clear BK116014; clear HK; clear HB; clear HI0; have BK116001 := n0_; have HO116007 := n1_; have BK116014 := n2_; have HO116037 := n3_; have HK := n4_; have HB := n5_; have HI0 := n6_; clear n0_ n1_ n2_ n3_ n4_ n5_ n6_; (try clear hb); (try clear hk); (try clear hi); (try clear ho0); obtain ⟨hcz69_0, hcz69_1, hcz69_2, hcz69_3, hcz69_4, hcz69_5, hcz69_6, hcz69_7, hcz69_8, hfz69_0, hfz69_1, hfz69_2, hfz69_3, hfz69_4, hfz69_5, hfz69_6, hfz69_7, hfz69_8⟩ := c9 BK116014.out; obtain ⟨Ao70, co70, eo70, _⟩ := Kd.Q_slice HO116037.out; subst eo70; have hnb71 := NB116001_0.out; have hnc71 := NB0_116001.out; obtain ⟨hcz72_0, hcz72_1, hcz72_2, hcz72_3, hcz72_4, hcz72_5, hcz72_6, hcz72_7, hcz72_8, hfz72_0, hfz72_1, hfz72_2, hfz72_3, hfz72_4, hfz72_5, hfz72_6, hfz72_7, hfz72_8⟩ := c9 BK116001.out))
     refine bodyPost_ret (results_cell_row rfl _ _ gb116001 55 #[.int .i64 t116032, .int .i64 t116033, .int .i64 t116034, .slice Ao70 t116035.length co70, .int .i64 t116008, .int .i64 t116009, .int .i64 t116010, .int .i64 t116011, .bool t116012] (0, 0) _ rfl (by refine blk_put (cs := #[.int .i64 t116032, .int .i64 t116033, .int .i64 t116034, .slice Ao70 t116035.length co70, .int .i64 t116008, .int .i64 t116009, .int .i64 t116010, .int .i64 t116011, .bool false]) ?_ 8 _ rfl; refine blk_put (cs := #[.int .i64 t116032, .int .i64 t116033, .int .i64 t116034, .slice Ao70 t116035.length co70, .int .i64 t116008, .int .i64 t116009, .int .i64 t116010, .int .i64 0, .bool false]) ?_ 7 _ rfl; refine blk_put (cs := #[.int .i64 t116032, .int .i64 t116033, .int .i64 t116034, .slice Ao70 t116035.length co70, .int .i64 t116008, .int .i64 t116009, .int .i64 0, .int .i64 0, .bool false]) ?_ 6 _ rfl; refine blk_put (cs := #[.int .i64 t116032, .int .i64 t116033, .int .i64 t116034, .slice Ao70 t116035.length co70, .int .i64 t116008, .int .i64 0, .int .i64 0, .int .i64 0, .bool false]) ?_ 5 _ rfl; refine blk_put (cs := #[.int .i64 t116032, .int .i64 t116033, .int .i64 t116034, .slice Ao70 t116035.length co70, .int .i64 0, .int .i64 0, .int .i64 0, .int .i64 0, .bool false]) ?_ 4 _ rfl; refine blk_put (cs := #[.int .i64 t116032, .int .i64 t116033, .int .i64 t116034, .slice none 0 0, .int .i64 0, .int .i64 0, .int .i64 0, .int .i64 0, .bool false]) ?_ 3 _ rfl; refine blk_put (cs := #[.int .i64 t116032, .int .i64 t116033, .int .i64 0, .slice none 0 0, .int .i64 0, .int .i64 0, .int .i64 0, .int .i64 0, .bool false]) ?_ 2 _ rfl; refine blk_put (cs := #[.int .i64 t116032, .int .i64 0, .int .i64 0, .slice none 0 0, .int .i64 0, .int .i64 0, .int .i64 0, .int .i64 0, .bool false]) ?_ 1 _ rfl; refine blk_put (cs := #[.int .i64 0, .int .i64 0, .int .i64 0, .slice none 0 0, .int .i64 0, .int .i64 0, .int .i64 0, .int .i64 0, .bool false]) ?_ 0 _ rfl; refine blk_far ?_ NB116001_116014.out _; refine blk_far ?_ NB116001_116014.out _; refine blk_far ?_ NB116001_116014.out _; refine blk_far ?_ NB116001_116014.out _; exact BK116001.out) Try.underlying55 rfl (by kernel_rfl)) rfl ?_
     exact ⟨_, by rfl, by exact Kd.Q_mono (Kd.Q_far (p := ⟨gb116001, 8, none⟩) (Kd.Q_far (p := ⟨gb116001, 7, none⟩) (Kd.Q_far (p := ⟨gb116001, 6, none⟩) (Kd.Q_far (p := ⟨gb116001, 5, none⟩) (Kd.Q_far (p := ⟨gb116001, 4, none⟩) (Kd.Q_far (p := ⟨gb116001, 3, none⟩) (Kd.Q_far (p := ⟨gb116001, 2, none⟩) (Kd.Q_far (p := ⟨gb116001, 1, none⟩) (Kd.Q_far (p := ⟨gb116001, 0, none⟩) (Kd.Q_far (p := ⟨gb116014, 3, none⟩) (Kd.Q_far (p := ⟨gb116014, 2, none⟩) (Kd.Q_far (p := ⟨gb116014, 1, none⟩) (Kd.Q_far (p := ⟨gb116014, 0, none⟩) (Kd.Q_types (Kd.Q_types HO116037.out BK116014.out (by decide)) BK116001.out (by decide)) (fun _ hk => hk.1.2) (.int .i64 t116032)) (fun _ hk => hk.1.2) (.int .i64 t116033)) (fun _ hk => hk.1.2) (.int .i64 t116034)) (fun _ hk => hk.1.2) (.slice Ao70 t116035.length co70)) (fun _ hk => hk.2) (.int .i64 t116032)) (fun _ hk => hk.2) (.int .i64 t116033)) (fun _ hk => hk.2) (.int .i64 t116034)) (fun _ hk => hk.2) (.slice Ao70 t116035.length co70)) (fun _ hk => hk.2) (.int .i64 t116008)) (fun _ hk => hk.2) (.int .i64 t116009)) (fun _ hk => hk.2) (.int .i64 t116010)) (fun _ hk => hk.2) (.int .i64 t116011)) (fun _ hk => hk.2) (.bool t116012)) (fun _ hk => trivial), by repeat (with_reducible first | exact HI0.out | refine IsS144.far ?_ NB0_116001.out _ | refine IsS144.far ?_ NB0_116014.out _), by repeat (with_reducible first | exact HB.out | refine below_set ?_ GE116001.out | refine below_set ?_ GE116014.out), by repeat (with_reducible first | exact HK.out | refine keep_far ?_ GW116001.out _ | refine keep_far ?_ GW116014.out _)⟩
    ·rw [if_neg c58] at H
     have c58b0 : (t116015 == 3) = false := beq_eq_false_iff_ne.mpr c58
     have c58b1 : (t116015 != 3) = true := bne_iff_ne.mpr c58
     simp only [Option.some.injEq, Prod.mk.injEq] at H
     obtain ⟨rfl, rfl, rfl, rfl, rfl, rfl, rfl, rfl, rfl, rfl⟩ := H
     go_enter Try.func115, Try.ntmps115
     go_wp2_with (first | ((with_reducible refine gate_dst (N := 4) rfl ?_); refine box_event ?hg (N := 4) ?hd (cs := #[.int .i64 0, .int .i64 0, .int .i64 0, .slice none 0 0, .int .i64 0, .int .i64 0, .int .i64 0, .int .i64 0, .bool false]) (t := 55) ?hr ?_; (case hd => rfl); (case hg => rfl); (case hr => (go_simp; done)); intro gb116001 hg w73 hbox hb; have n0_ := mk (IsS144.below HI0.out hb); have n1_ := mk (KeepBut.trans HK.out (KeepBut.of_below hb g none) (.inl rfl)); have n2_ := mk (below_step HB.out hb); have n3_ := mk (hbox); have n4_ := mk ((by rw [hg]; exact (keep_size (w := w) (g := g) (row := none) HK.out) : w.heap.size ≤ gb116001)); have n5_ := mk ((Nat.le_trans HW0.out (by rw [hg]; exact (keep_size (w := w) (g := g) (row := none) HK.out) : w.heap.size ≤ gb116001) : w0.heap.size ≤ gb116001)); have n6_ := mk ((by rw [hg]; exact Nat.ne_of_lt (IsS144.lt (show IsS144 w0 _ g s0_0 s0_1 from by exact HI0.out)) : g ≠ gb116001)); have n7_ := mk ((by rw [hg]; exact Nat.ne_of_gt (IsS144.lt (show IsS144 w0 _ g s0_0 s0_1 from by exact HI0.out)) : gb116001 ≠ g)); clear HI0; clear HK; clear HB; have HI0 := n0_; have HK := n1_; have HB := n2_; have BK116001 := n3_; have GW116001 := n4_; have GE116001 := n5_; have NB0_116001 := n6_; have NB116001_0 := n7_; clear n0_ n1_ n2_ n3_ n4_ n5_ n6_ n7_; clear hb hbox hg) | ((with_reducible refine gate_callee (f := 146) rfl ?_); refine goesL_ (some 10) rfl rfl Try.func146 (by kernel_rfl) rfl #[.pointer (some ⟨g, 0, none⟩), .int .i64 ji4] rfl (by (try simp only [List.map_toArray, List.map_cons, List.map_nil]); rfl) ?_; (with_reducible refine (spec_randomLayer.calls k g s0_0 s0_1 ji4 t116002 t116003 t116004 t116005 t116008 t116009 t116010 t116011 t116012 t116013 w0 _ ?side1 ?side2 A5.out).mono ?_); (case side1 => repeat (with_reducible exact HI0.out)); (case side2 => repeat (with_reducible exact HB.out)); rintro e w74 ⟨v116006, rfl, ho0, hi, hb, hk⟩; refine ⟨_, rfl, ?_⟩; have n0_ := mk (KeepBut.blk hk (g' := gb116001) (o := .cells #[.int .i64 0, .int .i64 0, .int .i64 0, .slice none 0 0, .int .i64 0, .int .i64 0, .int .i64 0, .int .i64 0, .bool false] 55 (0, 0)) BK116001.out NB116001_0.out (by simp)); have n1_ := mk (Kd.R_lower ho0 (keep_size (w := w) (g := g) (row := none) HK.out)); have n2_ := mk (KeepBut.trans HK.out hk (.inl rfl)); have n3_ := mk (hb); have n4_ := mk (hi); clear BK116001; clear HK; clear HB; clear HI0; have BK116001 := n0_; have HO116007 := n1_; have HK := n2_; have HB := n3_; have HI0 := n4_; clear n0_ n1_ n2_ n3_ n4_; (try clear hb); (try clear hk); (try clear hi); (try clear ho0)) | ((with_reducible refine gate_dst (N := 5) rfl ?_); refine box_event ?hg (N := 5) ?hd (cs := #[.int .i64 0, .int .i64 0, .int .i64 0, .slice none 0 0, .int .i64 0, .int .i64 0, .int .i64 0, .int .i64 0, .bool false]) (t := 55) ?hr ?_; (case hd => rfl); (case hg => rfl); (case hr => (go_simp; done)); intro gb116014 hg w75 hbox hb; have n0_ := mk (Kd.R_below HO116007.out hb); have n1_ := mk (IsS144.below HI0.out hb); have n2_ := mk (blk_below BK116001.out hb); have n3_ := mk (KeepBut.trans HK.out (KeepBut.of_below hb g none) (.inl rfl)); have n4_ := mk (below_step HB.out hb); have n5_ := mk (hbox); have n6_ := mk ((by rw [hg]; exact (keep_size (w := w) (g := g) (row := none) HK.out) : w.heap.size ≤ gb116014)); have n7_ := mk ((Nat.le_trans HW0.out (by rw [hg]; exact (keep_size (w := w) (g := g) (row := none) HK.out) : w.heap.size ≤ gb116014) : w0.heap.size ≤ gb116014)); have n8_ := mk ((by rw [hg]; exact Nat.ne_of_lt (blk_lt BK116001.out) : gb116001 ≠ gb116014)); have n9_ := mk ((by rw [hg]; exact Nat.ne_of_gt (blk_lt BK116001.out) : gb116014 ≠ gb116001)); have n10_ := mk ((by rw [hg]; exact Nat.ne_of_lt (IsS144.lt (show IsS144 w0 _ g s0_0 t116013 from by exact HI0.out)) : g ≠ gb116014)); have n11_ := mk ((by rw [hg]; exact Nat.ne_of_gt (IsS144.lt (show IsS144 w0 _ g s0_0 t116013 from by exact HI0.out)) : gb116014 ≠ g)); clear HO116007; clear HI0; clear BK116001; clear HK; clear HB; have HO116007 := n0_; have HI0 := n1_; have BK116001 := n2_; have HK := n3_; have HB := n4_; have BK116014 := n5_; have GW116014 := n6_; have GE116014 := n7_; have NB116001_116014 := n8_; have NB116014_116001 := n9_; have NB0_116014 := n10_; have NB116014_0 := n11_; clear n0_ n1_ n2_ n3_ n4_ n5_ n6_ n7_ n8_ n9_ n10_ n11_; clear hb hbox hg; have hnb76 := NB116014_116001.out; have hnc76 := NB116001_116014.out; have hnb77 := NB116014_0.out; have hnc77 := NB0_116014.out; obtain ⟨hcz78_0, hcz78_1, hcz78_2, hcz78_3, hcz78_4, hcz78_5, hcz78_6, hcz78_7, hcz78_8, hfz78_0, hfz78_1, hfz78_2, hfz78_3, hfz78_4, hfz78_5, hfz78_6, hfz78_7, hfz78_8⟩ := c9 BK116014.out; obtain ⟨Ao79, co79, eo79⟩ := Kd.R_slice HO116007.out; subst eo79) | ((with_reducible refine gate_callee (f := 127) rfl ?_); refine goesL_ (some 12) rfl rfl Try.func127 (by kernel_rfl) rfl #[.pointer (some ⟨g, 0, none⟩), .int .i64 24] rfl (by (try simp only [List.map_toArray, List.map_cons, List.map_nil]); rfl) ?_; (with_reducible refine (spec_reader_pick.calls k g s0_0 t116013 24 t116015 t116016 w0 _ ?side1 ?side2 A6.out).mono ?_); (case side1 => repeat (with_reducible first | exact HI0.out | refine IsS144.far ?_ NB0_116014.out _)); (case side2 => repeat (with_reducible first | exact HB.out | refine below_set ?_ GE116014.out)); rintro e w80 ⟨rfl, hi, hb, hk⟩; refine ⟨_, rfl, ?_⟩; have n0_ := mk (KeepBut.blk hk (g' := gb116001) (o := .cells #[.int .i64 0, .int .i64 0, .int .i64 0, .slice none 0 0, .int .i64 0, .int .i64 0, .int .i64 0, .int .i64 0, .bool false] 55 (0, 0)) (by refine blk_far ?_ NB116001_116014.out _; refine blk_far ?_ NB116001_116014.out _; refine blk_far ?_ NB116001_116014.out _; refine blk_far ?_ NB116001_116014.out _; refine blk_far ?_ NB116001_116014.out _; refine blk_far ?_ NB116001_116014.out _; refine blk_far ?_ NB116001_116014.out _; refine blk_far ?_ NB116001_116014.out _; refine blk_far ?_ NB116001_116014.out _; exact BK116001.out) NB116001_0.out (by simp)); have n1_ := mk (Kd.R_mono (Kd.R_keep (IsS144.apart (show IsS144 w0 _ g s0_0 t116013 from by repeat (with_reducible first | exact HI0.out | refine IsS144.far ?_ NB0_116014.out _)) (by exact (Kd.R_mono (Kd.R_far (p := ⟨gb116014, 8, none⟩) (Kd.R_far (p := ⟨gb116014, 7, none⟩) (Kd.R_far (p := ⟨gb116014, 6, none⟩) (Kd.R_far (p := ⟨gb116014, 5, none⟩) (Kd.R_far (p := ⟨gb116014, 4, none⟩) (Kd.R_far (p := ⟨gb116014, 3, none⟩) (Kd.R_far (p := ⟨gb116014, 2, none⟩) (Kd.R_far (p := ⟨gb116014, 1, none⟩) (Kd.R_far (p := ⟨gb116014, 0, none⟩) (Kd.R_types HO116007.out BK116014.out (by decide)) (fun _ hk => hk.2) (.int .i64 t116002)) (fun _ hk => hk.2) (.int .i64 t116003)) (fun _ hk => hk.2) (.int .i64 t116004)) (fun _ hk => hk.2) (.slice Ao79 t116005.length co79)) (fun _ hk => hk.2) (.int .i64 t116008)) (fun _ hk => hk.2) (.int .i64 t116009)) (fun _ hk => hk.2) (.int .i64 t116010)) (fun _ hk => hk.2) (.int .i64 t116011)) (fun _ hk => hk.2) (.bool t116012)) (fun _ h_ => h_.1))) (by decide)) hk (fun _ h => h.2)) (fun _ h => h.1)); have n2_ := mk (KeepBut.blk hk (g' := gb116014) (o := .cells #[.int .i64 t116002, .int .i64 t116003, .int .i64 t116004, .slice Ao79 t116005.length co79, .int .i64 t116008, .int .i64 t116009, .int .i64 t116010, .int .i64 t116011, .bool t116012] 55 (0, 0)) (by refine blk_put (cs := #[.int .i64 t116002, .int .i64 t116003, .int .i64 t116004, .slice Ao79 t116005.length co79, .int .i64 t116008, .int .i64 t116009, .int .i64 t116010, .int .i64 t116011, .bool false]) ?_ 8 _ rfl; refine blk_put (cs := #[.int .i64 t116002, .int .i64 t116003, .int .i64 t116004, .slice Ao79 t116005.length co79, .int .i64 t116008, .int .i64 t116009, .int .i64 t116010, .int .i64 0, .bool false]) ?_ 7 _ rfl; refine blk_put (cs := #[.int .i64 t116002, .int .i64 t116003, .int .i64 t116004, .slice Ao79 t116005.length co79, .int .i64 t116008, .int .i64 t116009, .int .i64 0, .int .i64 0, .bool false]) ?_ 6 _ rfl; refine blk_put (cs := #[.int .i64 t116002, .int .i64 t116003, .int .i64 t116004, .slice Ao79 t116005.length co79, .int .i64 t116008, .int .i64 0, .int .i64 0, .int .i64 0, .bool false]) ?_ 5 _ rfl; refine blk_put (cs := #[.int .i64 t116002, .int .i64 t116003, .int .i64 t116004, .slice Ao79 t116005.length co79, .int .i64 0, .int .i64 0, .int .i64 0, .int .i64 0, .bool false]) ?_ 4 _ rfl; refine blk_put (cs := #[.int .i64 t116002, .int .i64 t116003, .int .i64 t116004, .slice none 0 0, .int .i64 0, .int .i64 0, .int .i64 0, .int .i64 0, .bool false]) ?_ 3 _ rfl; refine blk_put (cs := #[.int .i64 t116002, .int .i64 t116003, .int .i64 0, .slice none 0 0, .int .i64 0, .int .i64 0, .int .i64 0, .int .i64 0, .bool false]) ?_ 2 _ rfl; refine blk_put (cs := #[.int .i64 t116002, .int .i64 0, .int .i64 0, .slice none 0 0, .int .i64 0, .int .i64 0, .int .i64 0, .int .i64 0, .bool false]) ?_ 1 _ rfl; refine blk_put (cs := #[.int .i64 0, .int .i64 0, .int .i64 0, .slice none 0 0, .int .i64 0, .int .i64 0, .int .i64 0, .int .i64 0, .bool false]) ?_ 0 _ rfl; exact BK116014.out) NB116014_0.out (by simp)); have n3_ := mk (KeepBut.trans (by repeat (with_reducible first | exact HK.out | refine keep_far ?_ GW116014.out _)) hk (.inl rfl)); have n4_ := mk (hb); have n5_ := mk (hi); clear BK116001; clear HO116007; clear BK116014; clear HK; clear HB; clear HI0; have BK116001 := n0_; have HO116007 := n1_; have BK116014 := n2_; have HK := n3_; have HB := n4_; have HI0 := n5_; clear n0_ n1_ n2_ n3_ n4_ n5_; (try clear hb); (try clear hk); (try clear hi); obtain ⟨hcz81_0, hcz81_1, hcz81_2, hcz81_3, hcz81_4, hcz81_5, hcz81_6, hcz81_7, hcz81_8, hfz81_0, hfz81_1, hfz81_2, hfz81_3, hfz81_4, hfz81_5, hfz81_6, hfz81_7, hfz81_8⟩ := c9 BK116014.out; have hnb82 := NB116001_0.out; have hnc82 := NB0_116001.out; obtain ⟨hcz83_0, hcz83_1, hcz83_2, hcz83_3, hcz83_4, hcz83_5, hcz83_6, hcz83_7, hcz83_8, hfz83_0, hfz83_1, hfz83_2, hfz83_3, hfz83_4, hfz83_5, hfz83_6, hfz83_7, hfz83_8⟩ := c9 BK116001.out))
     refine bodyPost_ret (results_cell_row rfl _ _ gb116001 55 #[.int .i64 t116002, .int .i64 t116003, .int .i64 t116004, .slice Ao79 t116005.length co79, .int .i64 t116008, .int .i64 t116009, .int .i64 t116010, .int .i64 t116011, .bool t116012] (0, 0) _ rfl (by refine blk_put (cs := #[.int .i64 t116002, .int .i64 t116003, .int .i64 t116004, .slice Ao79 t116005.length co79, .int .i64 t116008, .int .i64 t116009, .int .i64 t116010, .int .i64 t116011, .bool false]) ?_ 8 _ rfl; refine blk_put (cs := #[.int .i64 t116002, .int .i64 t116003, .int .i64 t116004, .slice Ao79 t116005.length co79, .int .i64 t116008, .int .i64 t116009, .int .i64 t116010, .int .i64 0, .bool false]) ?_ 7 _ rfl; refine blk_put (cs := #[.int .i64 t116002, .int .i64 t116003, .int .i64 t116004, .slice Ao79 t116005.length co79, .int .i64 t116008, .int .i64 t116009, .int .i64 0, .int .i64 0, .bool false]) ?_ 6 _ rfl; refine blk_put (cs := #[.int .i64 t116002, .int .i64 t116003, .int .i64 t116004, .slice Ao79 t116005.length co79, .int .i64 t116008, .int .i64 0, .int .i64 0, .int .i64 0, .bool false]) ?_ 5 _ rfl; refine blk_put (cs := #[.int .i64 t116002, .int .i64 t116003, .int .i64 t116004, .slice Ao79 t116005.length co79, .int .i64 0, .int .i64 0, .int .i64 0, .int .i64 0, .bool false]) ?_ 4 _ rfl; refine blk_put (cs := #[.int .i64 t116002, .int .i64 t116003, .int .i64 t116004, .slice none 0 0, .int .i64 0, .int .i64 0, .int .i64 0, .int .i64 0, .bool false]) ?_ 3 _ rfl; refine blk_put (cs := #[.int .i64 t116002, .int .i64 t116003, .int .i64 0, .slice none 0 0, .int .i64 0, .int .i64 0, .int .i64 0, .int .i64 0, .bool false]) ?_ 2 _ rfl; refine blk_put (cs := #[.int .i64 t116002, .int .i64 0, .int .i64 0, .slice none 0 0, .int .i64 0, .int .i64 0, .int .i64 0, .int .i64 0, .bool false]) ?_ 1 _ rfl; refine blk_put (cs := #[.int .i64 0, .int .i64 0, .int .i64 0, .slice none 0 0, .int .i64 0, .int .i64 0, .int .i64 0, .int .i64 0, .bool false]) ?_ 0 _ rfl; exact BK116001.out) Try.underlying55 rfl (by kernel_rfl)) rfl ?_
     exact ⟨_, by rfl, Kd.Q_of_R (by exact Kd.R_mono (Kd.R_far (p := ⟨gb116001, 8, none⟩) (Kd.R_far (p := ⟨gb116001, 7, none⟩) (Kd.R_far (p := ⟨gb116001, 6, none⟩) (Kd.R_far (p := ⟨gb116001, 5, none⟩) (Kd.R_far (p := ⟨gb116001, 4, none⟩) (Kd.R_far (p := ⟨gb116001, 3, none⟩) (Kd.R_far (p := ⟨gb116001, 2, none⟩) (Kd.R_far (p := ⟨gb116001, 1, none⟩) (Kd.R_far (p := ⟨gb116001, 0, none⟩) (Kd.R_types HO116007.out BK116001.out (by decide)) (fun _ hk => hk.2) (.int .i64 t116002)) (fun _ hk => hk.2) (.int .i64 t116003)) (fun _ hk => hk.2) (.int .i64 t116004)) (fun _ hk => hk.2) (.slice Ao79 t116005.length co79)) (fun _ hk => hk.2) (.int .i64 t116008)) (fun _ hk => hk.2) (.int .i64 t116009)) (fun _ hk => hk.2) (.int .i64 t116010)) (fun _ hk => hk.2) (.int .i64 t116011)) (fun _ hk => hk.2) (.bool t116012)) (fun _ hk => trivial)), by repeat (with_reducible first | exact HI0.out | refine IsS144.far ?_ NB0_116001.out _), by repeat (with_reducible first | exact HB.out | refine below_set ?_ GE116001.out), by repeat (with_reducible first | exact HK.out | refine keep_far ?_ GW116001.out _)⟩


def spec_DrawCoverImage.f (k : Nat) (l0 : List Int) : Option (Int × Int × Int × List Int × Int × Int × Int × List Int × Int × Int × Int × Int × Bool) := (spec_newReader.f l0).bind fun bt62003 => ((spec_anyImage.f k bt62003.1 bt62003.2).bind fun bt62006 => ((spec_anyLayer.f k bt62003.1 bt62006.2.2.2.2 bt62006.2.2.1).bind fun bt62014 => (some (bt62006.1, bt62006.2.1, bt62006.2.2.1, bt62006.2.2.2.1, bt62014.1, bt62014.2.1, bt62014.2.2.1, bt62014.2.2.2.1, bt62014.2.2.2.2.1, bt62014.2.2.2.2.2.1, bt62014.2.2.2.2.2.2.1, bt62014.2.2.2.2.2.2.2.1, bt62014.2.2.2.2.2.2.2.2.1))))
theorem spec_DrawCoverImage.mono : ∀ a0 k, LeO (spec_DrawCoverImage.f k a0) (spec_DrawCoverImage.f (k + 1) a0) := by
 intro a0 k
 unfold spec_DrawCoverImage.f
 repeat' first | (with_reducible exact spec_anyImage.mono _ _ _) | (with_reducible exact spec_anyLayer.mono _ _ _ _) | (with_reducible exact LeO.refl _) | (with_reducible refine LeO.bind ?_ (fun _ => ?_))
set_option maxHeartbeats 8000000 in
set_option maxRecDepth 100000 in
theorem spec_DrawCoverImage.calls (k : Nat) (A0 : Option Addr) (c0 : Nat) (l0 : List Int) (r1 : Int) (r2 : Int) (r3 : Int) (r4 : List Int) (r5 : Int) (r6 : Int) (r7 : Int) (r8 : List Int) (r9 : Int) (r10 : Int) (r11 : Int) (r12 : Int) (r13 : Bool) (w : World) (hr0 : Kd.C (Kd.int .u8) w A0 l0.length l0) (hc0 : l0.length ≤ c0) (h : spec_DrawCoverImage.f k l0 = some (r1, r2, r3, r4, r5, r6, r7, r8, r9, r10, r11, r12, r13)) :
  Calls Try.prog 61 #[.slice A0 l0.length c0] w fun e w' => ∃ v3_ v7_ : Value, e = .returned (.tuple #[.agg #[.int .i64 r1, .int .i64 r2, .int .i64 r3, v3_], .agg #[.int .i64 r5, .int .i64 r6, .int .i64 r7, v7_, .int .i64 r9, .int .i64 r10, .int .i64 r11, .int .i64 r12, .bool r13]]) ∧ Kd.Q (Kd.int .i64) 3 w' w.heap.size (fun k_ => some k_ ≠ (v7_ : Value).ownBlock) v3_ r4 ∧ Kd.Q (Kd.int .i64) 3 w' w.heap.size (fun k_ => some k_ ≠ (v3_ : Value).ownBlock) v7_ r8 ∧ Below w.heap.size w w' := by
 have hu27 := Try.underlying27
 have hu55 := Try.underlying55
 have HR0 := mk hr0
 have HC0 := mk hc0
 clear hr0 hc0
 have HB := mk (Below.refl w.heap.size w)
 have H : ((spec_newReader.f l0).bind fun bt62003 => ((spec_anyImage.f k bt62003.1 bt62003.2).bind fun bt62006 => ((spec_anyLayer.f k bt62003.1 bt62006.2.2.2.2 bt62006.2.2.1).bind fun bt62014 => (some (bt62006.1, bt62006.2.1, bt62006.2.2.1, bt62006.2.2.2.1, bt62014.1, bt62014.2.1, bt62014.2.2.1, bt62014.2.2.2.1, bt62014.2.2.2.2.1, bt62014.2.2.2.2.2.1, bt62014.2.2.2.2.2.2.1, bt62014.2.2.2.2.2.2.2.1, bt62014.2.2.2.2.2.2.2.2.1))))) = some (r1, r2, r3, r4, r5, r6, r7, r8, r9, r10, r11, r12, r13) := h
 clear h
 replace H := Option.bind_eq_some_iff.mp H
 obtain ⟨⟨t62003, t62004⟩, A20, H⟩ := H
 replace H : ((spec_anyImage.f k t62003 t62004).bind fun bt62006 => ((spec_anyLayer.f k t62003 bt62006.2.2.2.2 bt62006.2.2.1).bind fun bt62014 => (some (bt62006.1, bt62006.2.1, bt62006.2.2.1, bt62006.2.2.2.1, bt62014.1, bt62014.2.1, bt62014.2.2.1, bt62014.2.2.2.1, bt62014.2.2.2.2.1, bt62014.2.2.2.2.2.1, bt62014.2.2.2.2.2.2.1, bt62014.2.2.2.2.2.2.2.1, bt62014.2.2.2.2.2.2.2.2.1)))) = some (r1, r2, r3, r4, r5, r6, r7, r8, r9, r10, r11, r12, r13) := H
 have A2 := mk A20
 clear A20
 replace H := Option.bind_eq_some_iff.mp H
 obtain ⟨⟨t62006, t62007, t62008, t62009, t62012⟩, A30, H⟩ := H
 replace H : ((spec_anyLayer.f k t62003 t62012 t62008).bind fun bt62014 => (some (t62006, t62007, t62008, t62009, bt62014.1, bt62014.2.1, bt62014.2.2.1, bt62014.2.2.2.1, bt62014.2.2.2.2.1, bt62014.2.2.2.2.2.1, bt62014.2.2.2.2.2.2.1, bt62014.2.2.2.2.2.2.2.1, bt62014.2.2.2.2.2.2.2.2.1))) = some (r1, r2, r3, r4, r5, r6, r7, r8, r9, r10, r11, r12, r13) := H
 have A3 := mk A30
 clear A30
 replace H := Option.bind_eq_some_iff.mp H
 obtain ⟨⟨t62014, t62015, t62016, t62017, t62020, t62021, t62022, t62023, t62024, t62025⟩, A40, H⟩ := H
 replace H : (some (t62006, t62007, t62008, t62009, t62014, t62015, t62016, t62017, t62020, t62021, t62022, t62023, t62024)) = some (r1, r2, r3, r4, r5, r6, r7, r8, r9, r10, r11, r12, r13) := H
 have A4 := mk A40
 clear A40
 simp only [Option.some.injEq, Prod.mk.injEq] at H
 obtain ⟨rfl, rfl, rfl, rfl, rfl, rfl, rfl, rfl, rfl, rfl, rfl, rfl, rfl⟩ := H
 go_enter Try.func61, Try.ntmps61
 try go_wp2_with (first | ((with_reducible refine gate_dst (N := 2) rfl ?_); refine box_event ?hg (N := 2) ?hd (cs := #[.int .i64 0, .int .i64 0, .int .i64 0, .slice none 0 0]) (t := 27) ?hr ?_; (case hd => rfl); (case hg => rfl); (case hr => (go_simp; done)); intro gb62001 hg w5 hbox hb; have n0_ := mk (below_step HB.out hb); have n1_ := mk (hbox); have n2_ := mk ((by rw [hg]; exact (below_size HB.out) : w.heap.size ≤ gb62001)); have n3_ := mk ((by rw [hg]; exact (below_size HB.out) : w.heap.size ≤ gb62001)); clear HB; have HB := n0_; have BK62001 := n1_; have GW62001 := n2_; have GE62001 := n3_; clear n0_ n1_ n2_ n3_; clear hb hbox hg) | ((with_reducible refine gate_dst (N := 3) rfl ?_); refine box_event ?hg (N := 3) ?hd (cs := #[.int .i64 0, .int .i64 0, .int .i64 0, .slice none 0 0, .int .i64 0, .int .i64 0, .int .i64 0, .int .i64 0, .bool false]) (t := 55) ?hr ?_; (case hd => rfl); (case hg => rfl); (case hr => (go_simp; done)); intro gb62002 hg w6 hbox hb; have n0_ := mk (blk_below BK62001.out hb); have n1_ := mk (below_step HB.out hb); have n2_ := mk (hbox); have n3_ := mk ((by rw [hg]; exact (below_size HB.out) : w.heap.size ≤ gb62002)); have n4_ := mk ((by rw [hg]; exact (below_size HB.out) : w.heap.size ≤ gb62002)); have n5_ := mk ((by rw [hg]; exact Nat.ne_of_lt (blk_lt BK62001.out) : gb62001 ≠ gb62002)); have n6_ := mk ((by rw [hg]; exact Nat.ne_of_gt (blk_lt BK62001.out) : gb62002 ≠ gb62001)); clear BK62001; clear HB; have BK62001 := n0_; have HB := n1_; have BK62002 := n2_; have GW62002 := n3_; have GE62002 := n4_; have NB62001_62002 := n5_; have NB62002_62001 := n6_; clear n0_ n1_ n2_ n3_ n4_ n5_ n6_; clear hb hbox hg) | ((with_reducible refine gate_callee (f := 86) rfl ?_); refine goesL_ (some 7) rfl rfl Try.func86 (by kernel_rfl) rfl #[.slice A0 l0.length c0] rfl (by (try simp only [List.map_toArray, List.map_cons, List.map_nil]); rfl) ?_; (with_reducible refine (spec_newReader.calls _ _ l0 t62003 t62004 w _ ?side1 ?side2 ?side3 A2.out).mono ?_); (case side1 => repeat (with_reducible exact HB.out)); (case side2 => exact HR0.out); (case side3 => exact HC0.out); rintro e w7 ⟨g62005, rfl, hi, hb, hb2⟩; refine ⟨_, rfl, ?_⟩; have n0_ := mk (blk_below BK62001.out hb2); have n1_ := mk (blk_below BK62002.out hb2); have n2_ := mk (hb); have n3_ := mk (hi); have n4_ := mk (IsS144.ne_blk hi (blk_below BK62001.out hb2) (by decide)); have n5_ := mk (Ne.symm (IsS144.ne_blk hi (blk_below BK62001.out hb2) (by decide))); have n6_ := mk (IsS144.ne_blk hi (blk_below BK62002.out hb2) (by decide)); have n7_ := mk (Ne.symm (IsS144.ne_blk hi (blk_below BK62002.out hb2) (by decide))); clear BK62001; clear BK62002; clear HB; have BK62001 := n0_; have BK62002 := n1_; have HB := n2_; have HI62005 := n3_; have NB62005_62001 := n4_; have NB62001_62005 := n5_; have NB62005_62002 := n6_; have NB62002_62005 := n7_; clear n0_ n1_ n2_ n3_ n4_ n5_ n6_ n7_; (try clear hb); (try clear hb2); (try clear hi)) | ((with_reducible refine gate_callee (f := 94) rfl ?_); refine goesL_ (some 9) rfl rfl Try.func94 (by kernel_rfl) rfl #[.pointer (some ⟨g62005, 0, none⟩)] rfl (by (try simp only [List.map_toArray, List.map_cons, List.map_nil]); rfl) ?_; (with_reducible refine (spec_anyImage.calls k g62005 t62003 t62004 t62006 t62007 t62008 t62009 t62012 w _ ?side1 ?side2 A3.out).mono ?_); (case side1 => repeat (with_reducible exact HI62005.out)); (case side2 => repeat (with_reducible exact HB.out)); rintro e w8 ⟨v62010, rfl, ho0, hi, hb, hk⟩; refine ⟨_, rfl, ?_⟩; have n0_ := mk (KeepBut.blk hk (g' := gb62001) (o := .cells #[.int .i64 0, .int .i64 0, .int .i64 0, .slice none 0 0] 27 (0, 0)) BK62001.out NB62001_62005.out (by simp)); have n1_ := mk (KeepBut.blk hk (g' := gb62002) (o := .cells #[.int .i64 0, .int .i64 0, .int .i64 0, .slice none 0 0, .int .i64 0, .int .i64 0, .int .i64 0, .int .i64 0, .bool false] 55 (0, 0)) BK62002.out NB62002_62005.out (by simp)); have n2_ := mk (Kd.Q_lower ho0 (below_size HB.out)); have n3_ := mk (hb); have n4_ := mk (hi); clear BK62001; clear BK62002; clear HB; clear HI62005; have BK62001 := n0_; have BK62002 := n1_; have HO62011 := n2_; have HB := n3_; have HI62005 := n4_; clear n0_ n1_ n2_ n3_ n4_; (try clear hb); (try clear hk); (try clear hi); (try clear ho0)) | ((with_reducible refine gate_dst (N := 5) rfl ?_); refine box_event ?hg (N := 5) ?hd (cs := #[.int .i64 0, .int .i64 0, .int .i64 0, .slice none 0 0]) (t := 27) ?hr ?_; (case hd => rfl); (case hg => rfl); (case hr => (go_simp; done)); intro gb62013 hg w9 hbox hb; have n0_ := mk (Kd.Q_below HO62011.out hb); have n1_ := mk (blk_below BK62001.out hb); have n2_ := mk (blk_below BK62002.out hb); have n3_ := mk (IsS144.below HI62005.out hb); have n4_ := mk (below_step HB.out hb); have n5_ := mk (hbox); have n6_ := mk ((by rw [hg]; exact (below_size HB.out) : w.heap.size ≤ gb62013)); have n7_ := mk ((by rw [hg]; exact (below_size HB.out) : w.heap.size ≤ gb62013)); have n8_ := mk ((by rw [hg]; exact Nat.ne_of_lt (blk_lt BK62001.out) : gb62001 ≠ gb62013)); have n9_ := mk ((by rw [hg]; exact Nat.ne_of_gt (blk_lt BK62001.out) : gb62013 ≠ gb62001)); have n10_ := mk ((by rw [hg]; exact Nat.ne_of_lt (blk_lt BK62002.out) : gb62002 ≠ gb62013)); have n11_ := mk ((by rw [hg]; exact Nat.ne_of_gt (blk_lt BK62002.out) : gb62013 ≠ gb62002)); have n12_ := mk ((by rw [hg]; exact Nat.ne_of_lt (IsS144.lt (show IsS144 w _ g62005 t62003 t62012 from by exact HI62005.out)) : g62005 ≠ gb62013)); have n13_ := mk ((by rw [hg]; exact Nat.ne_of_gt (IsS144.lt (show IsS144 w _ g62005 t62003 t62012 from by exact HI62005.out)) : gb62013 ≠ g62005)); clear HO62011; clear BK62001; clear BK62002; clear HI62005; clear HB; have HO62011 := n0_; have BK62001 := n1_; have BK62002 := n2_; have HI62005 := n3_; have HB := n4_; have BK62013 := n5_; have GW62013 := n6_; have GE62013 := n7_; have NB62001_62013 := n8_; have NB62013_62001 := n9_; have NB62002_62013 := n10_; have NB62013_62002 := n11_; have NB62005_62013 := n12_; have NB62013_62005 := n13_; clear n0_ n1_ n2_ n3_ n4_ n5_ n6_ n7_ n8_ n9_ n10_ n11_ n12_ n13_; clear hb hbox hg; have hnb10 := NB62013_62001.out; have hnc10 := NB62001_62013.out; have hnb11 := NB62013_62002.out; have hnc11 := NB62002_62013.out; have hnb12 := NB62013_62005.out; have hnc12 := NB62005_62013.out; have hcz13_0 : w9.cell? ⟨gb62013, 0, none⟩ = some (.int .i64 0) := (blk_cell BK62013.out 0).trans rfl; have hcz13_1 : w9.cell? ⟨gb62013, 1, none⟩ = some (.int .i64 0) := (blk_cell BK62013.out 1).trans rfl; have hcz13_2 : w9.cell? ⟨gb62013, 2, none⟩ = some (.int .i64 0) := (blk_cell BK62013.out 2).trans rfl; have hcz13_3 : w9.cell? ⟨gb62013, 3, none⟩ = some (.slice none 0 0) := (blk_cell BK62013.out 3).trans rfl; have hfz13_0 := blk_frozen BK62013.out 0; have hfz13_1 := blk_frozen BK62013.out 1; have hfz13_2 := blk_frozen BK62013.out 2; have hfz13_3 := blk_frozen BK62013.out 3; obtain ⟨Ao14, co14, eo14, _⟩ := Kd.Q_slice HO62011.out; subst eo14))
 have n0_ : Aside0 (Kd.Q (Kd.int .i64) 3 ((((w9.setCell ⟨gb62013, 0, none⟩ (.int .i64 t62006)).setCell ⟨gb62013, 1, none⟩ (.int .i64 t62007)).setCell ⟨gb62013, 2, none⟩ (.int .i64 t62008)).setCell ⟨gb62013, 3, none⟩ (.slice Ao14 t62009.length co14)) w.heap.size (fun _ => True) (.slice Ao14 t62009.length co14) t62009) := ⟨by exact Kd.Q_mono (Kd.Q_far (p := ⟨gb62013, 3, none⟩) (Kd.Q_far (p := ⟨gb62013, 2, none⟩) (Kd.Q_far (p := ⟨gb62013, 1, none⟩) (Kd.Q_far (p := ⟨gb62013, 0, none⟩) (Kd.Q_types HO62011.out BK62013.out (by decide)) (fun _ hk => hk.2) (.int .i64 t62006)) (fun _ hk => hk.2) (.int .i64 t62007)) (fun _ hk => hk.2) (.int .i64 t62008)) (fun _ hk => hk.2) (.slice Ao14 t62009.length co14)) (fun _ hk => trivial)⟩
 have n1_ : Aside0 (((((w9.setCell ⟨gb62013, 0, none⟩ (.int .i64 t62006)).setCell ⟨gb62013, 1, none⟩ (.int .i64 t62007)).setCell ⟨gb62013, 2, none⟩ (.int .i64 t62008)).setCell ⟨gb62013, 3, none⟩ (.slice Ao14 t62009.length co14)).heap[gb62001]? = some (.cells #[.int .i64 0, .int .i64 0, .int .i64 0, .slice none 0 0] 27 (0, 0))) := ⟨by refine blk_far ?_ NB62001_62013.out _; refine blk_far ?_ NB62001_62013.out _; refine blk_far ?_ NB62001_62013.out _; refine blk_far ?_ NB62001_62013.out _; exact BK62001.out⟩
 have n2_ : Aside0 (((((w9.setCell ⟨gb62013, 0, none⟩ (.int .i64 t62006)).setCell ⟨gb62013, 1, none⟩ (.int .i64 t62007)).setCell ⟨gb62013, 2, none⟩ (.int .i64 t62008)).setCell ⟨gb62013, 3, none⟩ (.slice Ao14 t62009.length co14)).heap[gb62002]? = some (.cells #[.int .i64 0, .int .i64 0, .int .i64 0, .slice none 0 0, .int .i64 0, .int .i64 0, .int .i64 0, .int .i64 0, .bool false] 55 (0, 0))) := ⟨by refine blk_far ?_ NB62002_62013.out _; refine blk_far ?_ NB62002_62013.out _; refine blk_far ?_ NB62002_62013.out _; refine blk_far ?_ NB62002_62013.out _; exact BK62002.out⟩
 have n3_ : Aside0 (((((w9.setCell ⟨gb62013, 0, none⟩ (.int .i64 t62006)).setCell ⟨gb62013, 1, none⟩ (.int .i64 t62007)).setCell ⟨gb62013, 2, none⟩ (.int .i64 t62008)).setCell ⟨gb62013, 3, none⟩ (.slice Ao14 t62009.length co14)).heap[gb62013]? = some (.cells #[.int .i64 t62006, .int .i64 t62007, .int .i64 t62008, .slice Ao14 t62009.length co14] 27 (0, 0))) := ⟨by refine blk_put (cs := #[.int .i64 t62006, .int .i64 t62007, .int .i64 t62008, .slice none 0 0]) ?_ 3 _ rfl; refine blk_put (cs := #[.int .i64 t62006, .int .i64 t62007, .int .i64 0, .slice none 0 0]) ?_ 2 _ rfl; refine blk_put (cs := #[.int .i64 t62006, .int .i64 0, .int .i64 0, .slice none 0 0]) ?_ 1 _ rfl; refine blk_put (cs := #[.int .i64 0, .int .i64 0, .int .i64 0, .slice none 0 0]) ?_ 0 _ rfl; exact BK62013.out⟩
 have n4_ : Aside0 (IsS144 w ((((w9.setCell ⟨gb62013, 0, none⟩ (.int .i64 t62006)).setCell ⟨gb62013, 1, none⟩ (.int .i64 t62007)).setCell ⟨gb62013, 2, none⟩ (.int .i64 t62008)).setCell ⟨gb62013, 3, none⟩ (.slice Ao14 t62009.length co14)) g62005 t62003 t62012) := ⟨by repeat (with_reducible first | exact HI62005.out | refine IsS144.far ?_ NB62005_62013.out _)⟩
 have n5_ : Aside0 (Below w.heap.size w ((((w9.setCell ⟨gb62013, 0, none⟩ (.int .i64 t62006)).setCell ⟨gb62013, 1, none⟩ (.int .i64 t62007)).setCell ⟨gb62013, 2, none⟩ (.int .i64 t62008)).setCell ⟨gb62013, 3, none⟩ (.slice Ao14 t62009.length co14))) := ⟨by repeat (with_reducible first | exact HB.out | refine below_set ?_ GE62013.out)⟩
 (try clear HO62011)
 (try clear BK62001)
 (try clear BK62002)
 (try clear BK62013)
 (try clear HI62005)
 (try clear HB)
 generalize ((((w9.setCell ⟨gb62013, 0, none⟩ (.int .i64 t62006)).setCell ⟨gb62013, 1, none⟩ (.int .i64 t62007)).setCell ⟨gb62013, 2, none⟩ (.int .i64 t62008)).setCell ⟨gb62013, 3, none⟩ (.slice Ao14 t62009.length co14)) = w15 at n0_ n1_ n2_ n3_ n4_ n5_ ⊢
 revert n0_ n1_ n2_ n3_ n4_ n5_; intro HO62011 BK62001 BK62002 BK62013 HI62005 HB
 replace HO62011 := mk (Kd.Q_drew HO62011.out)
 replace BK62001 := mk (blk_drew BK62001.out)
 replace BK62002 := mk (blk_drew BK62002.out)
 replace BK62013 := mk (blk_drew BK62013.out)
 replace HI62005 := mk (IsS144.drew HI62005.out)
 replace HB := mk (below_drew1 HB.out)
 refine start_ (n := 7) (S := fun w' => w'.cell? ⟨gb62013, 0, none⟩ = some (.int .i64 t62006) ∧ w'.cell? ⟨gb62013, 1, none⟩ = some (.int .i64 t62007) ∧ w'.cell? ⟨gb62013, 2, none⟩ = some (.int .i64 t62008) ∧ w'.cell? ⟨gb62013, 3, none⟩ = some (.slice Ao14 t62009.length co14)) (ds := []) #[false, false, false, false, false, false, false] (by kernel_rfl) rfl rfl ⟨blk_cell BK62013.out 0, blk_cell BK62013.out 1, blk_cell BK62013.out 2, blk_cell BK62013.out 3⟩ (fun hHeld => ?_)
 generalize w15.drew = w16 at HO62011 BK62001 BK62002 BK62013 HI62005 HB hHeld ⊢
 refine pure_ (i := 1) (N := some 11) (v := ?_) (a' := ?_) #[false, true, false, false, false, false, false] rfl rfl (by kernel_rfl) (fun _ _ _ h => h) (Or.inl ⟨by rfl, ?_⟩) ?_ ?_
 rotate_left
 ·intro w'
  go_simp
  with_reducible rfl
 rotate_left
 ·simp only [Act.put, List.setIfInBounds_toArray, List.set_cons_zero, List.set_cons_succ, i64_w, i32_w]
  rfl
 refine pure_ (i := 2) (N := some 12) (v := ?_) (a' := ?_) #[false, true, true, false, false, false, false] rfl rfl (by kernel_rfl) (fun _ _ _ h => h) (Or.inl ⟨by rfl, ?_⟩) ?_ ?_
 rotate_left
 ·intro w'
  go_simp
  with_reducible rfl
 rotate_left
 ·simp only [Act.put, List.setIfInBounds_toArray, List.set_cons_zero, List.set_cons_succ, i64_w, i32_w]
  rfl
 refine take_ (i := 0) (N := some 10) (v := ?_) (a' := ?_) #[true, true, true, false, false, false, false] rfl rfl (by kernel_rfl) (fun _ _ _ h => h) (Or.inl ⟨by rfl, ?_⟩) hHeld ?_ ?_
 rotate_left
 ·rintro w' ⟨s0, s1, s2, s3⟩
  go_simp
  with_reducible rfl
 rotate_left
 ·simp only [Act.put, List.setIfInBounds_toArray, List.set_cons_zero, List.set_cons_succ, i64_w, i32_w]
  rfl
 refine take_ (i := 3) (N := some 13) (v := ?_) (a' := ?_) #[true, true, true, true, false, false, false] rfl rfl (by kernel_rfl) (fun _ _ _ h => h) (Or.inl ⟨by rfl, ?_⟩) hHeld ?_ ?_
 rotate_left
 ·rintro w' ⟨s0, s1, s2, s3⟩
  go_simp
  with_reducible rfl
 rotate_left
 ·simp only [Act.put, List.setIfInBounds_toArray, List.set_cons_zero, List.set_cons_succ, i64_w, i32_w]
  rfl
 refine one_ (i := 4) (N := some 14) #[true, true, true, true, true, false, false] rfl rfl (by kernel_rfl) (by decide) (fun K hK => ?_)
 refine goes_ Try.func115 (by kernel_rfl) rfl #[.pointer (some ⟨g62005, 0, none⟩), .int .i64 t62008] (by rfl) rfl rfl (by (try simp only [List.map_toArray, List.map_cons, List.map_nil]); rfl) ?_
 with_reducible refine (spec_anyLayer.calls k g62005 t62003 t62012 t62008 t62014 t62015 t62016 t62017 t62020 t62021 t62022 t62023 t62024 t62025 w _ ?side1 ?side2 A4.out).mono ?_
 (case side1 => repeat (with_reducible exact HI62005.out))
 (case side2 => repeat (with_reducible exact HB.out))
 rintro e w17 ⟨v62018, rfl, ho0, hi, hb, hk⟩
 refine ⟨_, rfl, ?_⟩
 replace BK62001 := mk (KeepBut.blk hk (g' := gb62001) (o := .cells #[.int .i64 0, .int .i64 0, .int .i64 0, .slice none 0 0] 27 (0, 0)) BK62001.out NB62001_62005.out (by simp))
 replace BK62002 := mk (KeepBut.blk hk (g' := gb62002) (o := .cells #[.int .i64 0, .int .i64 0, .int .i64 0, .slice none 0 0, .int .i64 0, .int .i64 0, .int .i64 0, .int .i64 0, .bool false] 55 (0, 0)) BK62002.out NB62002_62005.out (by simp))
 replace BK62013 := mk (KeepBut.blk hk (g' := gb62013) (o := .cells #[.int .i64 t62006, .int .i64 t62007, .int .i64 t62008, .slice Ao14 t62009.length co14] 27 (0, 0)) BK62013.out NB62013_62005.out (by simp))
 have HO62019 := mk (Kd.Q_lower (Kd.Q_new' ho0 (Kd.Q_lt HO62011.out)) (below_size HB.out))
 replace HO62011 := mk (Kd.Q_mono (Kd.Q_told (Kd.Q_oldK (IsS144.apartQ (show IsS144 w _ g62005 t62003 t62012 from by exact HI62005.out) HO62011.out (by decide)) hk) (Kd.Q_base ho0)) (fun _ h_ => h_.1))
 replace HB := mk (hb)
 replace HI62005 := mk (hi)
 (try clear hb)
 (try clear hk)
 (try clear hi)
 (try clear ho0)
 obtain ⟨Ao25, co25, eo25, _⟩ := Kd.Q_slice HO62019.out
 (subst eo25)
 refine hK.out _ _ ⟨blk_cell BK62013.out 0, blk_cell BK62013.out 1, blk_cell BK62013.out 2, blk_cell BK62013.out 3⟩ (fun hHeld => ?_)
 clear hK K
 refine norm_ (a' := ?_) ?_ ?_
 rotate_left
 ·show Act.put _ (some 14) _ = _
  simp only [Act.put, List.setIfInBounds_toArray, List.set_cons_zero, List.set_cons_succ, i64_w, i32_w]
  rfl
 refine one_ (i := 5) (N := none) #[true, true, true, true, true, true, false] rfl rfl (by kernel_rfl) (by decide) (fun K hK => ?_)
 have hs18 : w17.cell? ⟨gb62001, 0, none⟩ = some (.int .i64 0) := (blk_cell BK62001.out 0).trans rfl
 have hfs18 := blk_frozen BK62001.out 0
 have hns18_1 := NB62002_62001.out
 have hns18_2 := NB62013_62001.out
 have hms18_1 := NB62001_62002.out
 have hms18_2 := NB62001_62013.out
 have hs19 : w17.cell? ⟨gb62001, 1, none⟩ = some (.int .i64 0) := (blk_cell BK62001.out 1).trans rfl
 have hfs19 := blk_frozen BK62001.out 1
 have hns19_1 := NB62002_62001.out
 have hns19_2 := NB62013_62001.out
 have hms19_1 := NB62001_62002.out
 have hms19_2 := NB62001_62013.out
 have hs20 : w17.cell? ⟨gb62001, 2, none⟩ = some (.int .i64 0) := (blk_cell BK62001.out 2).trans rfl
 have hfs20 := blk_frozen BK62001.out 2
 have hns20_1 := NB62002_62001.out
 have hns20_2 := NB62013_62001.out
 have hms20_1 := NB62001_62002.out
 have hms20_2 := NB62001_62013.out
 have hs21 : w17.cell? ⟨gb62001, 3, none⟩ = some (.slice none 0 0) := (blk_cell BK62001.out 3).trans rfl
 have hfs21 := blk_frozen BK62001.out 3
 have hns21_1 := NB62002_62001.out
 have hns21_2 := NB62013_62001.out
 have hms21_1 := NB62001_62002.out
 have hms21_2 := NB62001_62013.out
 refine skip_ (w1 := ?_) (by rfl) rfl ?_ ?_
 rotate_left
 ·go_simp
  rfl
 refine hK.out _ _ ⟨((cell_far (p := ⟨gb62001, _, none⟩) NB62013_62001.out _).trans (((cell_far (p := ⟨gb62001, _, none⟩) NB62013_62001.out _).trans (((cell_far (p := ⟨gb62001, _, none⟩) NB62013_62001.out _).trans (((cell_far (p := ⟨gb62001, _, none⟩) NB62013_62001.out _).trans hHeld.1))))))), ((cell_far (p := ⟨gb62001, _, none⟩) NB62013_62001.out _).trans (((cell_far (p := ⟨gb62001, _, none⟩) NB62013_62001.out _).trans (((cell_far (p := ⟨gb62001, _, none⟩) NB62013_62001.out _).trans (((cell_far (p := ⟨gb62001, _, none⟩) NB62013_62001.out _).trans hHeld.2.1))))))), ((cell_far (p := ⟨gb62001, _, none⟩) NB62013_62001.out _).trans (((cell_far (p := ⟨gb62001, _, none⟩) NB62013_62001.out _).trans (((cell_far (p := ⟨gb62001, _, none⟩) NB62013_62001.out _).trans (((cell_far (p := ⟨gb62001, _, none⟩) NB62013_62001.out _).trans hHeld.2.2.1))))))), ((cell_far (p := ⟨gb62001, _, none⟩) NB62013_62001.out _).trans (((cell_far (p := ⟨gb62001, _, none⟩) NB62013_62001.out _).trans (((cell_far (p := ⟨gb62001, _, none⟩) NB62013_62001.out _).trans (((cell_far (p := ⟨gb62001, _, none⟩) NB62013_62001.out _).trans hHeld.2.2.2)))))))⟩ (fun hHeld => ?_)
 clear hK K
 refine one_ (i := 6) (N := none) #[true, true, true, true, true, true, true] rfl rfl (by kernel_rfl) (by decide) (fun K hK => ?_)
 have hs22 : w17.cell? ⟨gb62002, 0, none⟩ = some (.int .i64 0) := (blk_cell BK62002.out 0).trans rfl
 have hfs22 := blk_frozen BK62002.out 0
 have hns22_0 := NB62001_62002.out
 have hns22_2 := NB62013_62002.out
 have hms22_0 := NB62002_62001.out
 have hms22_2 := NB62002_62013.out
 have hs23 : w17.cell? ⟨gb62002, 1, none⟩ = some (.int .i64 0) := (blk_cell BK62002.out 1).trans rfl
 have hfs23 := blk_frozen BK62002.out 1
 have hns23_0 := NB62001_62002.out
 have hns23_2 := NB62013_62002.out
 have hms23_0 := NB62002_62001.out
 have hms23_2 := NB62002_62013.out
 have hs24 : w17.cell? ⟨gb62002, 2, none⟩ = some (.int .i64 0) := (blk_cell BK62002.out 2).trans rfl
 have hfs24 := blk_frozen BK62002.out 2
 have hns24_0 := NB62001_62002.out
 have hns24_2 := NB62013_62002.out
 have hms24_0 := NB62002_62001.out
 have hms24_2 := NB62002_62013.out
 have hs26 : w17.cell? ⟨gb62002, 3, none⟩ = some (.slice none 0 0) := (blk_cell BK62002.out 3).trans rfl
 have hfs26 := blk_frozen BK62002.out 3
 have hns26_0 := NB62001_62002.out
 have hns26_2 := NB62013_62002.out
 have hms26_0 := NB62002_62001.out
 have hms26_2 := NB62002_62013.out
 have hs27 : w17.cell? ⟨gb62002, 4, none⟩ = some (.int .i64 0) := (blk_cell BK62002.out 4).trans rfl
 have hfs27 := blk_frozen BK62002.out 4
 have hns27_0 := NB62001_62002.out
 have hns27_2 := NB62013_62002.out
 have hms27_0 := NB62002_62001.out
 have hms27_2 := NB62002_62013.out
 have hs28 : w17.cell? ⟨gb62002, 5, none⟩ = some (.int .i64 0) := (blk_cell BK62002.out 5).trans rfl
 have hfs28 := blk_frozen BK62002.out 5
 have hns28_0 := NB62001_62002.out
 have hns28_2 := NB62013_62002.out
 have hms28_0 := NB62002_62001.out
 have hms28_2 := NB62002_62013.out
 have hs29 : w17.cell? ⟨gb62002, 6, none⟩ = some (.int .i64 0) := (blk_cell BK62002.out 6).trans rfl
 have hfs29 := blk_frozen BK62002.out 6
 have hns29_0 := NB62001_62002.out
 have hns29_2 := NB62013_62002.out
 have hms29_0 := NB62002_62001.out
 have hms29_2 := NB62002_62013.out
 have hs30 : w17.cell? ⟨gb62002, 7, none⟩ = some (.int .i64 0) := (blk_cell BK62002.out 7).trans rfl
 have hfs30 := blk_frozen BK62002.out 7
 have hns30_0 := NB62001_62002.out
 have hns30_2 := NB62013_62002.out
 have hms30_0 := NB62002_62001.out
 have hms30_2 := NB62002_62013.out
 have hs31 : w17.cell? ⟨gb62002, 8, none⟩ = some (.bool false) := (blk_cell BK62002.out 8).trans rfl
 have hfs31 := blk_frozen BK62002.out 8
 have hns31_0 := NB62001_62002.out
 have hns31_2 := NB62013_62002.out
 have hms31_0 := NB62002_62001.out
 have hms31_2 := NB62002_62013.out
 refine skip_ (w1 := ?_) (by rfl) rfl ?_ ?_
 rotate_left
 ·go_simp
  rfl
 refine hK.out _ _ ⟨((cell_far (p := ⟨gb62002, _, none⟩) NB62013_62002.out _).trans (((cell_far (p := ⟨gb62002, _, none⟩) NB62013_62002.out _).trans (((cell_far (p := ⟨gb62002, _, none⟩) NB62013_62002.out _).trans (((cell_far (p := ⟨gb62002, _, none⟩) NB62013_62002.out _).trans (((cell_far (p := ⟨gb62002, _, none⟩) NB62013_62002.out _).trans (((cell_far (p := ⟨gb62002, _, none⟩) NB62013_62002.out _).trans (((cell_far (p := ⟨gb62002, _, none⟩) NB62013_62002.out _).trans (((cell_far (p := ⟨gb62002, _, none⟩) NB62013_62002.out _).trans (((cell_far (p := ⟨gb62002, _, none⟩) NB62013_62002.out _).trans hHeld.1))))))))))))))))), ((cell_far (p := ⟨gb62002, _, none⟩) NB62013_62002.out _).trans (((cell_far (p := ⟨gb62002, _, none⟩) NB62013_62002.out _).trans (((cell_far (p := ⟨gb62002, _, none⟩) NB62013_62002.out _).trans (((cell_far (p := ⟨gb62002, _, none⟩) NB62013_62002.out _).trans (((cell_far (p := ⟨gb62002, _, none⟩) NB62013_62002.out _).trans (((cell_far (p := ⟨gb62002, _, none⟩) NB62013_62002.out _).trans (((cell_far (p := ⟨gb62002, _, none⟩) NB62013_62002.out _).trans (((cell_far (p := ⟨gb62002, _, none⟩) NB62013_62002.out _).trans (((cell_far (p := ⟨gb62002, _, none⟩) NB62013_62002.out _).trans hHeld.2.1))))))))))))))))), ((cell_far (p := ⟨gb62002, _, none⟩) NB62013_62002.out _).trans (((cell_far (p := ⟨gb62002, _, none⟩) NB62013_62002.out _).trans (((cell_far (p := ⟨gb62002, _, none⟩) NB62013_62002.out _).trans (((cell_far (p := ⟨gb62002, _, none⟩) NB62013_62002.out _).trans (((cell_far (p := ⟨gb62002, _, none⟩) NB62013_62002.out _).trans (((cell_far (p := ⟨gb62002, _, none⟩) NB62013_62002.out _).trans (((cell_far (p := ⟨gb62002, _, none⟩) NB62013_62002.out _).trans (((cell_far (p := ⟨gb62002, _, none⟩) NB62013_62002.out _).trans (((cell_far (p := ⟨gb62002, _, none⟩) NB62013_62002.out _).trans hHeld.2.2.1))))))))))))))))), ((cell_far (p := ⟨gb62002, _, none⟩) NB62013_62002.out _).trans (((cell_far (p := ⟨gb62002, _, none⟩) NB62013_62002.out _).trans (((cell_far (p := ⟨gb62002, _, none⟩) NB62013_62002.out _).trans (((cell_far (p := ⟨gb62002, _, none⟩) NB62013_62002.out _).trans (((cell_far (p := ⟨gb62002, _, none⟩) NB62013_62002.out _).trans (((cell_far (p := ⟨gb62002, _, none⟩) NB62013_62002.out _).trans (((cell_far (p := ⟨gb62002, _, none⟩) NB62013_62002.out _).trans (((cell_far (p := ⟨gb62002, _, none⟩) NB62013_62002.out _).trans (((cell_far (p := ⟨gb62002, _, none⟩) NB62013_62002.out _).trans hHeld.2.2.2)))))))))))))))))⟩ (fun hHeld => ?_)
 clear hK K
 refine done_ (by kernel_rfl) ?_
 try go_wp2
 refine bodyPost_ret (results_cc rfl _ _ gb62001 gb62002 27 55 #[.int .i64 t62006, .int .i64 t62007, .int .i64 t62008, .slice Ao14 t62009.length co14] #[.int .i64 t62014, .int .i64 t62015, .int .i64 t62016, .slice Ao25 t62017.length co25, .int .i64 t62020, .int .i64 t62021, .int .i64 t62022, .int .i64 t62023, .bool t62024] (0, 0) (0, 0) _ _ rfl (by refine blk_far ?_ NB62001_62002.out _; refine blk_far ?_ NB62001_62002.out _; refine blk_far ?_ NB62001_62002.out _; refine blk_far ?_ NB62001_62002.out _; refine blk_far ?_ NB62001_62002.out _; refine blk_far ?_ NB62001_62002.out _; refine blk_far ?_ NB62001_62002.out _; refine blk_far ?_ NB62001_62002.out _; refine blk_far ?_ NB62001_62002.out _; refine blk_put (cs := #[.int .i64 t62006, .int .i64 t62007, .int .i64 t62008, .slice none 0 0]) ?_ 3 _ rfl; refine blk_put (cs := #[.int .i64 t62006, .int .i64 t62007, .int .i64 0, .slice none 0 0]) ?_ 2 _ rfl; refine blk_put (cs := #[.int .i64 t62006, .int .i64 0, .int .i64 0, .slice none 0 0]) ?_ 1 _ rfl; refine blk_put (cs := #[.int .i64 0, .int .i64 0, .int .i64 0, .slice none 0 0]) ?_ 0 _ rfl; exact BK62001.out) Try.underlying27 rfl (by kernel_rfl) rfl (by refine blk_put (cs := #[.int .i64 t62014, .int .i64 t62015, .int .i64 t62016, .slice Ao25 t62017.length co25, .int .i64 t62020, .int .i64 t62021, .int .i64 t62022, .int .i64 t62023, .bool false]) ?_ 8 _ rfl; refine blk_put (cs := #[.int .i64 t62014, .int .i64 t62015, .int .i64 t62016, .slice Ao25 t62017.length co25, .int .i64 t62020, .int .i64 t62021, .int .i64 t62022, .int .i64 0, .bool false]) ?_ 7 _ rfl; refine blk_put (cs := #[.int .i64 t62014, .int .i64 t62015, .int .i64 t62016, .slice Ao25 t62017.length co25, .int .i64 t62020, .int .i64 t62021, .int .i64 0, .int .i64 0, .bool false]) ?_ 6 _ rfl; refine blk_put (cs := #[.int .i64 t62014, .int .i64 t62015, .int .i64 t62016, .slice Ao25 t62017.length co25, .int .i64 t62020, .int .i64 0, .int .i64 0, .int .i64 0, .bool false]) ?_ 5 _ rfl; refine blk_put (cs := #[.int .i64 t62014, .int .i64 t62015, .int .i64 t62016, .slice Ao25 t62017.length co25, .int .i64 0, .int .i64 0, .int .i64 0, .int .i64 0, .bool false]) ?_ 4 _ rfl; refine blk_put (cs := #[.int .i64 t62014, .int .i64 t62015, .int .i64 t62016, .slice none 0 0, .int .i64 0, .int .i64 0, .int .i64 0, .int .i64 0, .bool false]) ?_ 3 _ rfl; refine blk_put (cs := #[.int .i64 t62014, .int .i64 t62015, .int .i64 0, .slice none 0 0, .int .i64 0, .int .i64 0, .int .i64 0, .int .i64 0, .bool false]) ?_ 2 _ rfl; refine blk_put (cs := #[.int .i64 t62014, .int .i64 0, .int .i64 0, .slice none 0 0, .int .i64 0, .int .i64 0, .int .i64 0, .int .i64 0, .bool false]) ?_ 1 _ rfl; refine blk_put (cs := #[.int .i64 0, .int .i64 0, .int .i64 0, .slice none 0 0, .int .i64 0, .int .i64 0, .int .i64 0, .int .i64 0, .bool false]) ?_ 0 _ rfl; refine blk_far ?_ NB62002_62001.out _; refine blk_far ?_ NB62002_62001.out _; refine blk_far ?_ NB62002_62001.out _; refine blk_far ?_ NB62002_62001.out _; exact BK62002.out) Try.underlying55 rfl (by kernel_rfl)) rfl ?_
 exact ⟨_, _, by rfl, by exact Kd.Q_mono (Kd.Q_far (p := ⟨gb62002, 8, none⟩) (Kd.Q_far (p := ⟨gb62002, 7, none⟩) (Kd.Q_far (p := ⟨gb62002, 6, none⟩) (Kd.Q_far (p := ⟨gb62002, 5, none⟩) (Kd.Q_far (p := ⟨gb62002, 4, none⟩) (Kd.Q_far (p := ⟨gb62002, 3, none⟩) (Kd.Q_far (p := ⟨gb62002, 2, none⟩) (Kd.Q_far (p := ⟨gb62002, 1, none⟩) (Kd.Q_far (p := ⟨gb62002, 0, none⟩) (Kd.Q_far (p := ⟨gb62001, 3, none⟩) (Kd.Q_far (p := ⟨gb62001, 2, none⟩) (Kd.Q_far (p := ⟨gb62001, 1, none⟩) (Kd.Q_far (p := ⟨gb62001, 0, none⟩) (Kd.Q_types (Kd.Q_types HO62011.out BK62001.out (by decide)) BK62002.out (by decide)) (fun _ hk => hk.1.2) (.int .i64 t62006)) (fun _ hk => hk.1.2) (.int .i64 t62007)) (fun _ hk => hk.1.2) (.int .i64 t62008)) (fun _ hk => hk.1.2) (.slice Ao14 t62009.length co14)) (fun _ hk => hk.2) (.int .i64 t62014)) (fun _ hk => hk.2) (.int .i64 t62015)) (fun _ hk => hk.2) (.int .i64 t62016)) (fun _ hk => hk.2) (.slice Ao25 t62017.length co25)) (fun _ hk => hk.2) (.int .i64 t62020)) (fun _ hk => hk.2) (.int .i64 t62021)) (fun _ hk => hk.2) (.int .i64 t62022)) (fun _ hk => hk.2) (.int .i64 t62023)) (fun _ hk => hk.2) (.bool t62024)) (fun _ hk => hk.1.1.2), by exact Kd.Q_mono (Kd.Q_far (p := ⟨gb62002, 8, none⟩) (Kd.Q_far (p := ⟨gb62002, 7, none⟩) (Kd.Q_far (p := ⟨gb62002, 6, none⟩) (Kd.Q_far (p := ⟨gb62002, 5, none⟩) (Kd.Q_far (p := ⟨gb62002, 4, none⟩) (Kd.Q_far (p := ⟨gb62002, 3, none⟩) (Kd.Q_far (p := ⟨gb62002, 2, none⟩) (Kd.Q_far (p := ⟨gb62002, 1, none⟩) (Kd.Q_far (p := ⟨gb62002, 0, none⟩) (Kd.Q_far (p := ⟨gb62001, 3, none⟩) (Kd.Q_far (p := ⟨gb62001, 2, none⟩) (Kd.Q_far (p := ⟨gb62001, 1, none⟩) (Kd.Q_far (p := ⟨gb62001, 0, none⟩) (Kd.Q_types (Kd.Q_types HO62019.out BK62001.out (by decide)) BK62002.out (by decide)) (fun _ hk => hk.1.2) (.int .i64 t62006)) (fun _ hk => hk.1.2) (.int .i64 t62007)) (fun _ hk => hk.1.2) (.int .i64 t62008)) (fun _ hk => hk.1.2) (.slice Ao14 t62009.length co14)) (fun _ hk => hk.2) (.int .i64 t62014)) (fun _ hk => hk.2) (.int .i64 t62015)) (fun _ hk => hk.2) (.int .i64 t62016)) (fun _ hk => hk.2) (.slice Ao25 t62017.length co25)) (fun _ hk => hk.2) (.int .i64 t62020)) (fun _ hk => hk.2) (.int .i64 t62021)) (fun _ hk => hk.2) (.int .i64 t62022)) (fun _ hk => hk.2) (.int .i64 t62023)) (fun _ hk => hk.2) (.bool t62024)) (fun _ hk => hk.1.1.2), by repeat (with_reducible first | exact HB.out | refine below_set ?_ GE62001.out | refine below_set ?_ GE62002.out)⟩


def spec_DrawDirtyTiles.f (k : Nat) (l0 : List Int) : Option (Int × Int × Int × List Int × Int × Int × Int × List Int × Int × Int × Int × Int × Bool) := (spec_DrawCoverImage.f k l0).bind fun btz0 => (some (btz0.1, btz0.2.1, btz0.2.2.1, btz0.2.2.2.1, btz0.2.2.2.2.1, btz0.2.2.2.2.2.1, btz0.2.2.2.2.2.2.1, btz0.2.2.2.2.2.2.2.1, btz0.2.2.2.2.2.2.2.2.1, btz0.2.2.2.2.2.2.2.2.2.1, btz0.2.2.2.2.2.2.2.2.2.2.1, btz0.2.2.2.2.2.2.2.2.2.2.2.1, btz0.2.2.2.2.2.2.2.2.2.2.2.2))
theorem spec_DrawDirtyTiles.mono : ∀ a0 k, LeO (spec_DrawDirtyTiles.f k a0) (spec_DrawDirtyTiles.f (k + 1) a0) := by
 intro a0 k
 unfold spec_DrawDirtyTiles.f
 repeat' first | (with_reducible exact spec_DrawCoverImage.mono _ _) | (with_reducible exact LeO.refl _) | (with_reducible refine LeO.bind ?_ (fun _ => ?_))
set_option maxHeartbeats 8000000 in
set_option maxRecDepth 100000 in
theorem spec_DrawDirtyTiles.calls (k : Nat) (A0 : Option Addr) (c0 : Nat) (l0 : List Int) (r1 : Int) (r2 : Int) (r3 : Int) (r4 : List Int) (r5 : Int) (r6 : Int) (r7 : Int) (r8 : List Int) (r9 : Int) (r10 : Int) (r11 : Int) (r12 : Int) (r13 : Bool) (w : World) (hr0 : Kd.C (Kd.int .u8) w A0 l0.length l0) (hc0 : l0.length ≤ c0) (h : spec_DrawDirtyTiles.f k l0 = some (r1, r2, r3, r4, r5, r6, r7, r8, r9, r10, r11, r12, r13)) :
  Calls Try.prog 48 #[.slice A0 l0.length c0] w fun e w' => ∃ v3_ v7_ : Value, e = .returned (.tuple #[.agg #[.int .i64 r1, .int .i64 r2, .int .i64 r3, v3_], .agg #[.int .i64 r5, .int .i64 r6, .int .i64 r7, v7_, .int .i64 r9, .int .i64 r10, .int .i64 r11, .int .i64 r12, .bool r13]]) ∧ Kd.Q (Kd.int .i64) 3 w' w.heap.size (fun k_ => some k_ ≠ (v7_ : Value).ownBlock) v3_ r4 ∧ Kd.Q (Kd.int .i64) 3 w' w.heap.size (fun k_ => some k_ ≠ (v3_ : Value).ownBlock) v7_ r8 ∧ Below w.heap.size w w' := by
 have hu27 := Try.underlying27
 have hu55 := Try.underlying55
 have HR0 := mk hr0
 have HC0 := mk hc0
 clear hr0 hc0
 have HB := mk (Below.refl w.heap.size w)
 have H : ((spec_DrawCoverImage.f k l0).bind fun btz0 => (some (btz0.1, btz0.2.1, btz0.2.2.1, btz0.2.2.2.1, btz0.2.2.2.2.1, btz0.2.2.2.2.2.1, btz0.2.2.2.2.2.2.1, btz0.2.2.2.2.2.2.2.1, btz0.2.2.2.2.2.2.2.2.1, btz0.2.2.2.2.2.2.2.2.2.1, btz0.2.2.2.2.2.2.2.2.2.2.1, btz0.2.2.2.2.2.2.2.2.2.2.2.1, btz0.2.2.2.2.2.2.2.2.2.2.2.2))) = some (r1, r2, r3, r4, r5, r6, r7, r8, r9, r10, r11, r12, r13) := h
 clear h
 replace H := Option.bind_eq_some_iff.mp H
 obtain ⟨⟨tz5, tz7, tz9, tz11, tz0, tz1, tz2, tz3, tz4, tz6, tz8, tz10, tz12⟩, A20, H⟩ := H
 replace H : (some (tz5, tz7, tz9, tz11, tz0, tz1, tz2, tz3, tz4, tz6, tz8, tz10, tz12)) = some (r1, r2, r3, r4, r5, r6, r7, r8, r9, r10, r11, r12, r13) := H
 have A2 := mk A20
 clear A20
 simp only [Option.some.injEq, Prod.mk.injEq] at H
 obtain ⟨rfl, rfl, rfl, rfl, rfl, rfl, rfl, rfl, rfl, rfl, rfl, rfl, rfl⟩ := H
 go_enter Try.func48, Try.ntmps48
 go_wp2_with (first | ((with_reducible refine gate_dst (N := 2) rfl ?_); refine box_event (by rfl) (N := 2) (by rfl) (cs := #[.int .i64 0, .int .i64 0, .int .i64 0, .slice none 0 0]) (t := 27) (by go_simp; done) ?_; intro gbz1 hg w3 hbox hb; have BKz1 := mk (hbox); have GWz0 := mk ((by rw [hg]; exact (below_size HB.out) : w.heap.size ≤ gbz1)); have GEz0 := mk ((by rw [hg]; exact (below_size HB.out) : w.heap.size ≤ gbz1)); replace HB := mk (below_step HB.out hb); clear hb hbox hg) | ((with_reducible refine gate_dst (N := 3) rfl ?_); refine box_event (by rfl) (N := 3) (by rfl) (cs := #[.int .i64 0, .int .i64 0, .int .i64 0, .slice none 0 0, .int .i64 0, .int .i64 0, .int .i64 0, .int .i64 0, .bool false]) (t := 55) (by go_simp; done) ?_; intro gbz0 hg w4 hbox hb; have BKz0 := mk (hbox); have GWz1 := mk ((by rw [hg]; exact (below_size HB.out) : w.heap.size ≤ gbz0)); have GEz1 := mk ((by rw [hg]; exact (below_size HB.out) : w.heap.size ≤ gbz0)); replace HB := mk (below_step HB.out hb); have NBz0 := mk ((by rw [hg]; exact Nat.ne_of_lt (blk_lt BKz1.out) : gbz1 ≠ gbz0)); have NBz1 := mk ((by rw [hg]; exact Nat.ne_of_gt (blk_lt BKz1.out) : gbz0 ≠ gbz1)); replace BKz1 := mk (blk_below BKz1.out hb); clear hb hbox hg) | ((with_reducible refine gate_callee (f := 61) rfl ?_); refine goesL_ (some 5) rfl rfl Try.func61 (by kernel_rfl) rfl #[.slice A0 l0.length c0] rfl (by (try simp only [List.map_toArray, List.map_cons, List.map_nil]); rfl) ?_; (with_reducible refine (spec_DrawCoverImage.calls k _ _ l0 tz5 tz7 tz9 tz11 tz0 tz1 tz2 tz3 tz4 tz6 tz8 tz10 tz12 _ ?side1 ?side2 A2.out).mono ?_); (case side1 => repeat (exact (Kd.C_below HR0.out HB.out))); (case side2 => exact HC0.out); rintro e w5 ⟨vz0, vz1, rfl, ho0, ho1, hb⟩; refine ⟨_, rfl, ?_⟩; have HOz0 := mk (Kd.Q_lower ho0 (below_size HB.out)); have HOz1 := mk (Kd.Q_lower ho1 (below_size HB.out)); replace BKz1 := mk (blk_below BKz1.out hb); replace BKz0 := mk (blk_below BKz0.out hb); replace HB := mk (below_step HB.out hb); (try clear hb); (try clear ho0); (try clear ho1); have hnb6 := NBz0.out; have hnc6 := NBz1.out; obtain ⟨hcz7_0, hcz7_1, hcz7_2, hcz7_3, hfz7_0, hfz7_1, hfz7_2, hfz7_3⟩ := c4 BKz1.out; obtain ⟨Ao8, co8, eo8, _⟩ := Kd.Q_slice HOz0.out; subst eo8; obtain ⟨hcz9_0, hcz9_1, hcz9_2, hcz9_3, hcz9_4, hcz9_5, hcz9_6, hcz9_7, hcz9_8, hfz9_0, hfz9_1, hfz9_2, hfz9_3, hfz9_4, hfz9_5, hfz9_6, hfz9_7, hfz9_8⟩ := c9 BKz0.out; obtain ⟨Ao10, co10, eo10, _⟩ := Kd.Q_slice HOz1.out; subst eo10))
 refine bodyPost_ret (results_cc rfl _ _ gbz1 gbz0 27 55 #[.int .i64 tz5, .int .i64 tz7, .int .i64 tz9, .slice Ao8 tz11.length co8] #[.int .i64 tz0, .int .i64 tz1, .int .i64 tz2, .slice Ao10 tz3.length co10, .int .i64 tz4, .int .i64 tz6, .int .i64 tz8, .int .i64 tz10, .bool tz12] (0, 0) (0, 0) _ _ rfl (by refine blk_far ?_ NBz0.out _; refine blk_far ?_ NBz0.out _; refine blk_far ?_ NBz0.out _; refine blk_far ?_ NBz0.out _; refine blk_far ?_ NBz0.out _; refine blk_far ?_ NBz0.out _; refine blk_far ?_ NBz0.out _; refine blk_far ?_ NBz0.out _; refine blk_far ?_ NBz0.out _; refine blk_put (cs := #[.int .i64 tz5, .int .i64 tz7, .int .i64 tz9, .slice none 0 0]) ?_ 3 _ rfl; refine blk_put (cs := #[.int .i64 tz5, .int .i64 tz7, .int .i64 0, .slice none 0 0]) ?_ 2 _ rfl; refine blk_put (cs := #[.int .i64 tz5, .int .i64 0, .int .i64 0, .slice none 0 0]) ?_ 1 _ rfl; refine blk_put (cs := #[.int .i64 0, .int .i64 0, .int .i64 0, .slice none 0 0]) ?_ 0 _ rfl; exact BKz1.out) Try.underlying27 rfl (by kernel_rfl) rfl (by refine blk_put (cs := #[.int .i64 tz0, .int .i64 tz1, .int .i64 tz2, .slice Ao10 tz3.length co10, .int .i64 tz4, .int .i64 tz6, .int .i64 tz8, .int .i64 tz10, .bool false]) ?_ 8 _ rfl; refine blk_put (cs := #[.int .i64 tz0, .int .i64 tz1, .int .i64 tz2, .slice Ao10 tz3.length co10, .int .i64 tz4, .int .i64 tz6, .int .i64 tz8, .int .i64 0, .bool false]) ?_ 7 _ rfl; refine blk_put (cs := #[.int .i64 tz0, .int .i64 tz1, .int .i64 tz2, .slice Ao10 tz3.length co10, .int .i64 tz4, .int .i64 tz6, .int .i64 0, .int .i64 0, .bool false]) ?_ 6 _ rfl; refine blk_put (cs := #[.int .i64 tz0, .int .i64 tz1, .int .i64 tz2, .slice Ao10 tz3.length co10, .int .i64 tz4, .int .i64 0, .int .i64 0, .int .i64 0, .bool false]) ?_ 5 _ rfl; refine blk_put (cs := #[.int .i64 tz0, .int .i64 tz1, .int .i64 tz2, .slice Ao10 tz3.length co10, .int .i64 0, .int .i64 0, .int .i64 0, .int .i64 0, .bool false]) ?_ 4 _ rfl; refine blk_put (cs := #[.int .i64 tz0, .int .i64 tz1, .int .i64 tz2, .slice none 0 0, .int .i64 0, .int .i64 0, .int .i64 0, .int .i64 0, .bool false]) ?_ 3 _ rfl; refine blk_put (cs := #[.int .i64 tz0, .int .i64 tz1, .int .i64 0, .slice none 0 0, .int .i64 0, .int .i64 0, .int .i64 0, .int .i64 0, .bool false]) ?_ 2 _ rfl; refine blk_put (cs := #[.int .i64 tz0, .int .i64 0, .int .i64 0, .slice none 0 0, .int .i64 0, .int .i64 0, .int .i64 0, .int .i64 0, .bool false]) ?_ 1 _ rfl; refine blk_put (cs := #[.int .i64 0, .int .i64 0, .int .i64 0, .slice none 0 0, .int .i64 0, .int .i64 0, .int .i64 0, .int .i64 0, .bool false]) ?_ 0 _ rfl; refine blk_far ?_ NBz1.out _; refine blk_far ?_ NBz1.out _; refine blk_far ?_ NBz1.out _; refine blk_far ?_ NBz1.out _; exact BKz0.out) Try.underlying55 rfl (by kernel_rfl)) rfl ?_
 exact ⟨_, _, by rfl, by exact Kd.Q_mono (Kd.Q_far (p := ⟨gbz0, 8, none⟩) (Kd.Q_far (p := ⟨gbz0, 7, none⟩) (Kd.Q_far (p := ⟨gbz0, 6, none⟩) (Kd.Q_far (p := ⟨gbz0, 5, none⟩) (Kd.Q_far (p := ⟨gbz0, 4, none⟩) (Kd.Q_far (p := ⟨gbz0, 3, none⟩) (Kd.Q_far (p := ⟨gbz0, 2, none⟩) (Kd.Q_far (p := ⟨gbz0, 1, none⟩) (Kd.Q_far (p := ⟨gbz0, 0, none⟩) (Kd.Q_far (p := ⟨gbz1, 3, none⟩) (Kd.Q_far (p := ⟨gbz1, 2, none⟩) (Kd.Q_far (p := ⟨gbz1, 1, none⟩) (Kd.Q_far (p := ⟨gbz1, 0, none⟩) (Kd.Q_types (Kd.Q_types HOz0.out BKz1.out (by decide)) BKz0.out (by decide)) (fun _ hk => hk.1.2) (.int .i64 tz5)) (fun _ hk => hk.1.2) (.int .i64 tz7)) (fun _ hk => hk.1.2) (.int .i64 tz9)) (fun _ hk => hk.1.2) (.slice Ao8 tz11.length co8)) (fun _ hk => hk.2) (.int .i64 tz0)) (fun _ hk => hk.2) (.int .i64 tz1)) (fun _ hk => hk.2) (.int .i64 tz2)) (fun _ hk => hk.2) (.slice Ao10 tz3.length co10)) (fun _ hk => hk.2) (.int .i64 tz4)) (fun _ hk => hk.2) (.int .i64 tz6)) (fun _ hk => hk.2) (.int .i64 tz8)) (fun _ hk => hk.2) (.int .i64 tz10)) (fun _ hk => hk.2) (.bool tz12)) (fun _ hk => hk.1.1), by exact Kd.Q_mono (Kd.Q_far (p := ⟨gbz0, 8, none⟩) (Kd.Q_far (p := ⟨gbz0, 7, none⟩) (Kd.Q_far (p := ⟨gbz0, 6, none⟩) (Kd.Q_far (p := ⟨gbz0, 5, none⟩) (Kd.Q_far (p := ⟨gbz0, 4, none⟩) (Kd.Q_far (p := ⟨gbz0, 3, none⟩) (Kd.Q_far (p := ⟨gbz0, 2, none⟩) (Kd.Q_far (p := ⟨gbz0, 1, none⟩) (Kd.Q_far (p := ⟨gbz0, 0, none⟩) (Kd.Q_far (p := ⟨gbz1, 3, none⟩) (Kd.Q_far (p := ⟨gbz1, 2, none⟩) (Kd.Q_far (p := ⟨gbz1, 1, none⟩) (Kd.Q_far (p := ⟨gbz1, 0, none⟩) (Kd.Q_types (Kd.Q_types HOz1.out BKz1.out (by decide)) BKz0.out (by decide)) (fun _ hk => hk.1.2) (.int .i64 tz5)) (fun _ hk => hk.1.2) (.int .i64 tz7)) (fun _ hk => hk.1.2) (.int .i64 tz9)) (fun _ hk => hk.1.2) (.slice Ao8 tz11.length co8)) (fun _ hk => hk.2) (.int .i64 tz0)) (fun _ hk => hk.2) (.int .i64 tz1)) (fun _ hk => hk.2) (.int .i64 tz2)) (fun _ hk => hk.2) (.slice Ao10 tz3.length co10)) (fun _ hk => hk.2) (.int .i64 tz4)) (fun _ hk => hk.2) (.int .i64 tz6)) (fun _ hk => hk.2) (.int .i64 tz8)) (fun _ hk => hk.2) (.int .i64 tz10)) (fun _ hk => hk.2) (.bool tz12)) (fun _ hk => hk.1.1), by repeat (with_reducible first | exact HB.out | refine below_set ?_ GEz0.out | refine below_set ?_ GEz1.out)⟩

end Go.Proofs.Ytnofkbbcbpjhfaa.Q

/- A part of a row of one's own is overwritten by a copy; loads of images and numbers in a region that draws its order. -/
namespace Go.Proofs.Ytnofkbbcbpjhfaa.Q
open Go.RowKit Go.Proofs.YtnofkbbcbpjhfaaW.PrintWords Go.Proofs.YtnofkbbcbpjhfaaW.PrintLast Go.Proofs.YtnofkbbcbpjhfaaW.PrintMore
attribute [local go_sem] max2_int min2_int max_two min_two max_three min_three max_four min_four
set_option linter.unusedVariables false
set_option linter.unusedSimpArgs false

theorem fn_runs {P : Program} {oi : Oper} {a : Act} {w : World} {x : Operand} {ws : Array Operand} {ts : Array TypeId} (q : Nat) (lb : Array Value) (eg : ∀ args W, (callFunc q args).run P W = .ok (.enter q args) W)
    (hop : oi.op = .call { callee := .value x, args := ws, argTypes := ts }) (hx : a.eval x = .func (.func q) #[] lb) (args : Array Value) (hargs : ws.map a.eval ++ lb = args) : (execOp a.eval oi).run P w = .ok (.enter q args) w := by
  unfold execOp
  simp [hop, resolve, hx, Deferred.ofValue, invoke, hargs, eg]
def rowD (px : Nat → Nat → List Int) (a y : Nat) : List Int := (List.range a).flatMap (fun x => px x y)
def imgD (px : Nat → Nat → List Int) (a b : Nat) : List Int := (List.range b).flatMap (fun y => rowD px a y)
theorem rowD_succ (px : Nat → Nat → List Int) (a y : Nat) : rowD px (a + 1) y = rowD px a y ++ px a y := by unfold rowD; rw [List.range_succ, List.flatMap_append]; simp
theorem imgD_succ (px : Nat → Nat → List Int) (a b : Nat) : imgD px a (b + 1) = imgD px a b ++ rowD px a b := by unfold imgD; rw [List.range_succ, List.flatMap_append]; simp
end Go.Proofs.Ytnofkbbcbpjhfaa.Q

/- Plain words: numbers that do not wrap, elements of lists, rounds that are enough. -/
namespace Go.Proofs.Ytnofkbbcbpjhfaa.Pure
open Go.RowKit Go.Proofs.Ytnofkbbcbpjhfaa.Q Go.Proofs.YtnofkbbcbpjhfaaW.PrintWords Go.Proofs.YtnofkbbcbpjhfaaW.PrintLast Go.Proofs.YtnofkbbcbpjhfaaW.PrintMore
set_option linter.unusedVariables false
set_option linter.unusedSimpArgs false

theorem w64 {x : Int} (h1 : -9223372036854775808 ≤ x) (h2 : x ≤ 9223372036854775807) : wrap64 x = x := by unfold wrap64; omega
theorem w64n (n : Nat) (h : n < 9223372036854775807) : wrap64 ((n : Int) + 1) = ((n + 1 : Nat) : Int) := by unfold wrap64; omega
theorem rd_nat (l : List Int) (i : Nat) (h : i < l.length) : rd l (i : Int) = l[i] := by simp [rd, h]
theorem tdiv_nn (a b : Int) (h : 0 ≤ a) : Int.tdiv a b = a / b := Int.tdiv_eq_ediv_of_nonneg h
theorem tmod_nn (a b : Int) (h : 0 ≤ a) : Int.tmod a b = a % b := Int.tmod_eq_emod_of_nonneg h
theorem ev_of {α : Type} {g : Nat → Option α} {r : α} (K : Nat) (h : ∀ k, K < k → g k = some r) : Ev g r := ⟨K + 1, fun k hk => h k (by omega)⟩
theorem ev_const {α : Type} {o : Option α} {r : α} (h : o = some r) : Ev (fun _ => o) r := ⟨0, fun _ _ => h⟩
theorem ev_bind {α β : Type} {g : Nat → Option α} {f : Nat → α → Option β} {a : α} {r : β} (h : Ev g a) (k : Ev (fun n => f n a) r) : Ev (fun n => (g n).bind (f n)) r := Ev.bind h k
theorem ev_now {α β : Type} {o : Option α} {f : Nat → α → Option β} {a : α} {r : β} (h : o = some a) (k : Ev (fun n => f n a) r) : Ev (fun n => o.bind (f n)) r := Ev.bind (ev_const h) k
theorem ev_pos {α : Type} {c : Prop} [Decidable c] {f g : Nat → Option α} {r : α} (h : c) (k : Ev f r) : Ev (fun n => if c then f n else g n) r := by
 simpa [h] using k
theorem ev_neg {α : Type} {c : Prop} [Decidable c] {f g : Nat → Option α} {r : α} (h : ¬ c) (k : Ev g r) : Ev (fun n => if c then f n else g n) r := by
 simpa [h] using k
theorem mn_def (a b : Int) : mn a b = min a b := by unfold mn; omega
theorem mx_def (a b : Int) : mx a b = max a b := by unfold mx; omega
theorem ev_up {σ ρ : Type} (n : Nat) (L : Nat → Nat → σ → Option ρ) (Inv : Nat → σ → Prop) (F : Nat → σ → ρ)
  (step : ∀ i s, i < n → Inv i s → Ev (fun k => L k i s) (F i s) ∨ ∃ s', (∀ k, L (k + 1) i s = L k (i + 1) s') ∧ Inv (i + 1) s' ∧ F (i + 1) s' = F i s)
  (last : ∀ s, Inv n s → Ev (fun k => L k n s) (F n s)) :
  ∀ d i s, i + d = n → Inv i s → Ev (fun k => L k i s) (F i s) := by
 intro d
 induction d with
 | zero =>
  intro i s hi hinv
  have : i = n := by omega
  subst this
  exact last s hinv
 | succ d ih =>
  intro i s hi hinv
  rcases step i s (by omega) hinv with h | ⟨s', h, hi', hF⟩
  ·exact h
  ·rw [← hF]
   exact Ev.step h (ih (i + 1) s' (by omega) hi')
theorem ev_up2 {σ ρ : Type} (n : Nat) (L : Nat → Nat → σ → Option ρ) (Inv : Nat → σ → Prop) (F : Nat → σ → ρ)
  (step : ∀ i s, i < n → Inv i s → Ev (fun k => L k i s) (F i s) ∨ ∃ s', (∀ r, Ev (fun k => L k (i + 1) s') r → Ev (fun k => L k i s) r) ∧ Inv (i + 1) s' ∧ F (i + 1) s' = F i s)
  (last : ∀ s, Inv n s → Ev (fun k => L k n s) (F n s)) :
  ∀ d i s, i + d = n → Inv i s → Ev (fun k => L k i s) (F i s) := by
 intro d
 induction d with
 | zero =>
  intro i s hi hinv
  have : i = n := by omega
  subst this
  exact last s hinv
 | succ d ih =>
  intro i s hi hinv
  rcases step i s (by omega) hinv with h | ⟨s', h, hi', hF⟩
  ·exact h
  ·rw [← hF]
   exact h _ (ih (i + 1) s' (by omega) hi')
theorem ev_val {α : Type} {g : Nat → Option α} {r r' : α} (h : Ev g r) (e : r = r') : Ev g r' := e ▸ h
end Go.Proofs.Ytnofkbbcbpjhfaa.Pure

/- (impl.Image).at: the numbers of a pixel, in the memory of the image. -/
namespace Go.Proofs.Ytnofkbbcbpjhfaa.Q
open Go.RowKit Go.Proofs.YtnofkbbcbpjhfaaW.PrintWords Go.Proofs.YtnofkbbcbpjhfaaW.PrintLast Go.Proofs.YtnofkbbcbpjhfaaW.PrintMore
attribute [local go_sem] max2_int min2_int max_two min_two max_three min_three max_four min_four
set_option linter.unusedVariables false
set_option linter.unusedSimpArgs false
open Go.Proofs.Ytnofkbbcbpjhfaa.Pure

def pixT (d : List Int) (j p : Int) : List Int := (d.take (wrap64 (j + p) : Int).toNat).drop (j : Int).toNat
set_option maxHeartbeats 1600000 in
set_option maxRecDepth 100000 in
theorem at_callsX (a b p : Int) (A : Option Addr) (c n : Nat) (x y j : Int) (hc : n ≤ c) (hj : wrap64 ((wrap64 ((wrap64 (y * a)) + x)) * p) = j) (h0 : 0 ≤ j) (h1 : j ≤ wrap64 (j + p)) (h2 : wrap64 (j + p) ≤ (n : Int)) (A' : Option Addr) (hA : A' = if c = j.toNat then A else A.map (·.add (j.toNat * 1))) (w : World) :
  Calls Try.prog 109 #[.agg #[.int .i64 a, .int .i64 b, .int .i64 p, .slice A n c], .int .i64 x, .int .i64 y] w fun e w' => e = .returned (.slice A' ((wrap64 (j + p)).toNat - j.toNat) (c - j.toNat)) ∧ Below w.heap.size w w' := by
 obtain ⟨i0, hi0, _, hsz, _⟩ := info_parts info3
 have hcut := cut_mid (P := Try.prog) 22 3 .i64 .i64 Try.underlying22 hi0 1 hsz A n c j (wrap64 (j + p)) h0 h1 h2 hc
 rw [← hA] at hcut
 clear hA
 have hu := Try.underlying27
 have hjw : (IntKind.i64.wrap ((wrap64 ((wrap64 (y * a)) + x)) * p)) = j := (i64_w _).trans hj
 have d0 : decide (0 ≤ j) = true := decide_eq_true h0
 have d1 : decide (j ≤ wrap64 (j + p)) = true := decide_eq_true h1
 have d2 : decide (wrap64 (j + p) ≤ (n : Int)) = true := decide_eq_true h2
 have e0 := eq_true h0
 have e1 := eq_true h1
 have e2 := eq_true h2
 clear hi0 hsz hj
 go_enter Try.func109, Try.ntmps109
 go_wp2_with (first | ((with_reducible refine gate_dst (N := 3) rfl ?_); refine box_event ?hg (N := 3) ?hd (cs := #[.int .i64 a, .int .i64 b, .int .i64 p, .slice A n c]) (t := 27) ?hr ?_; (case hd => rfl); (case hg => rfl); (case hr => first | (go_simp; done) | (go_simp; rfl)); intro gb hg w9 hbox hb; have HB := Aside0.mk (below_step (Below.refl w.heap.size w) hb); have BK := Aside0.mk hbox; have hcz0 : w9.cell? ⟨gb, 0, none⟩ = some (.int .i64 a) := (blk_cell BK.out 0).trans rfl; have hcz1 : w9.cell? ⟨gb, 1, none⟩ = some (.int .i64 b) := (blk_cell BK.out 1).trans rfl; have hcz2 : w9.cell? ⟨gb, 2, none⟩ = some (.int .i64 p) := (blk_cell BK.out 2).trans rfl; have hcz3 : w9.cell? ⟨gb, 3, none⟩ = some (.slice A n c) := (blk_cell BK.out 3).trans rfl; clear hbox hb hg))
 go_ret
 exact ⟨rfl, HB.out⟩
theorem pixT_length (d : List Int) (j p : Int) (h2 : wrap64 (j + p) ≤ (d.length : Int)) : (pixT d j p).length = (wrap64 (j + p)).toNat - j.toNat := by
 unfold pixT
 rw [List.length_drop, List.length_take, Nat.min_eq_left (by omega)]
theorem pixT_C {w : World} {A : Option Addr} {c : Nat} {d : List Int} {j p : Int} (h : Kd.C (Kd.int .i64) w A d.length d) (hc : d.length ≤ c) (h1 : j ≤ wrap64 (j + p)) (h2 : wrap64 (j + p) ≤ (d.length : Int)) :
  Kd.C (Kd.int .i64) w (if c = j.toNat then A else A.map (·.add (j.toNat * 1))) (pixT d j p).length (pixT d j p) := Kd.C_mid h (by omega) (by omega) hc
theorem at_calls (a b p : Int) (A : Option Addr) (c : Nat) (d : List Int) (x y j : Int) (hc : d.length ≤ c) (hj : wrap64 ((wrap64 ((wrap64 (y * a)) + x)) * p) = j) (h0 : 0 ≤ j) (h1 : j ≤ wrap64 (j + p)) (h2 : wrap64 (j + p) ≤ (d.length : Int)) :
  ∃ (A' : Option Addr) (c' : Nat), (pixT d j p).length ≤ c' ∧ ∀ w : World, Kd.C (Kd.int .i64) w A d.length d → (Kd.C (Kd.int .i64) w A' (pixT d j p).length (pixT d j p) ∧
   Calls Try.prog 109 #[.agg #[.int .i64 a, .int .i64 b, .int .i64 p, .slice A d.length c], .int .i64 x, .int .i64 y] w fun e w' => e = .returned (.slice A' (pixT d j p).length c') ∧ Below w.heap.size w w') := by
 refine ⟨_, c - j.toNat, by rw [pixT_length d j p h2]; omega, fun w hr => ⟨pixT_C hr hc h1 h2, ?_⟩⟩
 rw [pixT_length d j p h2]
 exact at_callsX a b p A c d.length x y j hc hj h0 h1 h2 _ rfl w
end Go.Proofs.Ytnofkbbcbpjhfaa.Q

/- Images: valid ones, as the program and the reference have it; copies of lists of numbers. -/
namespace Go.Proofs.Ytnofkbbcbpjhfaa.Pure
open Go.RowKit Go.Proofs.Ytnofkbbcbpjhfaa.Q Go.Proofs.YtnofkbbcbpjhfaaW.PrintWords Go.Proofs.YtnofkbbcbpjhfaaW.PrintLast Go.Proofs.YtnofkbbcbpjhfaaW.PrintMore
set_option linter.unusedVariables false
set_option linter.unusedSimpArgs false

def byteI (n : Int) : Bool := decide (0 ≤ n) && decide (n ≤ 255)
def shapeI (w h p : Int) : Bool := decide (1 ≤ w ∧ w ≤ 16 ∧ 1 ≤ h ∧ h ≤ 16 ∧ 1 ≤ p ∧ p ≤ 4)
theorem shapeI_iff (w h p : Int) : shapeI w h p = true ↔ 1 ≤ w ∧ w ≤ 16 ∧ 1 ≤ h ∧ h ≤ 16 ∧ 1 ≤ p ∧ p ≤ 4 := by simp [shapeI]
def validI (w h p : Int) (d : List Int) : Bool := shapeI w h p && (decide ((d.length : Int) = w * h * p) && d.all byteI)
theorem validI_iff (w h p : Int) (d : List Int) : validI w h p d = true ↔ (1 ≤ w ∧ w ≤ 16 ∧ 1 ≤ h ∧ h ≤ 16 ∧ 1 ≤ p ∧ p ≤ 4) ∧ (d.length : Int) = w * h * p ∧ ∀ n ∈ d, 0 ≤ n ∧ n ≤ 255 := by
 simp [validI, shapeI_iff, byteI, and_assoc]
theorem shape_prod {w h p : Int} (hs : 1 ≤ w ∧ w ≤ 16 ∧ 1 ≤ h ∧ h ≤ 16 ∧ 1 ≤ p ∧ p ≤ 4) : 0 ≤ w * h ∧ w * h ≤ 256 ∧ 0 ≤ w * h * p ∧ w * h * p ≤ 1024 := by
 have h1 : 0 ≤ w * h := Int.mul_nonneg (by omega) (by omega)
 have h2 : w * h ≤ 16 * 16 := Int.mul_le_mul (by omega) (by omega) (by omega) (by omega)
 have h3 : 0 ≤ w * h * p := Int.mul_nonneg h1 (by omega)
 have h4 : w * h * p ≤ 256 * 4 := Int.mul_le_mul (by omega) (by omega) (by omega) (by omega)
 omega
theorem shape_wrap {w h p : Int} (hs : 1 ≤ w ∧ w ≤ 16 ∧ 1 ≤ h ∧ h ≤ 16 ∧ 1 ≤ p ∧ p ≤ 4) : wrap64 (wrap64 (w * h) * p) = w * h * p := by
 have := shape_prod hs
 rw [w64 (x := w * h) (by omega) (by omega), w64 (by omega) (by omega)]
theorem impl_isSide_eq (a : Int) : impl_isSide.f a = some (decide (1 ≤ a ∧ a ≤ 16)) := by
 unfold impl_isSide.f
 by_cases c : a ≥ 1
 ·rw [if_pos c]; congr 1; rw [decide_eq_decide]; omega
 ·rw [if_neg c, decide_eq_false (by omega)]
theorem impl_isShape_eq (w h p : Int) : impl_isShape.f w h p = some (shapeI w h p) := by
 unfold impl_isShape.f shapeI
 rw [impl_isSide_eq, impl_isSide_eq]
 simp only [Option.bind_some]
 by_cases c1 : 1 ≤ w ∧ w ≤ 16
 ·rw [if_pos (by simpa using c1)]
  by_cases c2 : 1 ≤ h ∧ h ≤ 16
  ·rw [if_pos (by simpa using c2)]
   by_cases c3 : p ≥ 1
   ·rw [if_pos c3]; congr 1; rw [decide_eq_decide]; omega
   ·rw [if_neg c3, decide_eq_false (by omega)]
  ·rw [if_neg (by simpa using c2), decide_eq_false (by omega)]
 ·rw [if_neg (by simpa using c1), decide_eq_false (by omega)]
theorem areBytesI_eq (l : List Int) : impl_areBytes.f l = some (l.all byteI) := by
 unfold impl_areBytes.f
 congr 1
 rw [List.not_any_eq_all_not]
 congr 1
 funext n
 unfold notByte byteI
 rw [Bool.eq_iff_iff]
 simp
theorem impl_isImage_eq (w h p : Int) (d : List Int) : impl_isImage.f w h p d = some (validI w h p d) := by
 unfold impl_isImage.f validI
 rw [impl_isShape_eq, areBytesI_eq]
 simp only [Option.bind_some]
 by_cases c : shapeI w h p = true
 ·rw [if_pos c, shape_wrap ((shapeI_iff w h p).1 c), c]
  by_cases e : (d.length : Int) = w * h * p
  ·rw [if_pos e, decide_eq_true e]; rfl
  ·rw [if_neg e, decide_eq_false e]; rfl
 ·rw [if_neg c, Bool.eq_false_iff.2 c]; rfl
theorem spec_inRangeI_eq (n a b : Int) : spec_inRange.f n a b = some (decide (a ≤ n) && decide (n ≤ b)) := by
 unfold spec_inRange.f
 by_cases c : a ≤ n
 ·rw [if_pos c, decide_eq_true c, Bool.true_and]
 ·rw [if_neg c, decide_eq_false c, Bool.false_and]
theorem spec_validShape_eq (w h p : Int) : spec_validShape.f w h p = some (shapeI w h p) := by
 unfold spec_validShape.f shapeI
 rw [spec_inRangeI_eq, spec_inRangeI_eq, spec_inRangeI_eq]
 simp only [Option.bind_some]
 by_cases c1 : 1 ≤ w ∧ w ≤ 16
 ·rw [if_pos (by simpa using c1)]
  by_cases c2 : 1 ≤ h ∧ h ≤ 16
  ·rw [if_pos (by simpa using c2)]; congr 1; rw [Bool.eq_iff_iff]; simp; omega
  ·rw [if_neg (by simpa using c2), decide_eq_false (by omega)]
 ·rw [if_neg (by simpa using c1), decide_eq_false (by omega)]
theorem spec_allInI_ev (l : List Int) (hl : l.length ≤ 1000000000000) : Ev (fun k => spec_allIn.f k l 0 255) (l.all byteI) := by
 have key := ev_up l.length (fun k i (_ : Unit) => spec_allIn.l0 k l 0 255 (i : Int)) (fun _ _ => True) (fun i _ => (l.drop i).all byteI)
  (by
   intro i s hi _
   have hd : (l.drop i).all byteI = (byteI l[i] && (l.drop (i + 1)).all byteI) := by rw [List.drop_eq_getElem_cons hi, List.all_cons]
   cases hb : byteI l[i] with
   | true =>
    right
    refine ⟨(), fun k => ?_, trivial, by rw [hd, hb, Bool.true_and]⟩
    simp only [spec_allIn.l0]
    rw [if_pos (by omega), if_pos (by omega), rd_nat l i hi, spec_inRangeI_eq]
    simp only [Option.bind_some]
    rw [if_pos (show (decide (0 ≤ l[i]) && decide (l[i] ≤ 255)) = true from hb), w64n i (by omega)]
   | false =>
    left
    rw [hd, hb, Bool.false_and]
    refine Ev.step (f := fun _ => some false) (fun k => ?_) (Ev.now false)
    simp only [spec_allIn.l0]
    rw [if_pos (by omega), if_pos (by omega), rd_nat l i hi, spec_inRangeI_eq]
    simp only [Option.bind_some]
    rw [if_neg (Bool.eq_false_iff.1 (show (decide (0 ≤ l[i]) && decide (l[i] ≤ 255)) = false from hb))])
  (by
   intro s _
   rw [List.drop_length]
   refine Ev.step (f := fun _ => some true) (fun k => ?_) (Ev.now true)
   simp only [spec_allIn.l0]
   rw [if_neg (by omega)])
  l.length 0 () (by omega) trivial
 unfold spec_allIn.f
 simpa using key
theorem spec_validImage_ev (w h p : Int) (d : List Int) (hl : d.length ≤ 1000000000000) : Ev (fun k => spec_validImage.f k w h p d) (validI w h p d) := by
 unfold spec_validImage.f validI
 refine ev_now (spec_validShape_eq w h p) ?_
 by_cases c : shapeI w h p = true
 ·refine ev_pos c ?_
  rw [shape_wrap ((shapeI_iff w h p).1 c), c, Bool.true_and]
  by_cases e : (d.length : Int) = w * h * p
  ·refine ev_pos e ?_
   rw [decide_eq_true e, Bool.true_and]
   exact ev_bind (spec_allInI_ev d hl) (Ev.now _)
  ·refine ev_neg e ?_
   rw [decide_eq_false e]
   exact Ev.now _
 ·refine ev_neg c ?_
  rw [Bool.eq_false_iff.2 c]
  exact Ev.now _

/- A pixel's numbers, and where they lie. -/

def pixJ (a p : Int) (x y : Nat) : Int := wrap64 ((wrap64 ((wrap64 ((y : Int) * a)) + (x : Int))) * p)
theorem pixJ_is {a b p : Int} {d : List Int} (hv : validI a b p d = true) {x y : Nat} (hx : (x : Int) < a) (hy : (y : Int) < b) : 0 ≤ pixJ a p x y ∧ pixJ a p x y ≤ 1024 ∧ pixJ a p x y = ((y : Int) * a + x) * p ∧ pixJ a p x y + p ≤ (d.length : Int) := by
 have h := (validI_iff a b p d).1 hv
 have hp := shape_prod h.1
 have h1 : 0 ≤ (y : Int) * a := Int.mul_nonneg (by omega) (by omega)
 have h2 : (y : Int) * a ≤ (b - 1) * a := Int.mul_le_mul_of_nonneg_right (by omega) (by omega)
 have h3 : (b - 1) * a = a * b - a := by rw [Int.sub_mul, Int.mul_comm b a]; omega
 have h4 : 0 ≤ ((y : Int) * a + x) * p := Int.mul_nonneg (by omega) (by omega)
 have h5 : ((y : Int) * a + x) * p ≤ (a * b - 1) * p := Int.mul_le_mul_of_nonneg_right (by omega) (by omega)
 have h6 : (a * b - 1) * p = a * b * p - p := by rw [Int.sub_mul]; omega
 have e : pixJ a p x y = ((y : Int) * a + x) * p := by
  unfold pixJ
  rw [w64 (x := (y : Int) * a) (by omega) (by omega), w64 (x := (y : Int) * a + (x : Int)) (by omega) (by omega), w64 (by omega) (by omega)]
 omega
end Go.Proofs.Ytnofkbbcbpjhfaa.Pure

/- A pixel's numbers read out of an image that is valid. -/
namespace Go.Proofs.Ytnofkbbcbpjhfaa.Q
open Go.RowKit Go.Proofs.YtnofkbbcbpjhfaaW.PrintWords Go.Proofs.YtnofkbbcbpjhfaaW.PrintLast Go.Proofs.YtnofkbbcbpjhfaaW.PrintMore
attribute [local go_sem] max2_int min2_int max_two min_two max_three min_three max_four min_four
set_option linter.unusedVariables false
set_option linter.unusedSimpArgs false
open Go.Proofs.Ytnofkbbcbpjhfaa.Pure

def pxAt (a p : Int) (d : List Int) (x y : Nat) : List Int := pixT d (pixJ a p x y) p
theorem pxAt_len {a b p : Int} {d : List Int} (hv : validI a b p d = true) {x y : Nat} (hx : (x : Int) < a) (hy : (y : Int) < b) : ((pxAt a p d x y).length : Int) = p := by
  have hb := pixJ_is hv hx hy
  have hs := ((validI_iff a b p d).1 hv).1
  unfold pxAt
  rw [pixT_length _ _ _ (by rw [w64 (by omega) (by omega)]; omega), w64 (by omega) (by omega)]
  omega
theorem pxAt_le {a b p : Int} {d : List Int} (hv : validI a b p d = true) {x y : Nat} (hx : (x : Int) < a) (hy : (y : Int) < b) : (pxAt a p d x y).length ≤ 4 := by
  have h1 := pxAt_len hv hx hy
  have hs := ((validI_iff a b p d).1 hv).1
  omega
theorem at_px {a b p : Int} (A : Option Addr) (c : Nat) {d : List Int} (hv : validI a b p d = true) (hc : d.length ≤ c) {x y : Nat} (hx : (x : Int) < a) (hy : (y : Int) < b) :
    ∃ (A' : Option Addr) (c' : Nat), (pxAt a p d x y).length ≤ c' ∧ ∀ w : World, Kd.C (Kd.int .i64) w A d.length d → (Kd.C (Kd.int .i64) w A' (pxAt a p d x y).length (pxAt a p d x y) ∧
      Calls Try.prog 109 #[.agg #[.int .i64 a, .int .i64 b, .int .i64 p, .slice A d.length c], .int .i64 (x : Int), .int .i64 (y : Int)] w fun e w' => e = .returned (.slice A' (pxAt a p d x y).length c') ∧ Below w.heap.size w w') := by
  have hb := pixJ_is hv hx hy
  have hs := ((validI_iff a b p d).1 hv).1
  have hw : wrap64 (pixJ a p x y + p) = pixJ a p x y + p := w64 (by omega) (by omega)
  exact at_calls a b p A c d (x : Int) (y : Int) (pixJ a p x y) hc rfl (by omega) (by omega) (by omega)
end Go.Proofs.Ytnofkbbcbpjhfaa.Q

namespace Go.Proofs.Ytnofkbbcbpjhfaa.Q
open Go.RowKit Go.Proofs.YtnofkbbcbpjhfaaW.PrintWords Go.Proofs.YtnofkbbcbpjhfaaW.PrintLast Go.Proofs.YtnofkbbcbpjhfaaW.PrintMore
open Go.Proofs.YtnofkbbcbpjhfaaW.PrintWords.Aside0 (mk)
attribute [local go_sem] max2_int min2_int max_two min_two max_three min_three max_four min_four
set_option linter.unusedVariables false
set_option linter.unusedSimpArgs false
def impl_Box_has.f (a0_0 : Int) (a0_1 : Int) (a0_2 : Int) (a0_3 : Int) (a1 : Int) (a2 : Int) : Option (Bool) := if a1 ≥ a0_0 then (if a1 < (wrap64 (a0_0 + a0_2)) then (if a2 ≥ a0_1 then (some (decide (a2 < (wrap64 (a0_1 + a0_3))))) else (some false)) else (some false)) else (some false)
set_option maxHeartbeats 8000000 in
set_option maxRecDepth 100000 in
theorem impl_Box_has.calls (a0_0 : Int) (a0_1 : Int) (a0_2 : Int) (a0_3 : Int) (a1 : Int) (a2 : Int) (r : Bool) (w : World) (h : impl_Box_has.f a0_0 a0_1 a0_2 a0_3 a1 a2 = some r) :
  Calls Try.prog 97 #[.agg #[.int .i64 a0_0, .int .i64 a0_1, .int .i64 a0_2, .int .i64 a0_3], .int .i64 a1, .int .i64 a2] w fun e w' => e = .returned (.bool r) ∧ Below w.heap.size w w' := by
 have hu47 := Try.underlying47
 have HB := mk (Below.refl w.heap.size w)
 have H : (if a1 ≥ a0_0 then (if a1 < (wrap64 (a0_0 + a0_2)) then (if a2 ≥ a0_1 then (some (decide (a2 < (wrap64 (a0_1 + a0_3))))) else (some false)) else (some false)) else (some false)) = some r := h
 clear h
 by_cases c4 : a1 ≥ a0_0
 ·rw [if_pos c4] at H
  have c4b0 : decide (a0_0 ≤ a1) = true := decide_eq_true c4
  clear c4
  by_cases c5 : a1 < (wrap64 (a0_0 + a0_2))
  ·rw [if_pos c5] at H
   have c5b0 : decide (a1 < (wrap64 (a0_0 + a0_2))) = true := decide_eq_true c5
   clear c5
   by_cases c6 : a2 ≥ a0_1
   ·rw [if_pos c6] at H
    have c6b0 : decide (a0_1 ≤ a2) = true := decide_eq_true c6
    clear c6
    obtain rfl := Option.some.inj H
    go_enter Try.func97, Try.ntmps97
    go_wp2_with (first | ((with_reducible refine gate_dst (N := 3) rfl ?_); refine box_event ?hg (N := 3) ?hd (cs := #[.int .i64 a0_0, .int .i64 a0_1, .int .i64 a0_2, .int .i64 a0_3]) (t := 47) ?hr ?_; (case hd => rfl); (case hg => rfl); (case hr => first | (go_simp; done) | (go_simp; rfl)); intro gb98001 hg w7 hbox hb; have n0_ := mk (below_step (by repeat (first | (with_reducible first | exact HB.out | apply below_alloc | apply pw_below_drewN | apply below_drew1) | exact HB.out)) hb); have n1_ := mk (hbox); have n2_ := mk ((by rw [hg]; exact (below_size (by repeat (first | (with_reducible first | exact HB.out | apply below_alloc | apply pw_below_drewN | apply below_drew1) | exact HB.out))) : w.heap.size ≤ gb98001)); have n3_ := mk ((by rw [hg]; exact (below_size (by repeat (first | (with_reducible first | exact HB.out | apply below_alloc | apply pw_below_drewN | apply below_drew1) | exact HB.out))) : w.heap.size ≤ gb98001)); clear HB; have HB := n0_; have BK98001 := n1_; have GW98001 := n2_; have GE98001 := n3_; clear n0_ n1_ n2_ n3_; clear hb hbox hg; have hcz8_0 : w7.cell? ⟨gb98001, 0, none⟩ = some (.int .i64 a0_0) := (blk_cell BK98001.out 0).trans rfl; have hcz8_1 : w7.cell? ⟨gb98001, 1, none⟩ = some (.int .i64 a0_1) := (blk_cell BK98001.out 1).trans rfl; have hcz8_2 : w7.cell? ⟨gb98001, 2, none⟩ = some (.int .i64 a0_2) := (blk_cell BK98001.out 2).trans rfl; have hcz8_3 : w7.cell? ⟨gb98001, 3, none⟩ = some (.int .i64 a0_3) := (blk_cell BK98001.out 3).trans rfl; have hfz8_0 := blk_frozen BK98001.out 0; have hfz8_1 := blk_frozen BK98001.out 1; have hfz8_2 := blk_frozen BK98001.out 2; have hfz8_3 := blk_frozen BK98001.out 3))
    go_ret
    exact ⟨by first | rfl | (simp [errW_none, errW_some] <;> rfl) | (simp [*, errW_none, errW_some] <;> rfl), by repeat (first | (with_reducible first | exact HB.out | apply below_alloc | apply pw_below_drewN | apply below_drew1 | refine below_set ?_ GE98001.out) | exact HB.out)⟩
   ·rw [if_neg c6] at H
    have c6b0 : decide (a0_1 ≤ a2) = false := decide_eq_false c6
    clear c6
    obtain rfl := Option.some.inj H
    go_enter Try.func97, Try.ntmps97
    go_wp2_with (first | ((with_reducible refine gate_dst (N := 3) rfl ?_); refine box_event ?hg (N := 3) ?hd (cs := #[.int .i64 a0_0, .int .i64 a0_1, .int .i64 a0_2, .int .i64 a0_3]) (t := 47) ?hr ?_; (case hd => rfl); (case hg => rfl); (case hr => first | (go_simp; done) | (go_simp; rfl)); intro gb98001 hg w9 hbox hb; have n0_ := mk (below_step (by repeat (first | (with_reducible first | exact HB.out | apply below_alloc | apply pw_below_drewN | apply below_drew1) | exact HB.out)) hb); have n1_ := mk (hbox); have n2_ := mk ((by rw [hg]; exact (below_size (by repeat (first | (with_reducible first | exact HB.out | apply below_alloc | apply pw_below_drewN | apply below_drew1) | exact HB.out))) : w.heap.size ≤ gb98001)); have n3_ := mk ((by rw [hg]; exact (below_size (by repeat (first | (with_reducible first | exact HB.out | apply below_alloc | apply pw_below_drewN | apply below_drew1) | exact HB.out))) : w.heap.size ≤ gb98001)); clear HB; have HB := n0_; have BK98001 := n1_; have GW98001 := n2_; have GE98001 := n3_; clear n0_ n1_ n2_ n3_; clear hb hbox hg; have hcz10_0 : w9.cell? ⟨gb98001, 0, none⟩ = some (.int .i64 a0_0) := (blk_cell BK98001.out 0).trans rfl; have hcz10_1 : w9.cell? ⟨gb98001, 1, none⟩ = some (.int .i64 a0_1) := (blk_cell BK98001.out 1).trans rfl; have hcz10_2 : w9.cell? ⟨gb98001, 2, none⟩ = some (.int .i64 a0_2) := (blk_cell BK98001.out 2).trans rfl; have hcz10_3 : w9.cell? ⟨gb98001, 3, none⟩ = some (.int .i64 a0_3) := (blk_cell BK98001.out 3).trans rfl; have hfz10_0 := blk_frozen BK98001.out 0; have hfz10_1 := blk_frozen BK98001.out 1; have hfz10_2 := blk_frozen BK98001.out 2; have hfz10_3 := blk_frozen BK98001.out 3))
    go_ret
    exact ⟨by first | rfl | (simp [errW_none, errW_some] <;> rfl) | (simp [*, errW_none, errW_some] <;> rfl), by repeat (first | (with_reducible first | exact HB.out | apply below_alloc | apply pw_below_drewN | apply below_drew1 | refine below_set ?_ GE98001.out) | exact HB.out)⟩
  ·rw [if_neg c5] at H
   have c5b0 : decide (a1 < (wrap64 (a0_0 + a0_2))) = false := decide_eq_false c5
   clear c5
   obtain rfl := Option.some.inj H
   go_enter Try.func97, Try.ntmps97
   go_wp2_with (first | ((with_reducible refine gate_dst (N := 3) rfl ?_); refine box_event ?hg (N := 3) ?hd (cs := #[.int .i64 a0_0, .int .i64 a0_1, .int .i64 a0_2, .int .i64 a0_3]) (t := 47) ?hr ?_; (case hd => rfl); (case hg => rfl); (case hr => first | (go_simp; done) | (go_simp; rfl)); intro gb98001 hg w11 hbox hb; have n0_ := mk (below_step (by repeat (first | (with_reducible first | exact HB.out | apply below_alloc | apply pw_below_drewN | apply below_drew1) | exact HB.out)) hb); have n1_ := mk (hbox); have n2_ := mk ((by rw [hg]; exact (below_size (by repeat (first | (with_reducible first | exact HB.out | apply below_alloc | apply pw_below_drewN | apply below_drew1) | exact HB.out))) : w.heap.size ≤ gb98001)); have n3_ := mk ((by rw [hg]; exact (below_size (by repeat (first | (with_reducible first | exact HB.out | apply below_alloc | apply pw_below_drewN | apply below_drew1) | exact HB.out))) : w.heap.size ≤ gb98001)); clear HB; have HB := n0_; have BK98001 := n1_; have GW98001 := n2_; have GE98001 := n3_; clear n0_ n1_ n2_ n3_; clear hb hbox hg; have hcz12_0 : w11.cell? ⟨gb98001, 0, none⟩ = some (.int .i64 a0_0) := (blk_cell BK98001.out 0).trans rfl; have hcz12_1 : w11.cell? ⟨gb98001, 1, none⟩ = some (.int .i64 a0_1) := (blk_cell BK98001.out 1).trans rfl; have hcz12_2 : w11.cell? ⟨gb98001, 2, none⟩ = some (.int .i64 a0_2) := (blk_cell BK98001.out 2).trans rfl; have hcz12_3 : w11.cell? ⟨gb98001, 3, none⟩ = some (.int .i64 a0_3) := (blk_cell BK98001.out 3).trans rfl; have hfz12_0 := blk_frozen BK98001.out 0; have hfz12_1 := blk_frozen BK98001.out 1; have hfz12_2 := blk_frozen BK98001.out 2; have hfz12_3 := blk_frozen BK98001.out 3))
   go_ret
   exact ⟨by first | rfl | (simp [errW_none, errW_some] <;> rfl) | (simp [*, errW_none, errW_some] <;> rfl), by repeat (first | (with_reducible first | exact HB.out | apply below_alloc | apply pw_below_drewN | apply below_drew1 | refine below_set ?_ GE98001.out) | exact HB.out)⟩
 ·rw [if_neg c4] at H
  have c4b0 : decide (a0_0 ≤ a1) = false := decide_eq_false c4
  clear c4
  obtain rfl := Option.some.inj H
  go_enter Try.func97, Try.ntmps97
  go_wp2_with (first | ((with_reducible refine gate_dst (N := 3) rfl ?_); refine box_event ?hg (N := 3) ?hd (cs := #[.int .i64 a0_0, .int .i64 a0_1, .int .i64 a0_2, .int .i64 a0_3]) (t := 47) ?hr ?_; (case hd => rfl); (case hg => rfl); (case hr => first | (go_simp; done) | (go_simp; rfl)); intro gb98001 hg w13 hbox hb; have n0_ := mk (below_step (by repeat (first | (with_reducible first | exact HB.out | apply below_alloc | apply pw_below_drewN | apply below_drew1) | exact HB.out)) hb); have n1_ := mk (hbox); have n2_ := mk ((by rw [hg]; exact (below_size (by repeat (first | (with_reducible first | exact HB.out | apply below_alloc | apply pw_below_drewN | apply below_drew1) | exact HB.out))) : w.heap.size ≤ gb98001)); have n3_ := mk ((by rw [hg]; exact (below_size (by repeat (first | (with_reducible first | exact HB.out | apply below_alloc | apply pw_below_drewN | apply below_drew1) | exact HB.out))) : w.heap.size ≤ gb98001)); clear HB; have HB := n0_; have BK98001 := n1_; have GW98001 := n2_; have GE98001 := n3_; clear n0_ n1_ n2_ n3_; clear hb hbox hg; have hcz14_0 : w13.cell? ⟨gb98001, 0, none⟩ = some (.int .i64 a0_0) := (blk_cell BK98001.out 0).trans rfl; have hcz14_1 : w13.cell? ⟨gb98001, 1, none⟩ = some (.int .i64 a0_1) := (blk_cell BK98001.out 1).trans rfl; have hcz14_2 : w13.cell? ⟨gb98001, 2, none⟩ = some (.int .i64 a0_2) := (blk_cell BK98001.out 2).trans rfl; have hcz14_3 : w13.cell? ⟨gb98001, 3, none⟩ = some (.int .i64 a0_3) := (blk_cell BK98001.out 3).trans rfl; have hfz14_0 := blk_frozen BK98001.out 0; have hfz14_1 := blk_frozen BK98001.out 1; have hfz14_2 := blk_frozen BK98001.out 2; have hfz14_3 := blk_frozen BK98001.out 3))
  go_ret
  exact ⟨by first | rfl | (simp [errW_none, errW_some] <;> rfl) | (simp [*, errW_none, errW_some] <;> rfl), by repeat (first | (with_reducible first | exact HB.out | apply below_alloc | apply pw_below_drewN | apply below_drew1 | refine below_set ?_ GE98001.out) | exact HB.out)⟩

end Go.Proofs.Ytnofkbbcbpjhfaa.Q

namespace Go.Proofs.Ytnofkbbcbpjhfaa.Q
open Go.RowKit Go.Proofs.YtnofkbbcbpjhfaaW.PrintWords Go.Proofs.YtnofkbbcbpjhfaaW.PrintLast Go.Proofs.YtnofkbbcbpjhfaaW.PrintMore
attribute [local go_sem] max2_int min2_int max_two min_two max_three min_three max_four min_four
set_option linter.unusedVariables false
set_option linter.unusedSimpArgs false
def impl_part255.f (a0 : Int) : Option (Int) := some (wrap64 (Int.tdiv (wrap64 ((wrap64 (2 * a0)) + 255)) 510))
set_option maxHeartbeats 8000000 in
set_option maxRecDepth 100000 in
theorem impl_part255.calls (a0 : Int) (r : Int) (w : World) (h : impl_part255.f a0 = some r) :
  Calls Try.prog 156 #[.int .i64 a0] w fun e w' => e = .returned (.int .i64 r) ∧ Drawn0 w w' := by
 have H : (some (wrap64 (Int.tdiv (wrap64 ((wrap64 (2 * a0)) + 255)) 510))) = some r := h
 clear h
 obtain rfl := Option.some.inj H
 go_enter Try.func156, Try.ntmps156
 go_wp2
 go_ret
 exact ⟨by first | rfl | (simp; done) | (simp [*]; done), by repeat (first | exact Drawn0.refl _ | apply Drawn0.step)⟩


def impl_blended.f (a0 : Int) (a1 : Int) (a2 : Int) (a3 : Int) : Option (Int) := if a0 = 1 then ((impl_part255.f (wrap64 (a1 * a2))).bind fun t144001 => ((impl_part255.f (wrap64 ((wrap64 (a3 * t144001)) + (wrap64 ((wrap64 (255 - a3)) * a1))))).bind fun t144002 => (some t144002))) else (if a0 = 2 then ((impl_part255.f (wrap64 ((wrap64 (255 - a1)) * (wrap64 (255 - a2))))).bind fun t144003 => ((impl_part255.f (wrap64 ((wrap64 (a3 * (wrap64 (255 - t144003)))) + (wrap64 ((wrap64 (255 - a3)) * a1))))).bind fun t144004 => (some t144004))) else (if a0 = 3 then ((impl_part255.f (wrap64 ((wrap64 (a3 * (mn a1 a2))) + (wrap64 ((wrap64 (255 - a3)) * a1))))).bind fun t144005 => (some t144005)) else (if a0 = 4 then ((impl_part255.f (wrap64 ((wrap64 (a3 * (mx a1 a2))) + (wrap64 ((wrap64 (255 - a3)) * a1))))).bind fun t144006 => (some t144006)) else ((impl_part255.f (wrap64 ((wrap64 (a3 * a2)) + (wrap64 ((wrap64 (255 - a3)) * a1))))).bind fun t144007 => (some t144007)))))
set_option maxHeartbeats 8000000 in
set_option maxRecDepth 100000 in
theorem impl_blended.calls (a0 : Int) (a1 : Int) (a2 : Int) (a3 : Int) (r : Int) (w : World) (h : impl_blended.f a0 a1 a2 a3 = some r) :
  Calls Try.prog 143 #[.int .i64 a0, .int .i64 a1, .int .i64 a2, .int .i64 a3] w fun e w' => e = .returned (.int .i64 r) ∧ Below w.heap.size w w' := by
 have HB := Aside0.mk (Below.refl w.heap.size w)
 have H : (if a0 = 1 then ((impl_part255.f (wrap64 (a1 * a2))).bind fun t144001 => ((impl_part255.f (wrap64 ((wrap64 (a3 * t144001)) + (wrap64 ((wrap64 (255 - a3)) * a1))))).bind fun t144002 => (some t144002))) else (if a0 = 2 then ((impl_part255.f (wrap64 ((wrap64 (255 - a1)) * (wrap64 (255 - a2))))).bind fun t144003 => ((impl_part255.f (wrap64 ((wrap64 (a3 * (wrap64 (255 - t144003)))) + (wrap64 ((wrap64 (255 - a3)) * a1))))).bind fun t144004 => (some t144004))) else (if a0 = 3 then ((impl_part255.f (wrap64 ((wrap64 (a3 * (mn a1 a2))) + (wrap64 ((wrap64 (255 - a3)) * a1))))).bind fun t144005 => (some t144005)) else (if a0 = 4 then ((impl_part255.f (wrap64 ((wrap64 (a3 * (mx a1 a2))) + (wrap64 ((wrap64 (255 - a3)) * a1))))).bind fun t144006 => (some t144006)) else ((impl_part255.f (wrap64 ((wrap64 (a3 * a2)) + (wrap64 ((wrap64 (255 - a3)) * a1))))).bind fun t144007 => (some t144007)))))) = some r := h
 clear h
 by_cases c5 : a0 = 1
 ·rw [if_pos c5] at H
  have c5b0 : (a0 == 1) = true := beq_iff_eq.mpr c5
  have c5b1 : (a0 != 1) = false := bne_eq_false_iff_eq.mpr c5
  clear c5
  replace H := Option.bind_eq_some_iff.mp H
  obtain ⟨t144001, A60, H⟩ := H
  replace H : ((impl_part255.f (wrap64 ((wrap64 (a3 * t144001)) + (wrap64 ((wrap64 (255 - a3)) * a1))))).bind fun t144002 => (some t144002)) = some r := H
  have A6 := Aside0.mk A60
  clear A60
  replace H := Option.bind_eq_some_iff.mp H
  obtain ⟨t144002, A70, H⟩ := H
  replace H : (some t144002) = some r := H
  have A7 := Aside0.mk A70
  clear A70
  obtain rfl := Option.some.inj H
  go_enter Try.func143, Try.ntmps143
  go_wp2_with (first | ((with_reducible refine gate_callee (f := 156) rfl ?_); refine goesL_ (some 17) rfl rfl Try.func156 (by kernel_rfl) rfl #[.int .i64 (wrap64 (a1 * a2))] rfl (by (try simp only [List.map_toArray, List.map_cons, List.map_nil]); first | done | rfl | (simp only [List.length_drop, List.length_take]; rfl)) ?_; (with_reducible refine (impl_part255.calls (wrap64 (a1 * a2)) t144001 _ A6.out).mono ?_); rintro e w' ⟨rfl, ⟨nd, rfl⟩⟩; refine ⟨_, rfl, ?_⟩) | ((with_reducible refine gate_callee (f := 156) rfl ?_); refine goesL_ (some 45) rfl rfl Try.func156 (by kernel_rfl) rfl #[.int .i64 (wrap64 ((wrap64 (a3 * t144001)) + (wrap64 ((wrap64 (255 - a3)) * a1))))] rfl (by (try simp only [List.map_toArray, List.map_cons, List.map_nil]); first | done | rfl | (simp only [List.length_drop, List.length_take]; rfl)) ?_; (with_reducible refine (impl_part255.calls (wrap64 ((wrap64 (a3 * t144001)) + (wrap64 ((wrap64 (255 - a3)) * a1)))) t144002 _ A7.out).mono ?_); rintro e w' ⟨rfl, ⟨nd, rfl⟩⟩; refine ⟨_, rfl, ?_⟩))
  go_ret
  exact ⟨by first | rfl | (simp [errW_none, errW_some] <;> rfl) | (simp [*, errW_none, errW_some] <;> rfl), by repeat (first | (with_reducible first | exact HB.out | apply below_alloc | apply pw_below_drewN | apply below_drew1) | exact HB.out)⟩
 ·rw [if_neg c5] at H
  have c5b0 : (a0 == 1) = false := beq_eq_false_iff_ne.mpr c5
  have c5b1 : (a0 != 1) = true := bne_iff_ne.mpr c5
  by_cases c8 : a0 = 2
  ·rw [if_pos c8] at H
   have c8b0 : (a0 == 2) = true := beq_iff_eq.mpr c8
   have c8b1 : (a0 != 2) = false := bne_eq_false_iff_eq.mpr c8
   clear c8
   replace H := Option.bind_eq_some_iff.mp H
   obtain ⟨t144003, A90, H⟩ := H
   replace H : ((impl_part255.f (wrap64 ((wrap64 (a3 * (wrap64 (255 - t144003)))) + (wrap64 ((wrap64 (255 - a3)) * a1))))).bind fun t144004 => (some t144004)) = some r := H
   have A9 := Aside0.mk A90
   clear A90
   replace H := Option.bind_eq_some_iff.mp H
   obtain ⟨t144004, A100, H⟩ := H
   replace H : (some t144004) = some r := H
   have A10 := Aside0.mk A100
   clear A100
   obtain rfl := Option.some.inj H
   go_enter Try.func143, Try.ntmps143
   go_wp2_with (first | ((with_reducible refine gate_callee (f := 156) rfl ?_); refine goesL_ (some 25) rfl rfl Try.func156 (by kernel_rfl) rfl #[.int .i64 (wrap64 ((wrap64 (255 - a1)) * (wrap64 (255 - a2))))] rfl (by (try simp only [List.map_toArray, List.map_cons, List.map_nil]); first | done | rfl | (simp only [List.length_drop, List.length_take]; rfl)) ?_; (with_reducible refine (impl_part255.calls (wrap64 ((wrap64 (255 - a1)) * (wrap64 (255 - a2)))) t144003 _ A9.out).mono ?_); rintro e w' ⟨rfl, ⟨nd, rfl⟩⟩; refine ⟨_, rfl, ?_⟩) | ((with_reducible refine gate_callee (f := 156) rfl ?_); refine goesL_ (some 45) rfl rfl Try.func156 (by kernel_rfl) rfl #[.int .i64 (wrap64 ((wrap64 (a3 * (wrap64 (255 - t144003)))) + (wrap64 ((wrap64 (255 - a3)) * a1))))] rfl (by (try simp only [List.map_toArray, List.map_cons, List.map_nil]); first | done | rfl | (simp only [List.length_drop, List.length_take]; rfl)) ?_; (with_reducible refine (impl_part255.calls (wrap64 ((wrap64 (a3 * (wrap64 (255 - t144003)))) + (wrap64 ((wrap64 (255 - a3)) * a1)))) t144004 _ A10.out).mono ?_); rintro e w' ⟨rfl, ⟨nd, rfl⟩⟩; refine ⟨_, rfl, ?_⟩))
   go_ret
   exact ⟨by first | rfl | (simp [errW_none, errW_some] <;> rfl) | (simp [*, errW_none, errW_some] <;> rfl), by repeat (first | (with_reducible first | exact HB.out | apply below_alloc | apply pw_below_drewN | apply below_drew1) | exact HB.out)⟩
  ·rw [if_neg c8] at H
   have c8b0 : (a0 == 2) = false := beq_eq_false_iff_ne.mpr c8
   have c8b1 : (a0 != 2) = true := bne_iff_ne.mpr c8
   by_cases c11 : a0 = 3
   ·rw [if_pos c11] at H
    have c11b0 : (a0 == 3) = true := beq_iff_eq.mpr c11
    have c11b1 : (a0 != 3) = false := bne_eq_false_iff_eq.mpr c11
    clear c11
    obtain ⟨ji12, hji12⟩ : ∃ j_ : Int, (mn a1 a2) = j_ := ⟨_, rfl⟩
    replace H : ((impl_part255.f (wrap64 ((wrap64 (a3 * (ji12))) + (wrap64 ((wrap64 (255 - a3)) * a1))))).bind fun t144005 => (some t144005)) = some r := by first | (rw [hji12] at H; exact H) | (simp only [hji12] at H ⊢; exact H)
    have hji12_ : (if a2 < a1 then a2 else a1) = ji12 := hji12
    replace H := Option.bind_eq_some_iff.mp H
    obtain ⟨t144005, A130, H⟩ := H
    replace H : (some t144005) = some r := H
    have A13 := Aside0.mk A130
    clear A130
    obtain rfl := Option.some.inj H
    go_enter Try.func143, Try.ntmps143
    go_wp2_with (first | ((with_reducible refine gate_callee (f := 156) rfl ?_); refine goesL_ (some 45) rfl rfl Try.func156 (by kernel_rfl) rfl #[.int .i64 (wrap64 ((wrap64 (a3 * (ji12))) + (wrap64 ((wrap64 (255 - a3)) * a1))))] rfl (by (try simp only [List.map_toArray, List.map_cons, List.map_nil]); first | done | (simp only [hji12]; rfl) | rfl | (simp only [List.length_drop, List.length_take]; rfl)) ?_; (with_reducible refine (impl_part255.calls (wrap64 ((wrap64 (a3 * (ji12))) + (wrap64 ((wrap64 (255 - a3)) * a1)))) t144005 _ A13.out).mono ?_); rintro e w' ⟨rfl, ⟨nd, rfl⟩⟩; refine ⟨_, rfl, ?_⟩))
    go_ret
    exact ⟨by first | rfl | (simp [errW_none, errW_some] <;> rfl) | (simp only [← hji12]; first | rfl | (simp [errW_none, errW_some] <;> rfl)) | (simp [*, errW_none, errW_some] <;> rfl), by repeat (first | (with_reducible first | exact HB.out | apply below_alloc | apply pw_below_drewN | apply below_drew1) | exact HB.out)⟩
   ·rw [if_neg c11] at H
    have c11b0 : (a0 == 3) = false := beq_eq_false_iff_ne.mpr c11
    have c11b1 : (a0 != 3) = true := bne_iff_ne.mpr c11
    by_cases c14 : a0 = 4
    ·rw [if_pos c14] at H
     have c14b0 : (a0 == 4) = true := beq_iff_eq.mpr c14
     have c14b1 : (a0 != 4) = false := bne_eq_false_iff_eq.mpr c14
     clear c14
     obtain ⟨ji15, hji15⟩ : ∃ j_ : Int, (mx a1 a2) = j_ := ⟨_, rfl⟩
     replace H : ((impl_part255.f (wrap64 ((wrap64 (a3 * (ji15))) + (wrap64 ((wrap64 (255 - a3)) * a1))))).bind fun t144006 => (some t144006)) = some r := by first | (rw [hji15] at H; exact H) | (simp only [hji15] at H ⊢; exact H)
     have hji15_ : (if a1 < a2 then a2 else a1) = ji15 := hji15
     replace H := Option.bind_eq_some_iff.mp H
     obtain ⟨t144006, A160, H⟩ := H
     replace H : (some t144006) = some r := H
     have A16 := Aside0.mk A160
     clear A160
     obtain rfl := Option.some.inj H
     go_enter Try.func143, Try.ntmps143
     go_wp2_with (first | ((with_reducible refine gate_callee (f := 156) rfl ?_); refine goesL_ (some 45) rfl rfl Try.func156 (by kernel_rfl) rfl #[.int .i64 (wrap64 ((wrap64 (a3 * (ji15))) + (wrap64 ((wrap64 (255 - a3)) * a1))))] rfl (by (try simp only [List.map_toArray, List.map_cons, List.map_nil]); first | done | (simp only [hji15]; rfl) | rfl | (simp only [List.length_drop, List.length_take]; rfl)) ?_; (with_reducible refine (impl_part255.calls (wrap64 ((wrap64 (a3 * (ji15))) + (wrap64 ((wrap64 (255 - a3)) * a1)))) t144006 _ A16.out).mono ?_); rintro e w' ⟨rfl, ⟨nd, rfl⟩⟩; refine ⟨_, rfl, ?_⟩))
     go_ret
     exact ⟨by first | rfl | (simp [errW_none, errW_some] <;> rfl) | (simp only [← hji15]; first | rfl | (simp [errW_none, errW_some] <;> rfl)) | (simp [*, errW_none, errW_some] <;> rfl), by repeat (first | (with_reducible first | exact HB.out | apply below_alloc | apply pw_below_drewN | apply below_drew1) | exact HB.out)⟩
    ·rw [if_neg c14] at H
     have c14b0 : (a0 == 4) = false := beq_eq_false_iff_ne.mpr c14
     have c14b1 : (a0 != 4) = true := bne_iff_ne.mpr c14
     replace H := Option.bind_eq_some_iff.mp H
     obtain ⟨t144007, A170, H⟩ := H
     replace H : (some t144007) = some r := H
     have A17 := Aside0.mk A170
     clear A170
     obtain rfl := Option.some.inj H
     go_enter Try.func143, Try.ntmps143
     go_wp2_with (first | ((with_reducible refine gate_callee (f := 156) rfl ?_); refine goesL_ (some 45) rfl rfl Try.func156 (by kernel_rfl) rfl #[.int .i64 (wrap64 ((wrap64 (a3 * a2)) + (wrap64 ((wrap64 (255 - a3)) * a1))))] rfl (by (try simp only [List.map_toArray, List.map_cons, List.map_nil]); first | done | rfl | (simp only [List.length_drop, List.length_take]; rfl)) ?_; (with_reducible refine (impl_part255.calls (wrap64 ((wrap64 (a3 * a2)) + (wrap64 ((wrap64 (255 - a3)) * a1)))) t144007 _ A17.out).mono ?_); rintro e w' ⟨rfl, ⟨nd, rfl⟩⟩; refine ⟨_, rfl, ?_⟩))
     go_ret
     exact ⟨by first | rfl | (simp [errW_none, errW_some] <;> rfl) | (simp [*, errW_none, errW_some] <;> rfl), by repeat (first | (with_reducible first | exact HB.out | apply below_alloc | apply pw_below_drewN | apply below_drew1) | exact HB.out)⟩

end Go.Proofs.Ytnofkbbcbpjhfaa.Q

/- impl.coverImage's function value: a pixel that is covered by a layer's. -/
namespace Go.Proofs.Ytnofkbbcbpjhfaa.Q
open Go.RowKit Go.Proofs.YtnofkbbcbpjhfaaW.PrintWords Go.Proofs.YtnofkbbcbpjhfaaW.PrintLast Go.Proofs.YtnofkbbcbpjhfaaW.PrintMore
open Go.Proofs.YtnofkbbcbpjhfaaW.PrintWords.Aside0 (mk)
attribute [local go_sem] max2_int min2_int max_two min_two max_three min_three max_four min_four
set_option linter.unusedVariables false
set_option linter.unusedSimpArgs false
open Go.Proofs.Ytnofkbbcbpjhfaa.Pure

def blV (mode alpha n u : Int) : Int := (impl_blended.f mode n u alpha).getD 0
theorem blV_is (mode alpha n u : Int) : impl_blended.f mode n u alpha = some (blV mode alpha n u) := by
 have h : ∃ v, impl_blended.f mode n u alpha = some v := by
  unfold impl_blended.f impl_part255.f
  simp only [Option.bind_some]
  repeat' split
  all_goals exact ⟨_, rfl⟩
 obtain ⟨v, hv⟩ := h
 unfold blV
 rw [hv]; rfl
def inBoxZ (X Y lw lh : Int) (x y : Nat) : Bool := decide (X ≤ (x : Int) ∧ (x : Int) < X + lw ∧ Y ≤ (y : Int) ∧ (y : Int) < Y + lh)
theorem impl_Box_has_int (X Y lw lh : Int) (x y : Nat) (h1 : -1000 ≤ X ∧ X ≤ 1000) (h2 : -1000 ≤ Y ∧ Y ≤ 1000) (h3 : 0 ≤ lw ∧ lw ≤ 1000) (h4 : 0 ≤ lh ∧ lh ≤ 1000) : impl_Box_has.f X Y lw lh (x : Int) (y : Int) = some (inBoxZ X Y lw lh x y) := by
 unfold impl_Box_has.f inBoxZ
 rw [w64 (x := X + lw) (by omega) (by omega), w64 (x := Y + lh) (by omega) (by omega)]
 by_cases c1 : (x : Int) ≥ X
 ·rw [if_pos c1]
  by_cases c2 : (x : Int) < X + lw
  ·rw [if_pos c2]
   by_cases c3 : (y : Int) ≥ Y
   ·rw [if_pos c3]; congr 1; rw [decide_eq_decide]; omega
   rw [if_neg c3, decide_eq_false (by omega)]
  rw [if_neg c2, decide_eq_false (by omega)]
 rw [if_neg c1, decide_eq_false (by omega)]
def coverPx (a p : Int) (d : List Int) (lw : Int) (lh : Int) (ld : List Int) (X Y mode alpha : Int) (x y : Nat) : List Int :=
 if inBoxZ X Y lw lh x y = true then List.zipWith (blV mode alpha) (pxAt a p d x y) (pxAt lw p ld ((x : Int) - X).toNat ((y : Int) - Y).toNat) else pxAt a p d x y
set_option maxHeartbeats 4000000 in
set_option maxRecDepth 100000 in
theorem cover1_out (a b p : Int) (A : Option Addr) (c : Nat) (d : List Int) (hv : validI a b p d = true) (hc : d.length ≤ c) (lw lh X Y mode alpha : Int) (hid : Bool) (AL : Option Addr) (cl : Nat) (ld : List Int) (hvl : validI lw lh p ld = true) (hcl : ld.length ≤ cl) (hX : -16 ≤ X ∧ X ≤ 16) (hY : -16 ≤ Y ∧ Y ≤ 16) (x y : Nat) (hx : (x : Int) < a) (hy : (y : Int) < b) (B : Nat) (B3 : Nat) (w : World) (h1 : w.heap[B]? = some (.cells #[.int .i64 a, .int .i64 b, .int .i64 p, .slice A d.length c] 27 (0, 0))) (h3 : w.heap[B3]? = some (.cells #[.int .i64 lw, .int .i64 lh, .int .i64 p, .slice AL ld.length cl, .int .i64 X, .int .i64 Y, .int .i64 mode, .int .i64 alpha, .bool hid] 55 (0, 0))) (hr : Kd.C (Kd.int .i64) w A d.length d) (hrl : Kd.C (Kd.int .i64) w AL ld.length ld) (hin : inBoxZ X Y lw lh x y = false) :
  Calls Try.prog 142 (#[.int .i64 (x : Int), .int .i64 (y : Int)] ++ #[.pointer (some ⟨B, 0, none⟩), .pointer (some ⟨B3, 0, none⟩)]) w fun e w' => ∃ (A' : Option Addr) (c' : Nat), e = .returned (.slice A' (pxAt a p d x y).length c') ∧ Kd.C (Kd.int .i64) w' A' (pxAt a p d x y).length (pxAt a p d x y) ∧ (pxAt a p d x y).length ≤ c' ∧ Below w.heap.size w w' := by
 have hsl := ((validI_iff lw lh p ld).1 hvl).1
 have HH := mk (impl_Box_has_int X Y lw lh x y (by omega) (by omega) (by omega) (by omega))
 have HLB := mk (show impl_Layer_box.f lw lh p ld X Y mode alpha hid = some (X, Y, lw, lh) from rfl)
 rw [hin] at HH
 obtain ⟨A', c', hc', HA⟩ := at_px (x := x) (y := y) A c hv hc hx hy
 have HRL := mk hrl
 have HCL := mk hcl
 have H3 := mk h3
 have k0 := (blk_cell h1 0).trans rfl; have k1 := (blk_cell h1 1).trans rfl; have k2 := (blk_cell h1 2).trans rfl; have k3 := (blk_cell h1 3).trans rfl
 generalize pxAt a p d x y = px at *
 have HA' := mk (HA w hr)
 clear HA hr h1 hv hc hvl hcl hin hsl hX hY
 simp only [List.append_toArray, List.cons_append, List.nil_append]
 go_enter Try.func142, Try.ntmps142
 go_wp2_with (first | (go_at_call 109; (with_reducible refine (HA'.out.2).mono ?_); rintro e w2 ⟨rfl, hb⟩; have HB2 := mk hb; have h32 := mk (blk_below H3.out hb); obtain ⟨q0, q1, q2, q3, q4, q5, q6, q7, q8, -⟩ := c9 h32.out; clear hb) | (go_at_call 104; (with_reducible refine (impl_Layer_box.calls lw lh p AL cl ld X Y mode alpha hid _ _ _ _ w2 (Kd.C_below HRL.out HB2.out) HCL.out HLB.out).mono ?_); rintro e w3 ⟨rfl, hb⟩; have HB3 := mk (below_then HB2.out HB2.out.size hb); clear hb) | (go_at_call 97; (with_reducible refine (impl_Box_has.calls X Y lw lh (x : Int) (y : Int) _ _ HH.out).mono ?_); rintro e w4 ⟨rfl, hb⟩; have HB4 := mk (below_then HB3.out HB3.out.size hb); clear hb))
 go_ret
 exact ⟨A', c', rfl, Kd.C_below HA'.out.1 HB4.out, hc', HB4.out⟩
set_option maxHeartbeats 4000000 in
set_option maxRecDepth 100000 in
theorem cover1_in (a b p : Int) (A : Option Addr) (c : Nat) (d : List Int) (hv : validI a b p d = true) (hc : d.length ≤ c) (lw lh X Y mode alpha : Int) (hid : Bool) (AL : Option Addr) (cl : Nat) (ld : List Int) (hvl : validI lw lh p ld = true) (hcl : ld.length ≤ cl) (hX : -16 ≤ X ∧ X ≤ 16) (hY : -16 ≤ Y ∧ Y ≤ 16) (x y : Nat) (hx : (x : Int) < a) (hy : (y : Int) < b) (B : Nat) (B3 : Nat) (w : World) (h1 : w.heap[B]? = some (.cells #[.int .i64 a, .int .i64 b, .int .i64 p, .slice A d.length c] 27 (0, 0))) (h3 : w.heap[B3]? = some (.cells #[.int .i64 lw, .int .i64 lh, .int .i64 p, .slice AL ld.length cl, .int .i64 X, .int .i64 Y, .int .i64 mode, .int .i64 alpha, .bool hid] 55 (0, 0))) (hr : Kd.C (Kd.int .i64) w A d.length d) (hrl : Kd.C (Kd.int .i64) w AL ld.length ld) (hin : inBoxZ X Y lw lh x y = true) :
  Calls Try.prog 142 (#[.int .i64 (x : Int), .int .i64 (y : Int)] ++ #[.pointer (some ⟨B, 0, none⟩), .pointer (some ⟨B3, 0, none⟩)]) w fun e w' => ∃ v : Value, e = .returned v ∧ Kd.R (Kd.int .i64) 3 w' w.heap.size (fun _ => True) v (List.zipWith (blV mode alpha) (pxAt a p d x y) (pxAt lw p ld ((x : Int) - X).toNat ((y : Int) - Y).toNat)) ∧ Below w.heap.size w w' := by
 have hsl := ((validI_iff lw lh p ld).1 hvl).1
 have hs := ((validI_iff a b p d).1 hv).1
 have HH := mk (impl_Box_has_int X Y lw lh x y (by omega) (by omega) (by omega) (by omega))
 have HLB := mk (show impl_Layer_box.f lw lh p ld X Y mode alpha hid = some (X, Y, lw, lh) from rfl)
 have hin' : X ≤ (x : Int) ∧ (x : Int) < X + lw ∧ Y ≤ (y : Int) ∧ (y : Int) < Y + lh := by unfold inBoxZ at hin; exact of_decide_eq_true hin
 rw [hin] at HH
 obtain ⟨A', c', hc', HA⟩ := at_px (x := x) (y := y) A c hv hc hx hy
 obtain ⟨i', hi'⟩ := Int.eq_ofNat_of_zero_le (show 0 ≤ (x : Int) - X by omega)
 obtain ⟨j', hj'⟩ := Int.eq_ofNat_of_zero_le (show 0 ≤ (y : Int) - Y by omega)
 rw [hi', hj', Int.toNat_natCast, Int.toNat_natCast]
 obtain ⟨A2, c2, hc2, HA2⟩ := at_px (x := i') (y := j') AL cl hvl hcl (by omega) (by omega)
 have hwi : wrap64 ((x : Int) - X) = (i' : Int) := by rw [w64 (by omega) (by omega)]; exact hi'
 have hwj : wrap64 ((y : Int) - Y) = (j' : Int) := by rw [w64 (by omega) (by omega)]; exact hj'
 rw [← hwi, ← hwj] at HA2
 have hLp := pxAt_len hv hx hy
 have hUp := pxAt_len hvl (x := i') (y := j') (by omega) (by omega)
 have HRL := mk hrl
 have HCL := mk hcl
 have H3 := mk h3
 have HC1 := mk (HA w hr).1
 have HC2 := mk (HA2 w hrl).1
 have k0 := (blk_cell h1 0).trans rfl; have k1 := (blk_cell h1 1).trans rfl; have k2 := (blk_cell h1 2).trans rfl; have k3 := (blk_cell h1 3).trans rfl
 generalize pxAt a p d x y = L at *
 generalize pxAt lw p ld i' j' = U at *
 have HA' := mk (HA w hr)
 replace HA2 := mk HA2
 have hLU : U.length = L.length := by omega
 have HLU := mk hLU
 have HL4 := mk (show L.length ≤ 4 by omega)
 have HXY := mk (And.intro hX (And.intro hY hs))
 clear HA hr h1 hv hc hvl hcl hin hsl hs hi' hj' hwi hwj hLp hUp h3 hrl hLU
 have hui := Try.underlying22
 simp only [List.append_toArray, List.cons_append, List.nil_append]
 go_enter Try.func142, Try.ntmps142
 go_wp2_with (first | (go_at_call 109; (with_reducible refine (HA'.out.2).mono ?_); rintro e w2 ⟨rfl, hb⟩; have HB2 := mk hb; have h32 := mk (blk_below H3.out hb); obtain ⟨q0, q1, q2, q3, q4, q5, q6, q7, q8, -⟩ := c9 h32.out; clear hb) | (go_at_call 104; (with_reducible refine (impl_Layer_box.calls lw lh p AL cl ld X Y mode alpha hid _ _ _ _ w2 (Kd.C_below HRL.out HB2.out) HCL.out HLB.out).mono ?_); rintro e w3 ⟨rfl, hb⟩; have HB3 := mk (below_then HB2.out HB2.out.size hb); have h33 := mk (blk_below h32.out hb); clear hb) | (go_at_call 97; (with_reducible refine (impl_Box_has.calls X Y lw lh (x : Int) (y : Int) _ _ HH.out).mono ?_); rintro e w4 ⟨rfl, hb⟩; have HB4 := mk (below_then HB3.out HB3.out.size hb); have h34 := mk (blk_below h33.out hb); obtain ⟨r0, r1, r2, r3, r4, r5, r6, r7, r8, -⟩ := c9 h34.out; clear hb) | (go_at_call 109; (with_reducible refine ((HA2.out w4 (Kd.C_below HRL.out HB4.out)).2).mono ?_); rintro e w5 ⟨rfl, hb⟩; have HB5 := mk (below_then HB4.out HB4.out.size hb); have h35 := mk (blk_below h34.out hb); clear hb))
 have h3z := blk_alloc h35.out (.cells #[] 3)
 go_loopw [9, 37] (fun v9 v37 W => ∃ i : Nat, v37 = .int .i64 i ∧ i ≤ L.length ∧ (∃ (v : Value) (D : List Int), v = v9 ∧ Aside0 (D = (List.zipWith (blV mode alpha) L U).take i) ∧ Aside0 (D.length ≤ 4) ∧ Aside0 (Kd.R (Kd.int .i64) 3 W w.heap.size (fun _ => True) v D)) ∧ Aside0 (W.heap[B3]? = some (.cells #[.int .i64 lw, .int .i64 lh, .int .i64 p, .slice AL ld.length cl, .int .i64 X, .int .i64 Y, .int .i64 mode, .int .i64 alpha, .bool hid] 55 (0, 0))) ∧ Aside0 (Below w.heap.size w W)) (fun _ v37 _ => L.length - (intOf v37).toNat)
 case atStart => exact ⟨0, rfl, by omega, ⟨_, [], rfl, ⟨by simp⟩, ⟨by simp⟩, ⟨R_empty _ _ _ _ HB5.out.size⟩⟩, ⟨h3z⟩, ⟨below_alloc HB5.out _⟩⟩
 case round =>
  obtain ⟨i, rfl, hi, ⟨v, D, rfl, hD, hdl, hr⟩, h3, hb⟩ := hrel
  clear h3z
  by_cases hil : i < L.length
  ·have hdi : decide ((i : Int) < (L.length : Int)) = true := by simp; omega
   have hiu : i < U.length := by have := HLU.out; omega
   have hdu : decide ((i : Int) < (U.length : Int)) = true := by simp; omega
   obtain ⟨ad1, e1, hxl⟩ := Kd.at_int (Kd.C_below HC1.out hb.out) (i : Int) (by omega) (by omega)
   obtain ⟨ad2, e2, hxu⟩ := Kd.at_int (Kd.C_below HC2.out hb.out) (i : Int) (by omega) (by omega)
   subst e1
   subst e2
   rw [Int.toNat_natCast, rd_nat L i hil] at hxl
   rw [Int.toNat_natCast, rd_nat U i hiu] at hxu
   go_wp2
   refine start_ (n := 14) (S := fun w' => w'.cell? ⟨B3, 6, none⟩ = some (.int .i64 mode) ∧ w'.cell? ⟨B3, 7, none⟩ = some (.int .i64 alpha) ∧ w'.cell? (ad2.add i) = some (.int .i64 (U[i]'hiu))) (ds := [12]) #[false, false, false, false, false, false, false, false, false, false, false, false, false, false] (by kernel_rfl) rfl rfl ⟨((blk_cell (blk_below (w := wr) h3.out (below_drew (Below.refl _ _))) 6).trans rfl), ((blk_cell (blk_below (w := wr) h3.out (below_drew (Below.refl _ _))) 7).trans rfl), (((below_drew (Below.refl _ _)).cell (World.block_lt_of_cell? _ _ hxu)).trans hxu)⟩ (fun hHeld => ?_)
   refine pure_ (i := 0) (N := some 42) (v := ?_) (a' := ?_) #[true, false, false, false, false, false, false, false, false, false, false, false, false, false] rfl rfl (by kernel_rfl) (fun _ _ _ h => h) (Or.inl ⟨by rfl, ?_⟩) ?_ ?_
   rotate_left
   ·intro w'
    go_simp
    with_reducible rfl
   rotate_left
   ·simp only [Act.put, List.setIfInBounds_toArray, List.set_cons_zero, List.set_cons_succ, i64_w, i32_w]
    rfl
   refine pure_ (i := 1) (N := some 43) (v := ?_) (a' := ?_) #[true, true, false, false, false, false, false, false, false, false, false, false, false, false] rfl rfl (by kernel_rfl) (fun _ _ _ h => h) (Or.inl ⟨by rfl, ?_⟩) ?_ ?_
   rotate_left
   ·intro w'
    go_simp
    with_reducible rfl
   rotate_left
   ·simp only [Act.put, List.setIfInBounds_toArray, List.set_cons_zero, List.set_cons_succ, i64_w, i32_w]
    rfl
   refine pure_ (i := 3) (N := some 45) (v := ?_) (a' := ?_) #[true, true, false, true, false, false, false, false, false, false, false, false, false, false] rfl rfl (by kernel_rfl) (fun _ _ _ h => h) (Or.inl ⟨by rfl, ?_⟩) ?_ ?_
   rotate_left
   ·intro w'
    go_simp
    with_reducible rfl
   rotate_left
   ·simp only [Act.put, List.setIfInBounds_toArray, List.set_cons_zero, List.set_cons_succ, i64_w, i32_w]
    rfl
   refine pure_ (i := 4) (N := some 46) (v := ?_) (a' := ?_) #[true, true, false, true, true, false, false, false, false, false, false, false, false, false] rfl rfl (by kernel_rfl) (fun _ _ _ h => h) (Or.inl ⟨by rfl, ?_⟩) ?_ ?_
   rotate_left
   ·intro w'
    go_simp
    with_reducible rfl
   rotate_left
   ·simp only [Act.put, List.setIfInBounds_toArray, List.set_cons_zero, List.set_cons_succ, i64_w, i32_w]
    rfl
   refine pure_ (i := 5) (N := some 47) (v := ?_) (a' := ?_) #[true, true, false, true, true, true, false, false, false, false, false, false, false, false] rfl rfl (by kernel_rfl) (fun _ _ _ h => h) (Or.inl ⟨by rfl, ?_⟩) ?_ ?_
   rotate_left
   ·intro w'
    go_simp
    with_reducible rfl
   rotate_left
   ·simp only [Act.put, List.setIfInBounds_toArray, List.set_cons_zero, List.set_cons_succ, i64_w, i32_w]
    rfl
   refine pure_ (i := 6) (N := some 48) (v := ?_) (a' := ?_) #[true, true, false, true, true, true, true, false, false, false, false, false, false, false] rfl rfl (by kernel_rfl) (fun _ _ _ h => h) (Or.inl ⟨by rfl, ?_⟩) ?_ ?_
   rotate_left
   ·intro w'
    go_simp
    with_reducible rfl
   rotate_left
   ·simp only [Act.put, List.setIfInBounds_toArray, List.set_cons_zero, List.set_cons_succ, i64_w, i32_w]
    rfl
   refine pure_ (i := 8) (N := some 50) (v := ?_) (a' := ?_) #[true, true, false, true, true, true, true, false, true, false, false, false, false, false] rfl rfl (by kernel_rfl) (fun _ _ _ h => h) (Or.inl ⟨by rfl, ?_⟩) ?_ ?_
   rotate_left
   ·intro w'
    go_simp
    with_reducible rfl
   rotate_left
   ·simp only [Act.put, List.setIfInBounds_toArray, List.set_cons_zero, List.set_cons_succ, i64_w, i32_w]
    rfl
   refine take_ (i := 2) (N := some 44) (v := ?_) (a' := ?_) #[true, true, true, true, true, true, true, false, true, false, false, false, false, false] rfl rfl (by kernel_rfl) (fun _ _ _ h => h) (Or.inl ⟨by rfl, ?_⟩) hHeld ?_ ?_
   rotate_left
   ·rintro w' ⟨s0, s1, s2⟩
    go_simp
    with_reducible rfl
   rotate_left
   ·simp only [Act.put, List.setIfInBounds_toArray, List.set_cons_zero, List.set_cons_succ, i64_w, i32_w]
    rfl
   refine take_ (i := 7) (N := some 49) (v := ?_) (a' := ?_) #[true, true, true, true, true, true, true, true, true, false, false, false, false, false] rfl rfl (by kernel_rfl) (fun _ _ _ h => h) (Or.inl ⟨by rfl, ?_⟩) hHeld ?_ ?_
   rotate_left
   ·rintro w' ⟨s0, s1, s2⟩
    go_simp
    with_reducible rfl
   rotate_left
   ·simp only [Act.put, List.setIfInBounds_toArray, List.set_cons_zero, List.set_cons_succ, i64_w, i32_w]
    rfl
   refine take_ (i := 9) (N := some 51) (v := ?_) (a' := ?_) #[true, true, true, true, true, true, true, true, true, true, false, false, false, false] rfl rfl (by kernel_rfl) (fun _ _ _ h => h) (Or.inl ⟨by rfl, ?_⟩) hHeld ?_ ?_
   rotate_left
   ·rintro w' ⟨s0, s1, s2⟩
    go_simp
    with_reducible rfl
   rotate_left
   ·simp only [Act.put, List.setIfInBounds_toArray, List.set_cons_zero, List.set_cons_succ, i64_w, i32_w]
    rfl
   refine one_ (i := 10) (N := some 52) #[true, true, true, true, true, true, true, true, true, true, true, false, false, false] rfl rfl (by kernel_rfl) (by decide) (fun K hK => ?_)
   refine goes_ Try.func143 (by kernel_rfl) rfl #[.int .i64 mode, .int .i64 (L[i]'hil), .int .i64 (U[i]'hiu), .int .i64 alpha] (by rfl) rfl rfl (by simp only [List.map_toArray, List.map_cons, List.map_nil]; rfl) ?_
   with_reducible refine (impl_blended.calls mode (L[i]'hil) (U[i]'hiu) alpha (blV mode alpha (L[i]'hil) (U[i]'hiu)) _ (blV_is _ _ _ _)).mono ?_
   rintro e w3 ⟨rfl, hb3⟩
   refine ⟨_, rfl, ?_⟩
   have h33 := mk (blk_below (w := wr.drew) h3.out hb3)
   have hx3 := mk ((hb3.cell (World.block_lt_of_cell? _ _ hHeld.2.2)).trans hHeld.2.2)
   have hr3 := mk (Kd.R_below (Kd.R_drew hr.out) hb3)
   have hbb3 := mk (below_then (below_drew hb.out) (below_drew hb.out).size hb3)
   clear hb3
   refine hK.out _ _ ⟨((blk_cell h33.out 6).trans rfl), ((blk_cell h33.out 7).trans rfl), hx3.out⟩ (fun hHeld => ?_)
   clear hK K
   refine norm_ (a' := ?_) ?_ ?_
   rotate_left
   ·show Act.put _ (some 52) _ = _
    simp only [Act.put, List.setIfInBounds_toArray, List.set_cons_zero, List.set_cons_succ, i64_w, i32_w]
    rfl
   refine one_ (i := 11) (N := some 53) #[true, true, true, true, true, true, true, true, true, true, true, true, false, false] rfl rfl (by kernel_rfl) (by decide) (fun K hK => ?_)
   refine value_ (w1 := ?_) (v := ?_) (by rfl) rfl ?_ ?_
   rotate_left 2
   ·go_simp
    constructor
    ·rfl
    rfl
   refine hK.out _ _ ⟨((blk_cell (blk_alloc h33.out _) 6).trans rfl), ((blk_cell (blk_alloc h33.out _) 7).trans rfl), ((World.cell?_alloc_lt _ _ _ (World.block_lt_of_cell? _ _ hx3.out)).trans hx3.out)⟩ (fun hHeld => ?_)
   clear hK K
   refine norm_ (a' := ?_) ?_ ?_
   rotate_left
   ·show Act.put _ (some 53) _ = _
    simp only [Act.put, List.setIfInBounds_toArray, List.set_cons_zero, List.set_cons_succ, i64_w, i32_w]
    rfl
   refine last_ (i := 12) (N := some 54) #[true, true, true, true, true, true, true, true, true, true, true, true, true, false] rfl rfl (by kernel_rfl) (by decide) (fun K hK => ?_)
   refine Kd.R_append_step (Kd.int .i64) (w0 := w) w.heap.size (by rfl) (.tmp 42) (.tmp 53) 22 3 (.int .i64 0) 8 rfl Try.underlying22 info3 rfl (by decide) (by omega) v D (blV mode alpha (L[i]'hil) (U[i]'hiu)) [.int .i64 (blV mode alpha (L[i]'hil) (U[i]'hiu))] (fun _ => True) (fun _ => False) rfl rfl rfl (fun _ h => h.elim) (fun _ _ => trivial) hr3.out hbb3.out hbb3.out.size (by have := hdl.out; omega) ?_
   intro v5 w5 ho hb5 hg hat
   have h35 := mk (blk_grown h33.out hg (Kd.R_ne hr3.out h33.out (by decide)))
   have ho5 := mk ho
   have hbb5 := mk hb5
   clear ho hg hat hb5
   refine hK.out _ _ ?_
   clear hK K
   refine norm_ (a' := ?_) ?_ ?_
   rotate_left
   ·show Act.put _ (some 54) _ = _
    simp only [Act.put, List.setIfInBounds_toArray, List.set_cons_zero, List.set_cons_succ, i64_w, i32_w]
    rfl
   refine pure_ (i := 13) (N := some 9) (v := ?_) (a' := ?_) #[true, true, true, true, true, true, true, true, true, true, true, true, true, true] rfl rfl (by kernel_rfl) (fun _ _ _ h => h) (Or.inl ⟨by rfl, ?_⟩) ?_ ?_
   rotate_left
   ·intro w'
    go_simp
    with_reducible rfl
   rotate_left
   ·simp only [Act.put, List.setIfInBounds_toArray, List.set_cons_zero, List.set_cons_succ, i64_w, i32_w]
    rfl
   refine done_ (by kernel_rfl) ?_
   go_wp2
   have hl4 := HL4.out
   exact ⟨⟨i + 1, by rw [w64n i (by omega)], by omega, ⟨v5, D ++ [blV mode alpha (L[i]'hil) (U[i]'hiu)], rfl, ⟨by rw [hD.out, List.take_succ_eq_append_getElem (by rw [List.length_zipWith]; omega), List.getElem_zipWith]⟩, ⟨by rw [List.length_append, hD.out, List.length_take, List.length_zipWith]; simp; omega⟩, ho5⟩, h35, hbb5⟩, by rw [w64n i (by omega)]; simp [intOf]; omega⟩
  have hdi : decide ((i : Int) < (L.length : Int)) = false := by simp; omega
  have hie : i = L.length := by omega
  subst hie
  go_wp2
  go_ret
  exact ⟨_, rfl, by
   have h := hr.out
   rw [hD.out, List.take_of_length_le (by rw [List.length_zipWith]; omega)] at h
   exact h, hb.out⟩
theorem cover1_calls (a b p : Int) (A : Option Addr) (c : Nat) (d : List Int) (hv : validI a b p d = true) (hc : d.length ≤ c) (lw lh X Y mode alpha : Int) (hid : Bool) (AL : Option Addr) (cl : Nat) (ld : List Int) (hvl : validI lw lh p ld = true) (hcl : ld.length ≤ cl) (hX : -16 ≤ X ∧ X ≤ 16) (hY : -16 ≤ Y ∧ Y ≤ 16) (x y : Nat) (hx : (x : Int) < a) (hy : (y : Int) < b) (B : Nat) (B3 : Nat) (w : World) (h1 : w.heap[B]? = some (.cells #[.int .i64 a, .int .i64 b, .int .i64 p, .slice A d.length c] 27 (0, 0))) (h3 : w.heap[B3]? = some (.cells #[.int .i64 lw, .int .i64 lh, .int .i64 p, .slice AL ld.length cl, .int .i64 X, .int .i64 Y, .int .i64 mode, .int .i64 alpha, .bool hid] 55 (0, 0))) (hr : Kd.C (Kd.int .i64) w A d.length d) (hrl : Kd.C (Kd.int .i64) w AL ld.length ld) :
  Calls Try.prog 142 (#[.int .i64 (x : Int), .int .i64 (y : Int)] ++ #[.pointer (some ⟨B, 0, none⟩), .pointer (some ⟨B3, 0, none⟩)]) w fun e w' => ∃ (A' : Option Addr) (c' : Nat), e = .returned (.slice A' (coverPx a p d lw lh ld X Y mode alpha x y).length c') ∧ Kd.C (Kd.int .i64) w' A' (coverPx a p d lw lh ld X Y mode alpha x y).length (coverPx a p d lw lh ld X Y mode alpha x y) ∧ (coverPx a p d lw lh ld X Y mode alpha x y).length ≤ c' ∧ Below w.heap.size w w' := by
 unfold coverPx
 cases hin : inBoxZ X Y lw lh x y with
 | false =>
  simp only [Bool.false_eq_true, if_false]
  exact cover1_out a b p A c d hv hc lw lh X Y mode alpha hid AL cl ld hvl hcl hX hY x y hx hy B B3 w h1 h3 hr hrl hin
 | true =>
  simp only [if_true]
  refine (cover1_in a b p A c d hv hc lw lh X Y mode alpha hid AL cl ld hvl hcl hX hY x y hx hy B B3 w h1 h3 hr hrl hin).mono ?_
  rintro e w' ⟨v, rfl, hR, hb⟩
  obtain ⟨A', c', rfl, hl, hC⟩ := Kd.R_reads hR
  exact ⟨A', c', rfl, hC, hl, hb⟩
theorem coverPx_le {a b p : Int} {d : List Int} (hv : validI a b p d = true) (lw lh : Int) (ld : List Int) (X Y mode alpha : Int) {x y : Nat} (hx : (x : Int) < a) (hy : (y : Int) < b) : (coverPx a p d lw lh ld X Y mode alpha x y).length ≤ 4 := by
 have h := pxAt_le hv hx hy
 unfold coverPx
 split
 ·rw [List.length_zipWith]; omega
 exact h

/- impl.imageBy: the image whose pixels a function value tells. -/

set_option maxHeartbeats 4000000 in
set_option maxRecDepth 100000 in
theorem imageBy_calls (q : Nat) (lb : Array Value) (px : Nat → Nat → List Int) (a b : Nat) (p : Int) (ha : a ≤ 16) (hb_ : b ≤ 16) (w : World)
  (eg : ∀ args W, (callFunc q args).run Try.prog W = .ok (.enter q args) W) (hpl : ∀ x y, x < a → y < b → (px x y).length ≤ 4)
  (hp : ∀ (W : World) (x y : Nat), x < a → y < b → Below w.heap.size w W → Calls Try.prog q (#[.int .i64 (x : Int), .int .i64 (y : Int)] ++ lb) W fun e W' => ∃ (A : Option Addr) (c : Nat), e = .returned (.slice A (px x y).length c) ∧ Kd.C (Kd.int .i64) W' A (px x y).length (px x y) ∧ (px x y).length ≤ c ∧ Below W.heap.size W W') :
  Calls Try.prog 107 #[.int .i64 (a : Int), .int .i64 (b : Int), .int .i64 p, .func (.func q) #[] lb] w fun e w' => ∃ v3_ : Value, e = .returned (.agg #[.int .i64 (a : Int), .int .i64 (b : Int), .int .i64 p, v3_]) ∧ Kd.R (Kd.int .i64) 3 w' w.heap.size (fun _ => True) v3_ (imgD px a b) ∧ Below w.heap.size w w' := by
 have HP := mk hp
 have EG := mk eg
 have HB0 := mk (Below.refl w.heap.size w)
 have hu := Try.underlying27
 have hui := Try.underlying22
 clear hp eg
 go_enter Try.func107, Try.ntmps107
 go_wp2_with (first
  | ((with_reducible refine gate_dst (N := 8) rfl ?_); refine box_event ?hg (N := 8) ?hd (cs := #[.int .i64 0, .int .i64 0, .int .i64 0, .slice none 0 0]) (t := 27) ?hr ?_; (case hd => rfl); (case hg => rfl); (case hr => first | (go_simp; done) | (go_simp; rfl)); intro g8 hg_ w1 hbox hb; have HB1 := mk (below_then HB0.out HB0.out.size hb); have K1 := mk hbox; have Gg8 := mk (show w.heap.size ≤ g8 from by rw [hg_]; exact HB0.out.size); clear hbox hb hg_))
 have HGM := blk_new w1 (.cells #[.int .i64 (a : Int), .int .i64 (b : Int), .int .i64 p, .slice none 0 0] 27 (0, 0))
 obtain ⟨g9, hg9⟩ : ∃ g9, g9 = w1.heap.size := ⟨_, rfl⟩
 have G89 : g8 < g9 := by rw [hg9]; exact blk_lt K1.out
 have GE9 : w.heap.size ≤ g9 := by have := Gg8.out; omega
 rw [← hg9] at HGM ⊢
 go_loopw [17] (fun v17 W => ∃ y : Nat, v17 = .int .i64 y ∧ y ≤ b ∧ (∃ (v : Value) (D : List Int), Aside0 (D = imgD px a y) ∧ Aside0 (D.length ≤ 64 * y) ∧ Aside0 (Kd.R (Kd.int .i64) 3 W w.heap.size (fun _ => True) v D) ∧ Aside0 (W.heap[g9]? = some (.cells #[.int .i64 (a : Int), .int .i64 (b : Int), .int .i64 p, v] 27 (0, 0)))) ∧ Aside0 (W.heap[g8]? = some (.cells #[.int .i64 0, .int .i64 0, .int .i64 0, .slice none 0 0] 27 (0, 0))) ∧ Aside0 (Below w.heap.size w W)) (fun v17 _ => b - (intOf v17).toNat)
 case atStart => exact ⟨0, rfl, by omega, ⟨_, [], ⟨rfl⟩, ⟨by simp⟩, ⟨Kd.R_nil _ _ _ _ _⟩, ⟨HGM⟩⟩, ⟨blk_alloc K1.out _⟩, ⟨below_alloc HB1.out _⟩⟩
 case round =>
  clear HGM hg9
  obtain ⟨y, rfl, hy, ⟨v, D, hD, hdl, hr, h9⟩, h8, hb⟩ := hrel
  by_cases hly : y < b
  ·have hdy : decide ((y : Int) < (b : Int)) = true := by simp; omega
   go_wp2
   go_loopw [21] (fun v21 W => ∃ x : Nat, v21 = .int .i64 x ∧ x ≤ a ∧ (∃ (v : Value) (D : List Int), Aside0 (D = imgD px a y ++ rowD px x y) ∧ Aside0 (D.length ≤ 64 * y + 4 * x) ∧ Aside0 (Kd.R (Kd.int .i64) 3 W w.heap.size (fun _ => True) v D) ∧ Aside0 (W.heap[g9]? = some (.cells #[.int .i64 (a : Int), .int .i64 (b : Int), .int .i64 p, v] 27 (0, 0)))) ∧ Aside0 (W.heap[g8]? = some (.cells #[.int .i64 0, .int .i64 0, .int .i64 0, .slice none 0 0] 27 (0, 0))) ∧ Aside0 (Below w.heap.size w W)) (fun v21 _ => a - (intOf v21).toNat)
   case atStart => exact ⟨0, rfl, by omega, ⟨v, D, ⟨by rw [hD.out]; simp [rowD]⟩, hdl, hr, h9⟩, h8, hb⟩
   case round =>
    clear hr h9 h8 hb hdl hD
    obtain ⟨x, rfl, hx, ⟨v, D, hD, hdl, hr, h9⟩, h8, hb⟩ := hrel
    by_cases hlx : x < a
    ·have hdx : decide ((x : Int) < (a : Int)) = true := by simp; omega
     go_wp2
     refine start_ (n := 9) (S := fun w' => w'.cell? ⟨g9, 3, none⟩ = some v) (ds := [8]) #[false, false, false, false, false, false, false, false, false] (by kernel_rfl) rfl rfl (((blk_cell (w := wr.drew) h9.out 3).trans rfl)) (fun hHeld => ?_)
     refine pure_ (i := 0) (N := some 24) (v := ?_) (a' := ?_) #[true, false, false, false, false, false, false, false, false] rfl rfl (by kernel_rfl) (fun _ _ _ h => h) (Or.inl ⟨by rfl, ?_⟩) ?_ ?_
     rotate_left
     ·intro w'
      go_simp
      with_reducible rfl
     rotate_left
     ·simp only [Act.put, List.setIfInBounds_toArray, List.set_cons_zero, List.set_cons_succ, i64_w, i32_w]
      rfl
     refine pure_ (i := 2) (N := some 26) (v := ?_) (a' := ?_) #[true, false, true, false, false, false, false, false, false] rfl rfl (by kernel_rfl) (fun _ _ _ h => h) (Or.inl ⟨by rfl, ?_⟩) ?_ ?_
     rotate_left
     ·intro w'
      go_simp
      with_reducible rfl
     rotate_left
     ·simp only [Act.put, List.setIfInBounds_toArray, List.set_cons_zero, List.set_cons_succ, i64_w, i32_w]
      rfl
     refine pure_ (i := 3) (N := some 27) (v := ?_) (a' := ?_) #[true, false, true, true, false, false, false, false, false] rfl rfl (by kernel_rfl) (fun _ _ _ h => h) (Or.inl ⟨by rfl, ?_⟩) ?_ ?_
     rotate_left
     ·intro w'
      go_simp
      with_reducible rfl
     rotate_left
     ·simp only [Act.put, List.setIfInBounds_toArray, List.set_cons_zero, List.set_cons_succ, i64_w, i32_w]
      rfl
     refine pure_ (i := 4) (N := some 28) (v := ?_) (a' := ?_) #[true, false, true, true, true, false, false, false, false] rfl rfl (by kernel_rfl) (fun _ _ _ h => h) (Or.inl ⟨by rfl, ?_⟩) ?_ ?_
     rotate_left
     ·intro w'
      go_simp
      with_reducible rfl
     rotate_left
     ·simp only [Act.put, List.setIfInBounds_toArray, List.set_cons_zero, List.set_cons_succ, i64_w, i32_w]
      rfl
     refine take_ (i := 1) (N := some 25) (v := ?_) (a' := ?_) #[true, true, true, true, true, false, false, false, false] rfl rfl (by kernel_rfl) (fun _ _ _ h => h) (Or.inl ⟨by rfl, ?_⟩) hHeld ?_ ?_
     rotate_left
     ·intro w' s0
      go_simp
      with_reducible rfl
     rotate_left
     ·simp only [Act.put, List.setIfInBounds_toArray, List.set_cons_zero, List.set_cons_succ, i64_w, i32_w]
      rfl
     refine one_ (i := 5) (N := some 29) #[true, true, true, true, true, true, false, false, false] rfl rfl (by kernel_rfl) (by decide) (fun K hK => ?_)
     refine call_ q (#[.int .i64 (x : Int), .int .i64 (y : Int)] ++ lb) (by rfl) rfl (fn_runs q lb EG.out rfl rfl _ (by simp only [List.map_toArray, List.map_cons, List.map_nil]; rfl)) ?_
     refine (HP.out _ x y hlx hly (below_drew hb.out)).mono ?_
     rintro e w3 ⟨A, c, rfl, hC, hl3, hb3⟩
     refine ⟨_, rfl, ?_⟩
     have h93 := mk (blk_below (w := wr.drew) h9.out hb3)
     have h83 := mk (blk_below (w := wr.drew) h8.out hb3)
     have hr3 := mk (Kd.R_below (Kd.R_drew hr.out) hb3)
     have hbb3 := mk (below_then (below_drew hb.out) (below_drew hb.out).size hb3)
     have hC3 := mk hC
     have hl3' := mk hl3
     have HPL := mk (hpl x y hlx hly)
     clear hb3 hC hl3
     refine hK.out _ _ (((blk_cell h93.out 3).trans rfl)) (fun hHeld => ?_)
     clear hK K
     refine norm_ (a' := ?_) ?_ ?_
     rotate_left
     ·show Act.put _ (some 29) _ = _
      simp only [Act.put, List.setIfInBounds_toArray, List.set_cons_zero, List.set_cons_succ, i64_w, i32_w]
      rfl
     refine one_ (i := 6) (N := some 30) #[true, true, true, true, true, true, true, false, false] rfl rfl (by kernel_rfl) (by decide) (fun K hK => ?_)
     refine Kd.R_append_rows_step (Kd.int .i64) (w0 := w) w.heap.size (by rfl) (.tmp 25) (.tmp 29) 22 3 (.int .i64 0) 8 rfl Try.underlying22 info3 rfl (by decide) (by omega) v D (px x y) _ _ _ (fun _ => True) (fun _ => False) rfl rfl hr3.out hC3.out (fun _ _ h => h) (fun _ h => h.elim) (fun _ _ => trivial) hbb3.out hbb3.out.size (by have := HPL.out; have := hdl.out; omega) ?_
     intro v5 w5 ho hb5 hg hat
     have h95 := mk (blk_grown h93.out hg (Kd.R_ne hr3.out h93.out (by decide)))
     have h85 := mk (blk_grown h83.out hg (Kd.R_ne hr3.out h83.out (by decide)))
     have ho5 := mk ho
     have hbb5 := mk hb5
     clear ho hb5 hg hat
     obtain ⟨A5, q5, e5⟩ := Kd.R_slice ho5.out
     subst e5
     refine hK.out _ _ (((blk_cell h95.out 3).trans rfl)) (fun hHeld => ?_)
     clear hK K
     refine norm_ (a' := ?_) ?_ ?_
     rotate_left
     ·show Act.put _ (some 30) _ = _
      simp only [Act.put, List.setIfInBounds_toArray, List.set_cons_zero, List.set_cons_succ, i64_w, i32_w]
      rfl
     refine pure_ (i := 7) (N := some 31) (v := ?_) (a' := ?_) #[true, true, true, true, true, true, true, true, false] rfl rfl (by kernel_rfl) (fun _ _ _ h => h) (Or.inl ⟨by rfl, ?_⟩) ?_ ?_
     rotate_left
     ·intro w'
      go_simp
      with_reducible rfl
     rotate_left
     ·simp only [Act.put, List.setIfInBounds_toArray, List.set_cons_zero, List.set_cons_succ, i64_w, i32_w]
      rfl
     refine last_ (i := 8) (N := none) #[true, true, true, true, true, true, true, true, true] rfl rfl (by kernel_rfl) (by decide) (fun K hK => ?_)
     have c95 := (blk_cell h95.out 3).trans rfl
     have f95 := blk_frozen h95.out 3
     refine skip_ (w1 := ?_) (by rfl) rfl ?_ ?_
     rotate_left
     ·go_simp
      rfl
     refine hK.out _ _ ?_
     clear hK K
     refine done_ (by kernel_rfl) ?_
     go_wp2
     exact ⟨⟨x + 1, by go_num, by omega, ⟨_, D ++ px x y, ⟨by rw [hD.out, rowD_succ, List.append_assoc]⟩, ⟨by rw [List.length_append]; have := hdl.out; have := HPL.out; omega⟩, ⟨Kd.R_mono (Kd.R_far (p := ⟨g9, 3, none⟩) (Kd.R_types ho5.out h95.out (by decide)) (fun _ hk => hk.2) _) (fun _ _ => trivial)⟩, ⟨blk_put h95.out 3 _ (by rw [List.length_append]; rfl)⟩⟩, ⟨blk_far h85.out (by simp; omega) _⟩, ⟨below_set hbb5.out (by omega)⟩⟩, by simp [intOf]; omega⟩
    ·have hdx : decide ((x : Int) < (a : Int)) = false := by simp; omega
     have hxe : x = a := by omega
     subst hxe
     go_wp2
     go_roundw
     case rel => exact ⟨y + 1, by go_num, by omega, ⟨v, D, ⟨by rw [hD.out, imgD_succ]⟩, ⟨by have := hdl.out; omega⟩, hr, h9⟩, h8, hb⟩
     case measure => simp [intOf]; omega
  ·have hdy : decide ((y : Int) < (b : Int)) = false := by simp; omega
   have hye : y = b := by omega
   subst hye
   have m0 := blk_cell h9.out 0; have m1 := blk_cell h9.out 1; have m2 := blk_cell h9.out 2; have m3 := blk_cell h9.out 3
   have z0 := blk_cell h8.out 0; have z1 := blk_cell h8.out 1; have z2 := blk_cell h8.out 2; have z3 := blk_cell h8.out 3
   have y0 := blk_frozen h8.out 0; have y1 := blk_frozen h8.out 1; have y2 := blk_frozen h8.out 2; have y3 := blk_frozen h8.out 3
   obtain ⟨A5, q5, e5⟩ := Kd.R_slice hr.out
   subst e5
   go_wp2
   have hD' := hD.out
   subst hD'
   have RR := Kd.R_types hr.out h8.out (by decide)
   have G8 := Gg8.out
   have H8 := h8.out
   refine bodyPost_ret (results_cell_row rfl _ _ g8 27 #[.int .i64 (a : Int), .int .i64 (y : Int), .int .i64 p, .slice A5 (imgD px a y).length q5] (0, 0) _ rfl (by
    refine blk_put (cs := #[.int .i64 (a : Int), .int .i64 (y : Int), .int .i64 p, .slice none 0 0]) ?_ 3 _ rfl
    refine blk_put (cs := #[.int .i64 (a : Int), .int .i64 (y : Int), .int .i64 0, .slice none 0 0]) ?_ 2 _ rfl
    refine blk_put (cs := #[.int .i64 (a : Int), .int .i64 0, .int .i64 0, .slice none 0 0]) ?_ 1 _ rfl
    refine blk_put (cs := #[.int .i64 0, .int .i64 0, .int .i64 0, .slice none 0 0]) ?_ 0 _ rfl
    exact H8
    ) hu rfl (by kernel_rfl)) rfl ?_
   exact ⟨_, rfl, Kd.R_mono (Kd.R_far (Kd.R_far (Kd.R_far (Kd.R_far RR (fun k hk => hk.2) _) (fun k hk => hk.2) _) (fun k hk => hk.2) _) (fun k hk => hk.2) _) (fun _ _ => trivial), below_set (below_set (below_set (below_set hb.out (by omega)) (by omega)) (by omega)) (by omega)⟩

/- impl.coverImage: an image that is covered by a valid layer. -/

def impl_coverImage.f (a b p : Int) (d : List Int) (lw lh lp : Int) (ld : List Int) (X Y mode alpha : Int) (hid : Bool) : Option (Int × Int × Int × List Int) :=
 if validI a b p d = true ∧ validI lw lh lp ld = true ∧ lp = p ∧ (-16 ≤ X ∧ X ≤ 16) ∧ (-16 ≤ Y ∧ Y ≤ 16) then some (a, b, p, imgD (coverPx a p d lw lh ld X Y mode alpha) a.toNat b.toNat) else none
set_option maxHeartbeats 4000000 in
set_option maxRecDepth 100000 in
theorem cover_yes (a b : Nat) (p : Int) (A : Option Addr) (c : Nat) (d : List Int) (lw lh : Int) (AL : Option Addr) (cl : Nat) (ld : List Int) (X Y mode alpha : Int) (hid : Bool) (w : World) (hr0_3 : Kd.C (Kd.int .i64) w A d.length d) (hc0_3 : d.length ≤ c) (hr1_3 : Kd.C (Kd.int .i64) w AL ld.length ld) (hc1_3 : ld.length ≤ cl) (hv1 : validI a b p d = true) (hvl : validI lw lh p ld = true) (hX : -16 ≤ X ∧ X ≤ 16) (hY : -16 ≤ Y ∧ Y ≤ 16) :
  Calls Try.prog 105 #[.agg #[.int .i64 (a : Int), .int .i64 (b : Int), .int .i64 p, .slice A d.length c], .agg #[.int .i64 lw, .int .i64 lh, .int .i64 p, .slice AL ld.length cl, .int .i64 X, .int .i64 Y, .int .i64 mode, .int .i64 alpha, .bool hid]] w fun e w' => ∃ v3_ : Value, e = .returned (.agg #[.int .i64 (a : Int), .int .i64 (b : Int), .int .i64 p, v3_]) ∧ Kd.R (Kd.int .i64) 3 w' w.heap.size (fun _ => True) v3_ (imgD (coverPx a p d lw lh ld X Y mode alpha) a b) ∧ Below w.heap.size w w' := by
 have HC := mk hc0_3
 have HR := mk hr0_3
 have HCL := mk hc1_3
 have HRL := mk hr1_3
 have HB0 := mk (Below.refl w.heap.size w)
 have HV := mk hv1
 have HVL := mk hvl
 have HXY := mk (And.intro hX hY)
 have hu := Try.underlying27
 have hs := ((validI_iff a b p d).1 hv1).1
 have HPL := mk (show ∀ x y, x < a → y < b → (coverPx a p d lw lh ld X Y mode alpha x y).length ≤ 4 from fun x y hx hy => coverPx_le hv1 lw lh ld X Y mode alpha (by omega) (by omega))
 clear hr0_3 hc0_3 hr1_3 hc1_3 hv1 hvl hX hY
 go_enter Try.func105, Try.ntmps105
 go_wp2_with (first
  | ((with_reducible refine gate_dst (N := 2) rfl ?_); refine box_event ?hg (N := 2) ?hd (cs := #[.int .i64 (a : Int), .int .i64 (b : Int), .int .i64 p, .slice A d.length c]) (t := 27) ?hr ?_; (case hd => rfl); (case hg => rfl); (case hr => first | (go_simp; done) | (go_simp; rfl)); intro g1 hg_ w1 hbox hb; have HB1 := mk (below_then HB0.out HB0.out.size hb); have Kb0 := mk hbox; have Gg1 := mk (show w.heap.size ≤ g1 from by rw [hg_]; exact HB0.out.size); have Kg1_1 := mk hbox; clear hbox hb hg_)
  | ((with_reducible refine gate_dst (N := 3) rfl ?_); refine box_event ?hg (N := 3) ?hd (cs := #[.int .i64 lw, .int .i64 lh, .int .i64 p, .slice AL ld.length cl, .int .i64 X, .int .i64 Y, .int .i64 mode, .int .i64 alpha, .bool hid]) (t := 55) ?hr ?_; (case hd => rfl); (case hg => rfl); (case hr => first | (go_simp; done) | (go_simp; rfl)); intro g3 hg_ w2 hbox hb; have HB2 := mk (below_then HB1.out HB1.out.size hb); have Kb1 := mk hbox; have Gg3 := mk (show w.heap.size ≤ g3 from by rw [hg_]; exact HB1.out.size); have Kg1_2 := mk (blk_below Kg1_1.out hb); have Kg3_2 := mk hbox; clear hbox hb hg_)
  | ((with_reducible refine gate_dst (N := 4) rfl ?_); refine box_event ?hg (N := 4) ?hd (cs := #[.int .i64 0, .int .i64 0, .int .i64 0, .slice none 0 0]) (t := 27) ?hr ?_; (case hd => rfl); (case hg => rfl); (case hr => first | (go_simp; done) | (go_simp; rfl)); intro g2 hg_ w3 hbox hb; have HB3 := mk (below_then HB2.out HB2.out.size hb); have Kb2 := mk hbox; have Gg2 := mk (show w.heap.size ≤ g2 from by rw [hg_]; exact HB2.out.size); have Kg1_3 := mk (blk_below Kg1_2.out hb); have Kg3_3 := mk (blk_below Kg3_2.out hb); have Kg2_3 := mk hbox; have fg1_0 : w3.cell? ⟨g1, 0, none⟩ = some (.int .i64 (a : Int)) := (blk_cell Kg1_3.out 0).trans rfl; have fg1_1 : w3.cell? ⟨g1, 1, none⟩ = some (.int .i64 (b : Int)) := (blk_cell Kg1_3.out 1).trans rfl; have fg1_2 : w3.cell? ⟨g1, 2, none⟩ = some (.int .i64 p) := (blk_cell Kg1_3.out 2).trans rfl; have fg1_3 : w3.cell? ⟨g1, 3, none⟩ = some (.slice A d.length c) := (blk_cell Kg1_3.out 3).trans rfl; have fg3_0 : w3.cell? ⟨g3, 0, none⟩ = some (.int .i64 lw) := (blk_cell Kg3_3.out 0).trans rfl; have fg3_1 : w3.cell? ⟨g3, 1, none⟩ = some (.int .i64 lh) := (blk_cell Kg3_3.out 1).trans rfl; have fg3_2 : w3.cell? ⟨g3, 2, none⟩ = some (.int .i64 p) := (blk_cell Kg3_3.out 2).trans rfl; have fg3_3 : w3.cell? ⟨g3, 3, none⟩ = some (.slice AL ld.length cl) := (blk_cell Kg3_3.out 3).trans rfl; have fg3_4 : w3.cell? ⟨g3, 4, none⟩ = some (.int .i64 X) := (blk_cell Kg3_3.out 4).trans rfl; have fg3_5 : w3.cell? ⟨g3, 5, none⟩ = some (.int .i64 Y) := (blk_cell Kg3_3.out 5).trans rfl; have fg3_6 : w3.cell? ⟨g3, 6, none⟩ = some (.int .i64 mode) := (blk_cell Kg3_3.out 6).trans rfl; have fg3_7 : w3.cell? ⟨g3, 7, none⟩ = some (.int .i64 alpha) := (blk_cell Kg3_3.out 7).trans rfl; have fg3_8 : w3.cell? ⟨g3, 8, none⟩ = some (.bool hid) := (blk_cell Kg3_3.out 8).trans rfl; have fg2_0 : w3.cell? ⟨g2, 0, none⟩ = some (.int .i64 0) := (blk_cell Kg2_3.out 0).trans rfl; have fg2_1 : w3.cell? ⟨g2, 1, none⟩ = some (.int .i64 0) := (blk_cell Kg2_3.out 1).trans rfl; have fg2_2 : w3.cell? ⟨g2, 2, none⟩ = some (.int .i64 0) := (blk_cell Kg2_3.out 2).trans rfl; have fg2_3 : w3.cell? ⟨g2, 3, none⟩ = some (.slice none 0 0) := (blk_cell Kg2_3.out 3).trans rfl; have yg2_0 := blk_frozen Kg2_3.out 0; have yg2_1 := blk_frozen Kg2_3.out 1; have yg2_2 := blk_frozen Kg2_3.out 2; have yg2_3 := blk_frozen Kg2_3.out 3; clear hbox hb hg_)
  | (go_at_call 107; refine (imageBy_calls 142 #[.pointer (some ⟨g1, 0, none⟩), .pointer (some ⟨g3, 0, none⟩)] (coverPx a p d lw lh ld X Y mode alpha) a b p (by omega) (by omega) w3 (enters_of Try.func142 (by kernel_rfl) rfl) HPL.out (fun W x y hx hy hW => cover1_calls a b p A c d HV.out HC.out lw lh X Y mode alpha hid AL cl ld HVL.out HCL.out HXY.out.1 HXY.out.2 x y (by omega) (by omega) g1 g3 W (blk_below Kg1_3.out hW) (blk_below Kg3_3.out hW) (Kd.C_below (Kd.C_below HR.out HB3.out) hW) (Kd.C_below (Kd.C_below HRL.out HB3.out) hW))).mono ?_; rintro e w4 ⟨v4, rfl, hr4, hb_⟩; have HB4 := mk (below_then HB3.out HB3.out.size hb_); have Kg1_4 := mk (blk_below Kg1_3.out hb_); have eg1_4_0 : w4.cell? ⟨g1, 0, none⟩ = some (.int .i64 (a : Int)) := (blk_cell Kg1_4.out 0).trans rfl; have eg1_4_1 : w4.cell? ⟨g1, 1, none⟩ = some (.int .i64 (b : Int)) := (blk_cell Kg1_4.out 1).trans rfl; have eg1_4_2 : w4.cell? ⟨g1, 2, none⟩ = some (.int .i64 p) := (blk_cell Kg1_4.out 2).trans rfl; have eg1_4_3 : w4.cell? ⟨g1, 3, none⟩ = some (.slice A d.length c) := (blk_cell Kg1_4.out 3).trans rfl; have Kg3_4 := mk (blk_below Kg3_3.out hb_); have eg3_4_0 : w4.cell? ⟨g3, 0, none⟩ = some (.int .i64 lw) := (blk_cell Kg3_4.out 0).trans rfl; have eg3_4_1 : w4.cell? ⟨g3, 1, none⟩ = some (.int .i64 lh) := (blk_cell Kg3_4.out 1).trans rfl; have eg3_4_2 : w4.cell? ⟨g3, 2, none⟩ = some (.int .i64 p) := (blk_cell Kg3_4.out 2).trans rfl; have eg3_4_3 : w4.cell? ⟨g3, 3, none⟩ = some (.slice AL ld.length cl) := (blk_cell Kg3_4.out 3).trans rfl; have eg3_4_4 : w4.cell? ⟨g3, 4, none⟩ = some (.int .i64 X) := (blk_cell Kg3_4.out 4).trans rfl; have eg3_4_5 : w4.cell? ⟨g3, 5, none⟩ = some (.int .i64 Y) := (blk_cell Kg3_4.out 5).trans rfl; have eg3_4_6 : w4.cell? ⟨g3, 6, none⟩ = some (.int .i64 mode) := (blk_cell Kg3_4.out 6).trans rfl; have eg3_4_7 : w4.cell? ⟨g3, 7, none⟩ = some (.int .i64 alpha) := (blk_cell Kg3_4.out 7).trans rfl; have eg3_4_8 : w4.cell? ⟨g3, 8, none⟩ = some (.bool hid) := (blk_cell Kg3_4.out 8).trans rfl; have Kg2_4 := mk (blk_below Kg2_3.out hb_); have eg2_4_0 : w4.cell? ⟨g2, 0, none⟩ = some (.int .i64 0) := (blk_cell Kg2_4.out 0).trans rfl; have eg2_4_1 : w4.cell? ⟨g2, 1, none⟩ = some (.int .i64 0) := (blk_cell Kg2_4.out 1).trans rfl; have eg2_4_2 : w4.cell? ⟨g2, 2, none⟩ = some (.int .i64 0) := (blk_cell Kg2_4.out 2).trans rfl; have eg2_4_3 : w4.cell? ⟨g2, 3, none⟩ = some (.slice none 0 0) := (blk_cell Kg2_4.out 3).trans rfl; have yg2_4_0 := blk_frozen Kg2_4.out 0; have yg2_4_1 := blk_frozen Kg2_4.out 1; have yg2_4_2 := blk_frozen Kg2_4.out 2; have yg2_4_3 := blk_frozen Kg2_4.out 3; have HR4 := mk (Kd.R_lower hr4 HB3.out.size); obtain ⟨A4, c4, ev4⟩ := Kd.R_slice HR4.out; subst ev4; clear hr4 hb_))
 have G2 := Gg2.out
 have RR := Kd.R_types HR4.out Kg2_4.out (by decide)
 refine bodyPost_ret (results_cell_row rfl _ _ g2 27 #[.int .i64 (a : Int), .int .i64 (b : Int), .int .i64 p, .slice A4 (imgD (coverPx a p d lw lh ld X Y mode alpha) a b).length c4] (0, 0) _ rfl (by
  refine blk_put (cs := #[.int .i64 (a : Int), .int .i64 (b : Int), .int .i64 p, .slice none 0 0]) ?_ 3 _ rfl
  refine blk_put (cs := #[.int .i64 (a : Int), .int .i64 (b : Int), .int .i64 0, .slice none 0 0]) ?_ 2 _ rfl
  refine blk_put (cs := #[.int .i64 (a : Int), .int .i64 0, .int .i64 0, .slice none 0 0]) ?_ 1 _ rfl
  refine blk_put (cs := #[.int .i64 0, .int .i64 0, .int .i64 0, .slice none 0 0]) ?_ 0 _ rfl
  exact Kg2_4.out
  ) hu rfl (by kernel_rfl)) rfl ?_
 exact ⟨_, rfl, Kd.R_mono (Kd.R_far (Kd.R_far (Kd.R_far (Kd.R_far RR (fun k hk => hk.2) _) (fun k hk => hk.2) _) (fun k hk => hk.2) _) (fun k hk => hk.2) _) (fun _ _ => trivial), below_set (below_set (below_set (below_set HB4.out (by omega)) (by omega)) (by omega)) (by omega)⟩
theorem impl_coverImage.calls (a b p : Int) (A : Option Addr) (c : Nat) (d : List Int) (lw lh lp : Int) (AL : Option Addr) (cl : Nat) (ld : List Int) (X Y mode alpha : Int) (hid : Bool) (r1 r2 r3 : Int) (r4 : List Int) (w : World) (hr0_3 : Kd.C (Kd.int .i64) w A d.length d) (hc0_3 : d.length ≤ c) (hr1_3 : Kd.C (Kd.int .i64) w AL ld.length ld) (hc1_3 : ld.length ≤ cl) (h : impl_coverImage.f a b p d lw lh lp ld X Y mode alpha hid = some (r1, r2, r3, r4)) :
  Calls Try.prog 105 #[.agg #[.int .i64 a, .int .i64 b, .int .i64 p, .slice A d.length c], .agg #[.int .i64 lw, .int .i64 lh, .int .i64 lp, .slice AL ld.length cl, .int .i64 X, .int .i64 Y, .int .i64 mode, .int .i64 alpha, .bool hid]] w fun e w' => ∃ v3_ : Value, e = .returned (.agg #[.int .i64 r1, .int .i64 r2, .int .i64 r3, v3_]) ∧ Kd.R (Kd.int .i64) 3 w' w.heap.size (fun _ => True) v3_ r4 ∧ Below w.heap.size w w' := by
 unfold impl_coverImage.f at h
 by_cases hc : validI a b p d = true ∧ validI lw lh lp ld = true ∧ lp = p ∧ (-16 ≤ X ∧ X ≤ 16) ∧ (-16 ≤ Y ∧ Y ≤ 16)
 ·rw [if_pos hc] at h
  obtain ⟨hv1, hvl, rfl, hX, hY⟩ := hc
  have hs := ((validI_iff a b lp d).1 hv1).1
  obtain ⟨an, rfl⟩ := Int.eq_ofNat_of_zero_le (show 0 ≤ a by omega)
  obtain ⟨bn, rfl⟩ := Int.eq_ofNat_of_zero_le (show 0 ≤ b by omega)
  obtain ⟨rfl, rfl, rfl, rfl⟩ : (an : Int) = r1 ∧ (bn : Int) = r2 ∧ lp = r3 ∧ imgD (coverPx an lp d lw lh ld X Y mode alpha) an bn = r4 := by simpa using h
  exact cover_yes an bn lp A c d lw lh AL cl ld X Y mode alpha hid w hr0_3 hc0_3 hr1_3 hc1_3 hv1 hvl hX hY
 ·rw [if_neg hc] at h; cases h
end Go.Proofs.Ytnofkbbcbpjhfaa.Q
