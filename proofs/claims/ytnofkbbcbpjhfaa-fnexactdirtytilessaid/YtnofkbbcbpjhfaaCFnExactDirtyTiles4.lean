/- A part of the proof that the statement FnExactDirtyTilesSaid holds, under no condition of its own: The program's DirtyTiles and the reference's return the same, and what is returned is held by nobody else: over lists of numbers alone. -/
import Derived.Test.YtnofkbbcbpjhfaaCFnExactDirtyTiles1
import Derived.Test.YtnofkbbcbpjhfaaCFnExactDirtyTiles2
import Derived.Test.YtnofkbbcbpjhfaaCFnExactDirtyTiles3
import Derived.Deep.Slices
import Derived.Deep.Fields
import Derived.ChangeSame
import Derived.ProofKit
import Derived.OpenShut
import Derived.ShutString
import Derived.ChangeOld
import Derived.SizedLaws
import GoSem.Claim
namespace Go.Proofs.Ytnofkbbcbpjhfaa.Q
open Go.RowKit Go.Proofs.YtnofkbbcbpjhfaaW.PrintWords Go.Proofs.YtnofkbbcbpjhfaaW.PrintLast Go.Proofs.YtnofkbbcbpjhfaaW.PrintMore
attribute [local go_sem] max2_int min2_int max_two min_two max_three min_three max_four min_four
set_option linter.unusedVariables false
set_option linter.unusedSimpArgs false
/-! ### laws_FnExactDirtyTiles: function 7 -/
def laws_FnExactDirtyTiles.j0 : Nat → List Int → List Int → Bool → Int → Int → Int → List Int → Int → Int → Int → List Int → Int → Int → Int → Int → Bool → Option (Bool)
  | 0, _, _, _, _, _, _, _, _, _, _, _, _, _, _, _, _ => none
  | k + 1, x6, x9, x63, x8002000, x8002001, x8002002, x8002003, x8003000, x8003001, x8003002, x8003003, x8003004, x8003005, x8003006, x8003007, x8003008 => if x63 = true then (some false) else ((laws_markIntS.f k x9 1).bind fun bt8072 => ((laws_heldIntS.f k bt8072.2 1).bind fun t8074 => (if t8074 < 0 then (some false) else (if t8074 = bt8072.1 then ((laws_toImage.f k x8002000 x8002001 x8002002 x8002003).bind fun bt8075 => ((laws_toLayer.f k x8003000 x8003001 x8003002 x8003003 x8003004 x8003005 x8003006 x8003007 x8003008).bind fun bt8081 => ((impl_DirtyTiles.f k bt8075.1 bt8075.2.1 bt8075.2.2.1 bt8075.2.2.2 bt8081.1 bt8081.2.1 bt8081.2.2.1 bt8081.2.2.2.1 bt8081.2.2.2.2.1 bt8081.2.2.2.2.2.1 bt8081.2.2.2.2.2.2.1 bt8081.2.2.2.2.2.2.2.1 bt8081.2.2.2.2.2.2.2.2).bind fun t8092 => ((laws_eqIntS.f k t8092 x6).bind fun t8095 => (if t8095 = true then ((laws_heldIntS.f k bt8072.2 1).bind fun t8096 => (if t8096 < 0 then (some false) else (if t8096 = bt8072.1 then (some true) else (some false)))) else (some false)))))) else (some false)))))
def laws_FnExactDirtyTiles.f (k : Nat) (a0_0 : Int) (a0_1 : Int) (a0_2 : Int) (l0_3 : List Int) (a1_0 : Int) (a1_1 : Int) (a1_2 : Int) (l1_3 : List Int) (a1_4 : Int) (a1_5 : Int) (a1_6 : Int) (a1_7 : Int) (a1_8 : Bool) : Option (Bool) := (laws_szImage.f a0_0 a0_1 a0_2 l0_3 1048576).bind fun t8003 => (if t8003 < 0 then (some true) else ((laws_szLayer.f a1_0 a1_1 a1_2 l1_3 a1_4 a1_5 a1_6 a1_7 a1_8 t8003).bind fun t8004 => (if t8004 < 0 then (some true) else ((laws_toImage.f k a0_0 a0_1 a0_2 l0_3).bind fun bt8005 => ((laws_toLayer.f k a1_0 a1_1 a1_2 l1_3 a1_4 a1_5 a1_6 a1_7 a1_8).bind fun bt8011 => ((spec_DirtyTiles.f k bt8005.1 bt8005.2.1 bt8005.2.2.1 bt8005.2.2.2 bt8011.1 bt8011.2.1 bt8011.2.2.1 bt8011.2.2.2.1 bt8011.2.2.2.2.1 bt8011.2.2.2.2.2.1 bt8011.2.2.2.2.2.2.1 bt8011.2.2.2.2.2.2.2.1 bt8011.2.2.2.2.2.2.2.2).bind fun t8022 => ((laws_toImage.f k a0_0 a0_1 a0_2 l0_3).bind fun bt8025 => ((laws_toLayer.f k a1_0 a1_1 a1_2 l1_3 a1_4 a1_5 a1_6 a1_7 a1_8).bind fun bt8032 => ((impl_DirtyTiles.f k bt8025.1 bt8025.2.1 bt8025.2.2.1 bt8025.2.2.2 bt8032.1 bt8032.2.1 bt8032.2.2.1 bt8032.2.2.2.1 bt8032.2.2.2.2.1 bt8032.2.2.2.2.2.1 bt8032.2.2.2.2.2.2.1 bt8032.2.2.2.2.2.2.2.1 bt8032.2.2.2.2.2.2.2.2).bind fun t8044 => ((laws_eqIntS.f k t8044 t8022).bind fun t8047 => (if t8047 = true then ((laws_toImage.f k a0_0 a0_1 a0_2 l0_3).bind fun bt8048 => ((laws_eqImage.f k bt8025.1 bt8025.2.1 bt8025.2.2.1 bt8025.2.2.2 bt8048.1 bt8048.2.1 bt8048.2.2.1 bt8048.2.2.2).bind fun t8054 => (if t8054 = true then ((laws_toLayer.f k a1_0 a1_1 a1_2 l1_3 a1_4 a1_5 a1_6 a1_7 a1_8).bind fun bt8055 => ((laws_eqLayer.f k bt8032.1 bt8032.2.1 bt8032.2.2.1 bt8032.2.2.2.1 bt8032.2.2.2.2.1 bt8032.2.2.2.2.2.1 bt8032.2.2.2.2.2.2.1 bt8032.2.2.2.2.2.2.2.1 bt8032.2.2.2.2.2.2.2.2 bt8055.1 bt8055.2.1 bt8055.2.2.1 bt8055.2.2.2.1 bt8055.2.2.2.2.1 bt8055.2.2.2.2.2.1 bt8055.2.2.2.2.2.2.1 bt8055.2.2.2.2.2.2.2.1 bt8055.2.2.2.2.2.2.2.2).bind fun t8066 => (if t8066 = true then ((laws_markImage.f k bt8025.1 bt8025.2.1 bt8025.2.2.1 bt8025.2.2.2 1).bind fun bt8067 => ((laws_markLayer.f k bt8032.1 bt8032.2.1 bt8032.2.2.1 bt8032.2.2.2.1 bt8032.2.2.2.2.1 bt8032.2.2.2.2.2.1 bt8032.2.2.2.2.2.2.1 bt8032.2.2.2.2.2.2.2.1 bt8032.2.2.2.2.2.2.2.2 bt8067.1).bind fun bt8069 => (if bt8069.1 < 0 then (laws_FnExactDirtyTiles.j0 k t8022 t8044 true a0_0 a0_1 a0_2 l0_3 a1_0 a1_1 a1_2 l1_3 a1_4 a1_5 a1_6 a1_7 a1_8) else ((laws_eqIntS.f k t8044 t8022).bind fun t8071 => (laws_FnExactDirtyTiles.j0 k t8022 t8044 (!t8071) a0_0 a0_1 a0_2 l0_3 a1_0 a1_1 a1_2 l1_3 a1_4 a1_5 a1_6 a1_7 a1_8))))) else (some false)))) else (some false)))) else (some false))))))))))))
theorem laws_FnExactDirtyTiles.mono_l : ∀ k, (∀ y0 y1 y2 y3 y4 y5 y6 y7 y8 y9 y10 y11 y12 y13 y14 y15, LeO (laws_FnExactDirtyTiles.j0 k y0 y1 y2 y3 y4 y5 y6 y7 y8 y9 y10 y11 y12 y13 y14 y15) (laws_FnExactDirtyTiles.j0 (k + 1) y0 y1 y2 y3 y4 y5 y6 y7 y8 y9 y10 y11 y12 y13 y14 y15))
  | 0 => fun _ _ _ _ _ _ _ _ _ _ _ _ _ _ _ _ r h => by simp [laws_FnExactDirtyTiles.j0] at h
  | k + 1 => by
    have ih0 := laws_FnExactDirtyTiles.mono_l k
    · intro y0 y1 y2 y3 y4 y5 y6 y7 y8 y9 y10 y11 y12 y13 y14 y15
      unfold laws_FnExactDirtyTiles.j0
      repeat' first
      | (with_reducible exact ih0 _ _ _ _ _ _ _ _ _ _ _ _ _ _ _ _)
      | (with_reducible exact impl_DirtyTiles.mono _ _ _ _ _ _ _ _ _ _ _ _ _ _)
      | (with_reducible exact laws_eqImage.mono _ _ _ _ _ _ _ _ _)
      | (with_reducible exact laws_eqIntS.mono _ _ _)
      | (with_reducible exact laws_eqLayer.mono _ _ _ _ _ _ _ _ _ _ _ _ _ _ _ _ _ _ _)
      | (with_reducible exact laws_heldIntS.mono _ _ _)
      | (with_reducible exact laws_markImage.mono _ _ _ _ _ _)
      | (with_reducible exact laws_markIntS.mono _ _ _)
      | (with_reducible exact laws_markLayer.mono _ _ _ _ _ _ _ _ _ _ _)
      | (with_reducible exact laws_toImage.mono _ _ _ _ _)
      | (with_reducible exact laws_toLayer.mono _ _ _ _ _ _ _ _ _ _)
      | (with_reducible exact spec_DirtyTiles.mono _ _ _ _ _ _ _ _ _ _ _ _ _ _)
      | (with_reducible exact LeO.refl _)
      | (with_reducible exact LeO.none _)
      | (with_reducible refine LeO.ite ?_ ?_)
      | (with_reducible refine LeO.bind ?_ (fun _ => ?_))
      | exact ih0 _ _ _ _ _ _ _ _ _ _ _ _ _ _ _ _
      | exact impl_DirtyTiles.mono _ _ _ _ _ _ _ _ _ _ _ _ _ _
      | exact laws_eqImage.mono _ _ _ _ _ _ _ _ _
      | exact laws_eqIntS.mono _ _ _
      | exact laws_eqLayer.mono _ _ _ _ _ _ _ _ _ _ _ _ _ _ _ _ _ _ _
      | exact laws_heldIntS.mono _ _ _
      | exact laws_markImage.mono _ _ _ _ _ _
      | exact laws_markIntS.mono _ _ _
      | exact laws_markLayer.mono _ _ _ _ _ _ _ _ _ _ _
      | exact laws_toImage.mono _ _ _ _ _
      | exact laws_toLayer.mono _ _ _ _ _ _ _ _ _ _
      | exact spec_DirtyTiles.mono _ _ _ _ _ _ _ _ _ _ _ _ _ _
      | exact LeO.none _
      | refine LeO.ite ?_ ?_
      | refine LeO.bind ?_ (fun _ => ?_)
theorem laws_FnExactDirtyTiles.mono : ∀ a0 a1 a2 a3 a4 a5 a6 a7 a8 a9 a10 a11 a12 k, LeO (laws_FnExactDirtyTiles.f k a0 a1 a2 a3 a4 a5 a6 a7 a8 a9 a10 a11 a12) (laws_FnExactDirtyTiles.f (k + 1) a0 a1 a2 a3 a4 a5 a6 a7 a8 a9 a10 a11 a12) := by
  intro a0 a1 a2 a3 a4 a5 a6 a7 a8 a9 a10 a11 a12 k
  have ih0 := laws_FnExactDirtyTiles.mono_l k
  unfold laws_FnExactDirtyTiles.f
  repeat' first
      | (with_reducible exact ih0 _ _ _ _ _ _ _ _ _ _ _ _ _ _ _ _)
      | (with_reducible exact impl_DirtyTiles.mono _ _ _ _ _ _ _ _ _ _ _ _ _ _)
      | (with_reducible exact laws_eqImage.mono _ _ _ _ _ _ _ _ _)
      | (with_reducible exact laws_eqIntS.mono _ _ _)
      | (with_reducible exact laws_eqLayer.mono _ _ _ _ _ _ _ _ _ _ _ _ _ _ _ _ _ _ _)
      | (with_reducible exact laws_heldIntS.mono _ _ _)
      | (with_reducible exact laws_markImage.mono _ _ _ _ _ _)
      | (with_reducible exact laws_markIntS.mono _ _ _)
      | (with_reducible exact laws_markLayer.mono _ _ _ _ _ _ _ _ _ _ _)
      | (with_reducible exact laws_toImage.mono _ _ _ _ _)
      | (with_reducible exact laws_toLayer.mono _ _ _ _ _ _ _ _ _ _)
      | (with_reducible exact spec_DirtyTiles.mono _ _ _ _ _ _ _ _ _ _ _ _ _ _)
      | (with_reducible exact LeO.refl _)
      | (with_reducible exact LeO.none _)
      | (with_reducible refine LeO.ite ?_ ?_)
      | (with_reducible refine LeO.bind ?_ (fun _ => ?_))
      | exact ih0 _ _ _ _ _ _ _ _ _ _ _ _ _ _ _ _
      | exact impl_DirtyTiles.mono _ _ _ _ _ _ _ _ _ _ _ _ _ _
      | exact laws_eqImage.mono _ _ _ _ _ _ _ _ _
      | exact laws_eqIntS.mono _ _ _
      | exact laws_eqLayer.mono _ _ _ _ _ _ _ _ _ _ _ _ _ _ _ _ _ _ _
      | exact laws_heldIntS.mono _ _ _
      | exact laws_markImage.mono _ _ _ _ _ _
      | exact laws_markIntS.mono _ _ _
      | exact laws_markLayer.mono _ _ _ _ _ _ _ _ _ _ _
      | exact laws_toImage.mono _ _ _ _ _
      | exact laws_toLayer.mono _ _ _ _ _ _ _ _ _ _
      | exact spec_DirtyTiles.mono _ _ _ _ _ _ _ _ _ _ _ _ _ _
      | exact LeO.none _
      | refine LeO.ite ?_ ?_
      | refine LeO.bind ?_ (fun _ => ?_)
set_option maxHeartbeats 8000000 in
set_option maxRecDepth 100000 in
theorem laws_FnExactDirtyTiles.calls (k : Nat) (a0_0 : Int) (a0_1 : Int) (a0_2 : Int) (A0_3 : Option Addr) (c0_3 : Nat) (l0_3 : List Int) (a1_0 : Int) (a1_1 : Int) (a1_2 : Int) (A1_3 : Option Addr) (c1_3 : Nat) (l1_3 : List Int) (a1_4 : Int) (a1_5 : Int) (a1_6 : Int) (a1_7 : Int) (a1_8 : Bool) (r : Bool) (w : World) (hr0_3 : Kd.C (Kd.int .i64) w A0_3 l0_3.length l0_3) (hc0_3 : l0_3.length ≤ c0_3) (hr1_3 : Kd.C (Kd.int .i64) w A1_3 l1_3.length l1_3) (hc1_3 : l1_3.length ≤ c1_3) (h : laws_FnExactDirtyTiles.f k a0_0 a0_1 a0_2 l0_3 a1_0 a1_1 a1_2 l1_3 a1_4 a1_5 a1_6 a1_7 a1_8 = some r) (hrt : r = true) :
    Calls Try.prog 7 #[.agg #[.int .i64 a0_0, .int .i64 a0_1, .int .i64 a0_2, .slice A0_3 l0_3.length c0_3], .agg #[.int .i64 a1_0, .int .i64 a1_1, .int .i64 a1_2, .slice A1_3 l1_3.length c1_3, .int .i64 a1_4, .int .i64 a1_5, .int .i64 a1_6, .int .i64 a1_7, .bool a1_8]] w fun e w' => e = .returned (.bool r) ∧ Below w.heap.size w w' := by
  have HRT := Aside0.mk hrt
  clear hrt
  have hu24 := Try.underlying24
  have hu51 := Try.underlying51
  have hu27 := Try.underlying27
  have hu55 := Try.underlying55
  have HR0_3 := Aside0.mk hr0_3
  have HC0_3 := Aside0.mk hc0_3
  clear hr0_3 hc0_3
  have HR1_3 := Aside0.mk hr1_3
  have HC1_3 := Aside0.mk hc1_3
  clear hr1_3 hc1_3
  have HB := Aside0.mk (Below.refl w.heap.size w)
  have H : ((laws_szImage.f a0_0 a0_1 a0_2 l0_3 1048576).bind fun t8003 => (if t8003 < 0 then (some true) else ((laws_szLayer.f a1_0 a1_1 a1_2 l1_3 a1_4 a1_5 a1_6 a1_7 a1_8 t8003).bind fun t8004 => (if t8004 < 0 then (some true) else ((laws_toImage.f k a0_0 a0_1 a0_2 l0_3).bind fun bt8005 => ((laws_toLayer.f k a1_0 a1_1 a1_2 l1_3 a1_4 a1_5 a1_6 a1_7 a1_8).bind fun bt8011 => ((spec_DirtyTiles.f k bt8005.1 bt8005.2.1 bt8005.2.2.1 bt8005.2.2.2 bt8011.1 bt8011.2.1 bt8011.2.2.1 bt8011.2.2.2.1 bt8011.2.2.2.2.1 bt8011.2.2.2.2.2.1 bt8011.2.2.2.2.2.2.1 bt8011.2.2.2.2.2.2.2.1 bt8011.2.2.2.2.2.2.2.2).bind fun t8022 => ((laws_toImage.f k a0_0 a0_1 a0_2 l0_3).bind fun bt8025 => ((laws_toLayer.f k a1_0 a1_1 a1_2 l1_3 a1_4 a1_5 a1_6 a1_7 a1_8).bind fun bt8032 => ((impl_DirtyTiles.f k bt8025.1 bt8025.2.1 bt8025.2.2.1 bt8025.2.2.2 bt8032.1 bt8032.2.1 bt8032.2.2.1 bt8032.2.2.2.1 bt8032.2.2.2.2.1 bt8032.2.2.2.2.2.1 bt8032.2.2.2.2.2.2.1 bt8032.2.2.2.2.2.2.2.1 bt8032.2.2.2.2.2.2.2.2).bind fun t8044 => ((laws_eqIntS.f k t8044 t8022).bind fun t8047 => (if t8047 = true then ((laws_toImage.f k a0_0 a0_1 a0_2 l0_3).bind fun bt8048 => ((laws_eqImage.f k bt8025.1 bt8025.2.1 bt8025.2.2.1 bt8025.2.2.2 bt8048.1 bt8048.2.1 bt8048.2.2.1 bt8048.2.2.2).bind fun t8054 => (if t8054 = true then ((laws_toLayer.f k a1_0 a1_1 a1_2 l1_3 a1_4 a1_5 a1_6 a1_7 a1_8).bind fun bt8055 => ((laws_eqLayer.f k bt8032.1 bt8032.2.1 bt8032.2.2.1 bt8032.2.2.2.1 bt8032.2.2.2.2.1 bt8032.2.2.2.2.2.1 bt8032.2.2.2.2.2.2.1 bt8032.2.2.2.2.2.2.2.1 bt8032.2.2.2.2.2.2.2.2 bt8055.1 bt8055.2.1 bt8055.2.2.1 bt8055.2.2.2.1 bt8055.2.2.2.2.1 bt8055.2.2.2.2.2.1 bt8055.2.2.2.2.2.2.1 bt8055.2.2.2.2.2.2.2.1 bt8055.2.2.2.2.2.2.2.2).bind fun t8066 => (if t8066 = true then ((laws_markImage.f k bt8025.1 bt8025.2.1 bt8025.2.2.1 bt8025.2.2.2 1).bind fun bt8067 => ((laws_markLayer.f k bt8032.1 bt8032.2.1 bt8032.2.2.1 bt8032.2.2.2.1 bt8032.2.2.2.2.1 bt8032.2.2.2.2.2.1 bt8032.2.2.2.2.2.2.1 bt8032.2.2.2.2.2.2.2.1 bt8032.2.2.2.2.2.2.2.2 bt8067.1).bind fun bt8069 => (if bt8069.1 < 0 then (laws_FnExactDirtyTiles.j0 k t8022 t8044 true a0_0 a0_1 a0_2 l0_3 a1_0 a1_1 a1_2 l1_3 a1_4 a1_5 a1_6 a1_7 a1_8) else ((laws_eqIntS.f k t8044 t8022).bind fun t8071 => (laws_FnExactDirtyTiles.j0 k t8022 t8044 (!t8071) a0_0 a0_1 a0_2 l0_3 a1_0 a1_1 a1_2 l1_3 a1_4 a1_5 a1_6 a1_7 a1_8))))) else (some false)))) else (some false)))) else (some false))))))))))))) = some r := h
  clear h
  replace H := Option.bind_eq_some_iff.mp H
  obtain ⟨t8003, A30, H⟩ := H
  replace H : (if t8003 < 0 then (some true) else ((laws_szLayer.f a1_0 a1_1 a1_2 l1_3 a1_4 a1_5 a1_6 a1_7 a1_8 t8003).bind fun t8004 => (if t8004 < 0 then (some true) else ((laws_toImage.f k a0_0 a0_1 a0_2 l0_3).bind fun bt8005 => ((laws_toLayer.f k a1_0 a1_1 a1_2 l1_3 a1_4 a1_5 a1_6 a1_7 a1_8).bind fun bt8011 => ((spec_DirtyTiles.f k bt8005.1 bt8005.2.1 bt8005.2.2.1 bt8005.2.2.2 bt8011.1 bt8011.2.1 bt8011.2.2.1 bt8011.2.2.2.1 bt8011.2.2.2.2.1 bt8011.2.2.2.2.2.1 bt8011.2.2.2.2.2.2.1 bt8011.2.2.2.2.2.2.2.1 bt8011.2.2.2.2.2.2.2.2).bind fun t8022 => ((laws_toImage.f k a0_0 a0_1 a0_2 l0_3).bind fun bt8025 => ((laws_toLayer.f k a1_0 a1_1 a1_2 l1_3 a1_4 a1_5 a1_6 a1_7 a1_8).bind fun bt8032 => ((impl_DirtyTiles.f k bt8025.1 bt8025.2.1 bt8025.2.2.1 bt8025.2.2.2 bt8032.1 bt8032.2.1 bt8032.2.2.1 bt8032.2.2.2.1 bt8032.2.2.2.2.1 bt8032.2.2.2.2.2.1 bt8032.2.2.2.2.2.2.1 bt8032.2.2.2.2.2.2.2.1 bt8032.2.2.2.2.2.2.2.2).bind fun t8044 => ((laws_eqIntS.f k t8044 t8022).bind fun t8047 => (if t8047 = true then ((laws_toImage.f k a0_0 a0_1 a0_2 l0_3).bind fun bt8048 => ((laws_eqImage.f k bt8025.1 bt8025.2.1 bt8025.2.2.1 bt8025.2.2.2 bt8048.1 bt8048.2.1 bt8048.2.2.1 bt8048.2.2.2).bind fun t8054 => (if t8054 = true then ((laws_toLayer.f k a1_0 a1_1 a1_2 l1_3 a1_4 a1_5 a1_6 a1_7 a1_8).bind fun bt8055 => ((laws_eqLayer.f k bt8032.1 bt8032.2.1 bt8032.2.2.1 bt8032.2.2.2.1 bt8032.2.2.2.2.1 bt8032.2.2.2.2.2.1 bt8032.2.2.2.2.2.2.1 bt8032.2.2.2.2.2.2.2.1 bt8032.2.2.2.2.2.2.2.2 bt8055.1 bt8055.2.1 bt8055.2.2.1 bt8055.2.2.2.1 bt8055.2.2.2.2.1 bt8055.2.2.2.2.2.1 bt8055.2.2.2.2.2.2.1 bt8055.2.2.2.2.2.2.2.1 bt8055.2.2.2.2.2.2.2.2).bind fun t8066 => (if t8066 = true then ((laws_markImage.f k bt8025.1 bt8025.2.1 bt8025.2.2.1 bt8025.2.2.2 1).bind fun bt8067 => ((laws_markLayer.f k bt8032.1 bt8032.2.1 bt8032.2.2.1 bt8032.2.2.2.1 bt8032.2.2.2.2.1 bt8032.2.2.2.2.2.1 bt8032.2.2.2.2.2.2.1 bt8032.2.2.2.2.2.2.2.1 bt8032.2.2.2.2.2.2.2.2 bt8067.1).bind fun bt8069 => (if bt8069.1 < 0 then (laws_FnExactDirtyTiles.j0 k t8022 t8044 true a0_0 a0_1 a0_2 l0_3 a1_0 a1_1 a1_2 l1_3 a1_4 a1_5 a1_6 a1_7 a1_8) else ((laws_eqIntS.f k t8044 t8022).bind fun t8071 => (laws_FnExactDirtyTiles.j0 k t8022 t8044 (!t8071) a0_0 a0_1 a0_2 l0_3 a1_0 a1_1 a1_2 l1_3 a1_4 a1_5 a1_6 a1_7 a1_8))))) else (some false)))) else (some false)))) else (some false)))))))))))) = some r := H
  have A3 := Aside0.mk A30
  clear A30
  by_cases c4 : t8003 < 0
  · rw [if_pos c4] at H
    have c4b0 : decide (t8003 < 0) = true := decide_eq_true c4
    clear c4
    obtain rfl := Option.some.inj H
    go_enter Try.func7, Try.ntmps7
    go_wp2_with (first | ((with_reducible refine gate_dst (N := 2) rfl ?_); refine box_event ?hg (N := 2) ?hd (cs := #[.int .i64 a0_0, .int .i64 a0_1, .int .i64 a0_2, .slice A0_3 l0_3.length c0_3]) (t := 24) ?hr ?_; (case hd => rfl); (case hg => rfl); (case hr => first | (go_simp; done) | (go_simp; rfl)); intro gb8001 hg w5 hbox hb; have n0_ := Aside0.mk (below_step (by repeat (first | (with_reducible first | exact HB.out | apply below_alloc | apply pw_below_drewN | apply below_drew1) | exact HB.out)) hb); have n1_ := Aside0.mk (hbox); have n2_ := Aside0.mk ((by rw [hg]; exact (below_size (by repeat (first | (with_reducible first | exact HB.out | apply below_alloc | apply pw_below_drewN | apply below_drew1) | exact HB.out))) : w.heap.size ≤ gb8001)); have n3_ := Aside0.mk ((by rw [hg]; exact (below_size (by repeat (first | (with_reducible first | exact HB.out | apply below_alloc | apply pw_below_drewN | apply below_drew1) | exact HB.out))) : w.heap.size ≤ gb8001)); clear HB; have HB := n0_; have BK8001 := n1_; have GW8001 := n2_; have GE8001 := n3_; clear n0_ n1_ n2_ n3_; clear hb hbox hg) | ((with_reducible refine gate_dst (N := 3) rfl ?_); refine box_event ?hg (N := 3) ?hd (cs := #[.int .i64 a1_0, .int .i64 a1_1, .int .i64 a1_2, .slice A1_3 l1_3.length c1_3, .int .i64 a1_4, .int .i64 a1_5, .int .i64 a1_6, .int .i64 a1_7, .bool a1_8]) (t := 51) ?hr ?_; (case hd => rfl); (case hg => rfl); (case hr => first | (go_simp; done) | (go_simp; rfl)); intro gb8002 hg w6 hbox hb; have n0_ := Aside0.mk (blk_below (g := gb8001) (o := .cells #[.int .i64 a0_0, .int .i64 a0_1, .int .i64 a0_2, .slice A0_3 l0_3.length c0_3] 24 (0, 0)) (by (with_reducible repeat (first | refine blk_drewN ?_ _ | refine blk_drew ?_ | refine blk_alloc ?_ _)); exact BK8001.out) hb); have n1_ := Aside0.mk (below_step (by repeat (first | (with_reducible first | exact HB.out | apply below_alloc | apply pw_below_drewN | apply below_drew1 | refine below_set ?_ GE8001.out) | exact HB.out)) hb); have n2_ := Aside0.mk (hbox); have n3_ := Aside0.mk ((by rw [hg]; exact (below_size (by repeat (first | (with_reducible first | exact HB.out | apply below_alloc | apply pw_below_drewN | apply below_drew1 | refine below_set ?_ GE8001.out) | exact HB.out))) : w.heap.size ≤ gb8002)); have n4_ := Aside0.mk ((by rw [hg]; exact (below_size (by repeat (first | (with_reducible first | exact HB.out | apply below_alloc | apply pw_below_drewN | apply below_drew1 | refine below_set ?_ GE8001.out) | exact HB.out))) : w.heap.size ≤ gb8002)); have n5_ := Aside0.mk ((by rw [hg]; exact Nat.ne_of_lt (blk_lt (g := gb8001) (o := .cells #[.int .i64 a0_0, .int .i64 a0_1, .int .i64 a0_2, .slice A0_3 l0_3.length c0_3] 24 (0, 0)) (by (with_reducible repeat (first | refine blk_drewN ?_ _ | refine blk_drew ?_ | refine blk_alloc ?_ _)); exact BK8001.out)) : gb8001 ≠ gb8002)); have n6_ := Aside0.mk ((by rw [hg]; exact Nat.ne_of_gt (blk_lt (g := gb8001) (o := .cells #[.int .i64 a0_0, .int .i64 a0_1, .int .i64 a0_2, .slice A0_3 l0_3.length c0_3] 24 (0, 0)) (by (with_reducible repeat (first | refine blk_drewN ?_ _ | refine blk_drew ?_ | refine blk_alloc ?_ _)); exact BK8001.out)) : gb8002 ≠ gb8001)); clear BK8001; clear HB; have BK8001 := n0_; have HB := n1_; have BK8002 := n2_; have GW8002 := n3_; have GE8002 := n4_; have NB8001_8002 := n5_; have NB8002_8001 := n6_; clear n0_ n1_ n2_ n3_ n4_ n5_ n6_; clear hb hbox hg; have hnb7 := NB8001_8002.out; have hnc7 := NB8002_8001.out; have hcz8_0 : w6.cell? ⟨gb8001, 0, none⟩ = some (.int .i64 a0_0) := (blk_cell BK8001.out 0).trans rfl; have hcz8_1 : w6.cell? ⟨gb8001, 1, none⟩ = some (.int .i64 a0_1) := (blk_cell BK8001.out 1).trans rfl; have hcz8_2 : w6.cell? ⟨gb8001, 2, none⟩ = some (.int .i64 a0_2) := (blk_cell BK8001.out 2).trans rfl; have hcz8_3 : w6.cell? ⟨gb8001, 3, none⟩ = some (.slice A0_3 l0_3.length c0_3) := (blk_cell BK8001.out 3).trans rfl; have hfz8_0 := blk_frozen BK8001.out 0; have hfz8_1 := blk_frozen BK8001.out 1; have hfz8_2 := blk_frozen BK8001.out 2; have hfz8_3 := blk_frozen BK8001.out 3) | ((with_reducible refine gate_callee (f := 20) rfl ?_); refine goesL_ (some 16) rfl rfl Try.func20 (by kernel_rfl) rfl #[.agg #[.int .i64 a0_0, .int .i64 a0_1, .int .i64 a0_2, .slice A0_3 l0_3.length c0_3], .int .i64 1048576] rfl (by (try simp only [List.map_toArray, List.map_cons, List.map_nil]); first | done | rfl | (simp only [List.length_drop, List.length_take]; rfl)) ?_; (with_reducible refine (laws_szImage.calls a0_0 a0_1 a0_2 _ _ l0_3 1048576 t8003 _ ?side1 ?side2 A3.out).mono ?_); (case side1 => repeat (first | exact (Kd.C_below HR0_3.out HB.out) | (with_reducible refine Kd.C_alloc ?_ _) | (with_reducible refine Kd.C_drewN ?_ _) | (with_reducible refine Kd.C_drew ?_))); (case side2 => exact HC0_3.out); rintro e w9 ⟨rfl, hb⟩; refine ⟨_, rfl, ?_⟩; have n0_ := Aside0.mk (blk_below (g := gb8001) (o := .cells #[.int .i64 a0_0, .int .i64 a0_1, .int .i64 a0_2, .slice A0_3 l0_3.length c0_3] 24 (0, 0)) (by (with_reducible repeat (first | refine blk_drewN ?_ _ | refine blk_drew ?_ | refine blk_alloc ?_ _)); exact BK8001.out) hb); have n1_ := Aside0.mk (blk_below (g := gb8002) (o := .cells #[.int .i64 a1_0, .int .i64 a1_1, .int .i64 a1_2, .slice A1_3 l1_3.length c1_3, .int .i64 a1_4, .int .i64 a1_5, .int .i64 a1_6, .int .i64 a1_7, .bool a1_8] 51 (0, 0)) (by (with_reducible repeat (first | refine blk_drewN ?_ _ | refine blk_drew ?_ | refine blk_alloc ?_ _)); exact BK8002.out) hb); have n2_ := Aside0.mk (below_step (by repeat (first | (with_reducible first | exact HB.out | apply below_alloc | apply pw_below_drewN | apply below_drew1 | refine below_set ?_ GE8001.out | refine below_set ?_ GE8002.out) | exact HB.out)) hb); clear BK8001; clear BK8002; clear HB; have BK8001 := n0_; have BK8002 := n1_; have HB := n2_; clear n0_ n1_ n2_; (try clear hb); (try clear hb2); (try clear hk); (try clear hi)))
    go_ret
    exact ⟨by first | rfl | (simp [errW_none, errW_some] <;> rfl) | (simp [*, errW_none, errW_some] <;> rfl), by repeat (first | (with_reducible first | exact HB.out | apply below_alloc | apply pw_below_drewN | apply below_drew1 | refine below_set ?_ GE8001.out | refine below_set ?_ GE8002.out) | exact HB.out)⟩
  · rw [if_neg c4] at H
    have c4b0 : decide (t8003 < 0) = false := decide_eq_false c4
    clear c4
    replace H := Option.bind_eq_some_iff.mp H
    obtain ⟨t8004, A100, H⟩ := H
    replace H : (if t8004 < 0 then (some true) else ((laws_toImage.f k a0_0 a0_1 a0_2 l0_3).bind fun bt8005 => ((laws_toLayer.f k a1_0 a1_1 a1_2 l1_3 a1_4 a1_5 a1_6 a1_7 a1_8).bind fun bt8011 => ((spec_DirtyTiles.f k bt8005.1 bt8005.2.1 bt8005.2.2.1 bt8005.2.2.2 bt8011.1 bt8011.2.1 bt8011.2.2.1 bt8011.2.2.2.1 bt8011.2.2.2.2.1 bt8011.2.2.2.2.2.1 bt8011.2.2.2.2.2.2.1 bt8011.2.2.2.2.2.2.2.1 bt8011.2.2.2.2.2.2.2.2).bind fun t8022 => ((laws_toImage.f k a0_0 a0_1 a0_2 l0_3).bind fun bt8025 => ((laws_toLayer.f k a1_0 a1_1 a1_2 l1_3 a1_4 a1_5 a1_6 a1_7 a1_8).bind fun bt8032 => ((impl_DirtyTiles.f k bt8025.1 bt8025.2.1 bt8025.2.2.1 bt8025.2.2.2 bt8032.1 bt8032.2.1 bt8032.2.2.1 bt8032.2.2.2.1 bt8032.2.2.2.2.1 bt8032.2.2.2.2.2.1 bt8032.2.2.2.2.2.2.1 bt8032.2.2.2.2.2.2.2.1 bt8032.2.2.2.2.2.2.2.2).bind fun t8044 => ((laws_eqIntS.f k t8044 t8022).bind fun t8047 => (if t8047 = true then ((laws_toImage.f k a0_0 a0_1 a0_2 l0_3).bind fun bt8048 => ((laws_eqImage.f k bt8025.1 bt8025.2.1 bt8025.2.2.1 bt8025.2.2.2 bt8048.1 bt8048.2.1 bt8048.2.2.1 bt8048.2.2.2).bind fun t8054 => (if t8054 = true then ((laws_toLayer.f k a1_0 a1_1 a1_2 l1_3 a1_4 a1_5 a1_6 a1_7 a1_8).bind fun bt8055 => ((laws_eqLayer.f k bt8032.1 bt8032.2.1 bt8032.2.2.1 bt8032.2.2.2.1 bt8032.2.2.2.2.1 bt8032.2.2.2.2.2.1 bt8032.2.2.2.2.2.2.1 bt8032.2.2.2.2.2.2.2.1 bt8032.2.2.2.2.2.2.2.2 bt8055.1 bt8055.2.1 bt8055.2.2.1 bt8055.2.2.2.1 bt8055.2.2.2.2.1 bt8055.2.2.2.2.2.1 bt8055.2.2.2.2.2.2.1 bt8055.2.2.2.2.2.2.2.1 bt8055.2.2.2.2.2.2.2.2).bind fun t8066 => (if t8066 = true then ((laws_markImage.f k bt8025.1 bt8025.2.1 bt8025.2.2.1 bt8025.2.2.2 1).bind fun bt8067 => ((laws_markLayer.f k bt8032.1 bt8032.2.1 bt8032.2.2.1 bt8032.2.2.2.1 bt8032.2.2.2.2.1 bt8032.2.2.2.2.2.1 bt8032.2.2.2.2.2.2.1 bt8032.2.2.2.2.2.2.2.1 bt8032.2.2.2.2.2.2.2.2 bt8067.1).bind fun bt8069 => (if bt8069.1 < 0 then (laws_FnExactDirtyTiles.j0 k t8022 t8044 true a0_0 a0_1 a0_2 l0_3 a1_0 a1_1 a1_2 l1_3 a1_4 a1_5 a1_6 a1_7 a1_8) else ((laws_eqIntS.f k t8044 t8022).bind fun t8071 => (laws_FnExactDirtyTiles.j0 k t8022 t8044 (!t8071) a0_0 a0_1 a0_2 l0_3 a1_0 a1_1 a1_2 l1_3 a1_4 a1_5 a1_6 a1_7 a1_8))))) else (some false)))) else (some false)))) else (some false)))))))))) = some r := H
    have A10 := Aside0.mk A100
    clear A100
    by_cases c11 : t8004 < 0
    · rw [if_pos c11] at H
      have c11b0 : decide (t8004 < 0) = true := decide_eq_true c11
      clear c11
      obtain rfl := Option.some.inj H
      go_enter Try.func7, Try.ntmps7
      go_wp2_with (first | ((with_reducible refine gate_dst (N := 2) rfl ?_); refine box_event ?hg (N := 2) ?hd (cs := #[.int .i64 a0_0, .int .i64 a0_1, .int .i64 a0_2, .slice A0_3 l0_3.length c0_3]) (t := 24) ?hr ?_; (case hd => rfl); (case hg => rfl); (case hr => first | (go_simp; done) | (go_simp; rfl)); intro gb8001 hg w12 hbox hb; have n0_ := Aside0.mk (below_step (by repeat (first | (with_reducible first | exact HB.out | apply below_alloc | apply pw_below_drewN | apply below_drew1) | exact HB.out)) hb); have n1_ := Aside0.mk (hbox); have n2_ := Aside0.mk ((by rw [hg]; exact (below_size (by repeat (first | (with_reducible first | exact HB.out | apply below_alloc | apply pw_below_drewN | apply below_drew1) | exact HB.out))) : w.heap.size ≤ gb8001)); have n3_ := Aside0.mk ((by rw [hg]; exact (below_size (by repeat (first | (with_reducible first | exact HB.out | apply below_alloc | apply pw_below_drewN | apply below_drew1) | exact HB.out))) : w.heap.size ≤ gb8001)); clear HB; have HB := n0_; have BK8001 := n1_; have GW8001 := n2_; have GE8001 := n3_; clear n0_ n1_ n2_ n3_; clear hb hbox hg) | ((with_reducible refine gate_dst (N := 3) rfl ?_); refine box_event ?hg (N := 3) ?hd (cs := #[.int .i64 a1_0, .int .i64 a1_1, .int .i64 a1_2, .slice A1_3 l1_3.length c1_3, .int .i64 a1_4, .int .i64 a1_5, .int .i64 a1_6, .int .i64 a1_7, .bool a1_8]) (t := 51) ?hr ?_; (case hd => rfl); (case hg => rfl); (case hr => first | (go_simp; done) | (go_simp; rfl)); intro gb8002 hg w13 hbox hb; have n0_ := Aside0.mk (blk_below (g := gb8001) (o := .cells #[.int .i64 a0_0, .int .i64 a0_1, .int .i64 a0_2, .slice A0_3 l0_3.length c0_3] 24 (0, 0)) (by (with_reducible repeat (first | refine blk_drewN ?_ _ | refine blk_drew ?_ | refine blk_alloc ?_ _)); exact BK8001.out) hb); have n1_ := Aside0.mk (below_step (by repeat (first | (with_reducible first | exact HB.out | apply below_alloc | apply pw_below_drewN | apply below_drew1 | refine below_set ?_ GE8001.out) | exact HB.out)) hb); have n2_ := Aside0.mk (hbox); have n3_ := Aside0.mk ((by rw [hg]; exact (below_size (by repeat (first | (with_reducible first | exact HB.out | apply below_alloc | apply pw_below_drewN | apply below_drew1 | refine below_set ?_ GE8001.out) | exact HB.out))) : w.heap.size ≤ gb8002)); have n4_ := Aside0.mk ((by rw [hg]; exact (below_size (by repeat (first | (with_reducible first | exact HB.out | apply below_alloc | apply pw_below_drewN | apply below_drew1 | refine below_set ?_ GE8001.out) | exact HB.out))) : w.heap.size ≤ gb8002)); have n5_ := Aside0.mk ((by rw [hg]; exact Nat.ne_of_lt (blk_lt (g := gb8001) (o := .cells #[.int .i64 a0_0, .int .i64 a0_1, .int .i64 a0_2, .slice A0_3 l0_3.length c0_3] 24 (0, 0)) (by (with_reducible repeat (first | refine blk_drewN ?_ _ | refine blk_drew ?_ | refine blk_alloc ?_ _)); exact BK8001.out)) : gb8001 ≠ gb8002)); have n6_ := Aside0.mk ((by rw [hg]; exact Nat.ne_of_gt (blk_lt (g := gb8001) (o := .cells #[.int .i64 a0_0, .int .i64 a0_1, .int .i64 a0_2, .slice A0_3 l0_3.length c0_3] 24 (0, 0)) (by (with_reducible repeat (first | refine blk_drewN ?_ _ | refine blk_drew ?_ | refine blk_alloc ?_ _)); exact BK8001.out)) : gb8002 ≠ gb8001)); clear BK8001; clear HB; have BK8001 := n0_; have HB := n1_; have BK8002 := n2_; have GW8002 := n3_; have GE8002 := n4_; have NB8001_8002 := n5_; have NB8002_8001 := n6_; clear n0_ n1_ n2_ n3_ n4_ n5_ n6_; clear hb hbox hg; have hnb14 := NB8001_8002.out; have hnc14 := NB8002_8001.out; have hcz15_0 : w13.cell? ⟨gb8001, 0, none⟩ = some (.int .i64 a0_0) := (blk_cell BK8001.out 0).trans rfl; have hcz15_1 : w13.cell? ⟨gb8001, 1, none⟩ = some (.int .i64 a0_1) := (blk_cell BK8001.out 1).trans rfl; have hcz15_2 : w13.cell? ⟨gb8001, 2, none⟩ = some (.int .i64 a0_2) := (blk_cell BK8001.out 2).trans rfl; have hcz15_3 : w13.cell? ⟨gb8001, 3, none⟩ = some (.slice A0_3 l0_3.length c0_3) := (blk_cell BK8001.out 3).trans rfl; have hfz15_0 := blk_frozen BK8001.out 0; have hfz15_1 := blk_frozen BK8001.out 1; have hfz15_2 := blk_frozen BK8001.out 2; have hfz15_3 := blk_frozen BK8001.out 3) | ((with_reducible refine gate_callee (f := 20) rfl ?_); refine goesL_ (some 16) rfl rfl Try.func20 (by kernel_rfl) rfl #[.agg #[.int .i64 a0_0, .int .i64 a0_1, .int .i64 a0_2, .slice A0_3 l0_3.length c0_3], .int .i64 1048576] rfl (by (try simp only [List.map_toArray, List.map_cons, List.map_nil]); first | done | rfl | (simp only [List.length_drop, List.length_take]; rfl)) ?_; (with_reducible refine (laws_szImage.calls a0_0 a0_1 a0_2 _ _ l0_3 1048576 t8003 _ ?side1 ?side2 A3.out).mono ?_); (case side1 => repeat (first | exact (Kd.C_below HR0_3.out HB.out) | (with_reducible refine Kd.C_alloc ?_ _) | (with_reducible refine Kd.C_drewN ?_ _) | (with_reducible refine Kd.C_drew ?_))); (case side2 => exact HC0_3.out); rintro e w16 ⟨rfl, hb⟩; refine ⟨_, rfl, ?_⟩; have n0_ := Aside0.mk (blk_below (g := gb8001) (o := .cells #[.int .i64 a0_0, .int .i64 a0_1, .int .i64 a0_2, .slice A0_3 l0_3.length c0_3] 24 (0, 0)) (by (with_reducible repeat (first | refine blk_drewN ?_ _ | refine blk_drew ?_ | refine blk_alloc ?_ _)); exact BK8001.out) hb); have n1_ := Aside0.mk (blk_below (g := gb8002) (o := .cells #[.int .i64 a1_0, .int .i64 a1_1, .int .i64 a1_2, .slice A1_3 l1_3.length c1_3, .int .i64 a1_4, .int .i64 a1_5, .int .i64 a1_6, .int .i64 a1_7, .bool a1_8] 51 (0, 0)) (by (with_reducible repeat (first | refine blk_drewN ?_ _ | refine blk_drew ?_ | refine blk_alloc ?_ _)); exact BK8002.out) hb); have n2_ := Aside0.mk (below_step (by repeat (first | (with_reducible first | exact HB.out | apply below_alloc | apply pw_below_drewN | apply below_drew1 | refine below_set ?_ GE8001.out | refine below_set ?_ GE8002.out) | exact HB.out)) hb); clear BK8001; clear BK8002; clear HB; have BK8001 := n0_; have BK8002 := n1_; have HB := n2_; clear n0_ n1_ n2_; (try clear hb); (try clear hb2); (try clear hk); (try clear hi); have hcz17_0 : w16.cell? ⟨gb8002, 0, none⟩ = some (.int .i64 a1_0) := (blk_cell BK8002.out 0).trans rfl; have hcz17_1 : w16.cell? ⟨gb8002, 1, none⟩ = some (.int .i64 a1_1) := (blk_cell BK8002.out 1).trans rfl; have hcz17_2 : w16.cell? ⟨gb8002, 2, none⟩ = some (.int .i64 a1_2) := (blk_cell BK8002.out 2).trans rfl; have hcz17_3 : w16.cell? ⟨gb8002, 3, none⟩ = some (.slice A1_3 l1_3.length c1_3) := (blk_cell BK8002.out 3).trans rfl; have hcz17_4 : w16.cell? ⟨gb8002, 4, none⟩ = some (.int .i64 a1_4) := (blk_cell BK8002.out 4).trans rfl; have hcz17_5 : w16.cell? ⟨gb8002, 5, none⟩ = some (.int .i64 a1_5) := (blk_cell BK8002.out 5).trans rfl; have hcz17_6 : w16.cell? ⟨gb8002, 6, none⟩ = some (.int .i64 a1_6) := (blk_cell BK8002.out 6).trans rfl; have hcz17_7 : w16.cell? ⟨gb8002, 7, none⟩ = some (.int .i64 a1_7) := (blk_cell BK8002.out 7).trans rfl; have hcz17_8 : w16.cell? ⟨gb8002, 8, none⟩ = some (.bool a1_8) := (blk_cell BK8002.out 8).trans rfl; have hfz17_0 := blk_frozen BK8002.out 0; have hfz17_1 := blk_frozen BK8002.out 1; have hfz17_2 := blk_frozen BK8002.out 2; have hfz17_3 := blk_frozen BK8002.out 3; have hfz17_4 := blk_frozen BK8002.out 4; have hfz17_5 := blk_frozen BK8002.out 5; have hfz17_6 := blk_frozen BK8002.out 6; have hfz17_7 := blk_frozen BK8002.out 7; have hfz17_8 := blk_frozen BK8002.out 8) | ((with_reducible refine gate_callee (f := 39) rfl ?_); refine goesL_ (some 21) rfl rfl Try.func39 (by kernel_rfl) rfl #[.agg #[.int .i64 a1_0, .int .i64 a1_1, .int .i64 a1_2, .slice A1_3 l1_3.length c1_3, .int .i64 a1_4, .int .i64 a1_5, .int .i64 a1_6, .int .i64 a1_7, .bool a1_8], .int .i64 t8003] rfl (by (try simp only [List.map_toArray, List.map_cons, List.map_nil]); first | done | rfl | (simp only [List.length_drop, List.length_take]; rfl)) ?_; (with_reducible refine (laws_szLayer.calls a1_0 a1_1 a1_2 _ _ l1_3 a1_4 a1_5 a1_6 a1_7 a1_8 t8003 t8004 _ ?side1 ?side2 A10.out).mono ?_); (case side1 => repeat (first | exact (Kd.C_below HR1_3.out HB.out) | (with_reducible refine Kd.C_alloc ?_ _) | (with_reducible refine Kd.C_drewN ?_ _) | (with_reducible refine Kd.C_drew ?_))); (case side2 => exact HC1_3.out); rintro e w18 ⟨rfl, hb⟩; refine ⟨_, rfl, ?_⟩; have n0_ := Aside0.mk (blk_below (g := gb8001) (o := .cells #[.int .i64 a0_0, .int .i64 a0_1, .int .i64 a0_2, .slice A0_3 l0_3.length c0_3] 24 (0, 0)) (by (with_reducible repeat (first | refine blk_drewN ?_ _ | refine blk_drew ?_ | refine blk_alloc ?_ _)); exact BK8001.out) hb); have n1_ := Aside0.mk (blk_below (g := gb8002) (o := .cells #[.int .i64 a1_0, .int .i64 a1_1, .int .i64 a1_2, .slice A1_3 l1_3.length c1_3, .int .i64 a1_4, .int .i64 a1_5, .int .i64 a1_6, .int .i64 a1_7, .bool a1_8] 51 (0, 0)) (by (with_reducible repeat (first | refine blk_drewN ?_ _ | refine blk_drew ?_ | refine blk_alloc ?_ _)); exact BK8002.out) hb); have n2_ := Aside0.mk (below_step (by repeat (first | (with_reducible first | exact HB.out | apply below_alloc | apply pw_below_drewN | apply below_drew1 | refine below_set ?_ GE8001.out | refine below_set ?_ GE8002.out) | exact HB.out)) hb); clear BK8001; clear BK8002; clear HB; have BK8001 := n0_; have BK8002 := n1_; have HB := n2_; clear n0_ n1_ n2_; (try clear hb); (try clear hb2); (try clear hk); (try clear hi)))
      go_ret
      exact ⟨by first | rfl | (simp [errW_none, errW_some] <;> rfl) | (simp [*, errW_none, errW_some] <;> rfl), by repeat (first | (with_reducible first | exact HB.out | apply below_alloc | apply pw_below_drewN | apply below_drew1 | refine below_set ?_ GE8001.out | refine below_set ?_ GE8002.out) | exact HB.out)⟩
    · rw [if_neg c11] at H
      have c11b0 : decide (t8004 < 0) = false := decide_eq_false c11
      clear c11
      replace H := Option.bind_eq_some_iff.mp H
      obtain ⟨⟨t8005, t8006, t8007, t8008⟩, A190, H⟩ := H
      replace H : ((laws_toLayer.f k a1_0 a1_1 a1_2 l1_3 a1_4 a1_5 a1_6 a1_7 a1_8).bind fun bt8011 => ((spec_DirtyTiles.f k t8005 t8006 t8007 t8008 bt8011.1 bt8011.2.1 bt8011.2.2.1 bt8011.2.2.2.1 bt8011.2.2.2.2.1 bt8011.2.2.2.2.2.1 bt8011.2.2.2.2.2.2.1 bt8011.2.2.2.2.2.2.2.1 bt8011.2.2.2.2.2.2.2.2).bind fun t8022 => ((laws_toImage.f k a0_0 a0_1 a0_2 l0_3).bind fun bt8025 => ((laws_toLayer.f k a1_0 a1_1 a1_2 l1_3 a1_4 a1_5 a1_6 a1_7 a1_8).bind fun bt8032 => ((impl_DirtyTiles.f k bt8025.1 bt8025.2.1 bt8025.2.2.1 bt8025.2.2.2 bt8032.1 bt8032.2.1 bt8032.2.2.1 bt8032.2.2.2.1 bt8032.2.2.2.2.1 bt8032.2.2.2.2.2.1 bt8032.2.2.2.2.2.2.1 bt8032.2.2.2.2.2.2.2.1 bt8032.2.2.2.2.2.2.2.2).bind fun t8044 => ((laws_eqIntS.f k t8044 t8022).bind fun t8047 => (if t8047 = true then ((laws_toImage.f k a0_0 a0_1 a0_2 l0_3).bind fun bt8048 => ((laws_eqImage.f k bt8025.1 bt8025.2.1 bt8025.2.2.1 bt8025.2.2.2 bt8048.1 bt8048.2.1 bt8048.2.2.1 bt8048.2.2.2).bind fun t8054 => (if t8054 = true then ((laws_toLayer.f k a1_0 a1_1 a1_2 l1_3 a1_4 a1_5 a1_6 a1_7 a1_8).bind fun bt8055 => ((laws_eqLayer.f k bt8032.1 bt8032.2.1 bt8032.2.2.1 bt8032.2.2.2.1 bt8032.2.2.2.2.1 bt8032.2.2.2.2.2.1 bt8032.2.2.2.2.2.2.1 bt8032.2.2.2.2.2.2.2.1 bt8032.2.2.2.2.2.2.2.2 bt8055.1 bt8055.2.1 bt8055.2.2.1 bt8055.2.2.2.1 bt8055.2.2.2.2.1 bt8055.2.2.2.2.2.1 bt8055.2.2.2.2.2.2.1 bt8055.2.2.2.2.2.2.2.1 bt8055.2.2.2.2.2.2.2.2).bind fun t8066 => (if t8066 = true then ((laws_markImage.f k bt8025.1 bt8025.2.1 bt8025.2.2.1 bt8025.2.2.2 1).bind fun bt8067 => ((laws_markLayer.f k bt8032.1 bt8032.2.1 bt8032.2.2.1 bt8032.2.2.2.1 bt8032.2.2.2.2.1 bt8032.2.2.2.2.2.1 bt8032.2.2.2.2.2.2.1 bt8032.2.2.2.2.2.2.2.1 bt8032.2.2.2.2.2.2.2.2 bt8067.1).bind fun bt8069 => (if bt8069.1 < 0 then (laws_FnExactDirtyTiles.j0 k t8022 t8044 true a0_0 a0_1 a0_2 l0_3 a1_0 a1_1 a1_2 l1_3 a1_4 a1_5 a1_6 a1_7 a1_8) else ((laws_eqIntS.f k t8044 t8022).bind fun t8071 => (laws_FnExactDirtyTiles.j0 k t8022 t8044 (!t8071) a0_0 a0_1 a0_2 l0_3 a1_0 a1_1 a1_2 l1_3 a1_4 a1_5 a1_6 a1_7 a1_8))))) else (some false)))) else (some false)))) else (some false)))))))) = some r := H
      have A19 := Aside0.mk A190
      clear A190
      replace H := Option.bind_eq_some_iff.mp H
      obtain ⟨⟨t8011, t8012, t8013, t8014, t8017, t8018, t8019, t8020, t8021⟩, A200, H⟩ := H
      replace H : ((spec_DirtyTiles.f k t8005 t8006 t8007 t8008 t8011 t8012 t8013 t8014 t8017 t8018 t8019 t8020 t8021).bind fun t8022 => ((laws_toImage.f k a0_0 a0_1 a0_2 l0_3).bind fun bt8025 => ((laws_toLayer.f k a1_0 a1_1 a1_2 l1_3 a1_4 a1_5 a1_6 a1_7 a1_8).bind fun bt8032 => ((impl_DirtyTiles.f k bt8025.1 bt8025.2.1 bt8025.2.2.1 bt8025.2.2.2 bt8032.1 bt8032.2.1 bt8032.2.2.1 bt8032.2.2.2.1 bt8032.2.2.2.2.1 bt8032.2.2.2.2.2.1 bt8032.2.2.2.2.2.2.1 bt8032.2.2.2.2.2.2.2.1 bt8032.2.2.2.2.2.2.2.2).bind fun t8044 => ((laws_eqIntS.f k t8044 t8022).bind fun t8047 => (if t8047 = true then ((laws_toImage.f k a0_0 a0_1 a0_2 l0_3).bind fun bt8048 => ((laws_eqImage.f k bt8025.1 bt8025.2.1 bt8025.2.2.1 bt8025.2.2.2 bt8048.1 bt8048.2.1 bt8048.2.2.1 bt8048.2.2.2).bind fun t8054 => (if t8054 = true then ((laws_toLayer.f k a1_0 a1_1 a1_2 l1_3 a1_4 a1_5 a1_6 a1_7 a1_8).bind fun bt8055 => ((laws_eqLayer.f k bt8032.1 bt8032.2.1 bt8032.2.2.1 bt8032.2.2.2.1 bt8032.2.2.2.2.1 bt8032.2.2.2.2.2.1 bt8032.2.2.2.2.2.2.1 bt8032.2.2.2.2.2.2.2.1 bt8032.2.2.2.2.2.2.2.2 bt8055.1 bt8055.2.1 bt8055.2.2.1 bt8055.2.2.2.1 bt8055.2.2.2.2.1 bt8055.2.2.2.2.2.1 bt8055.2.2.2.2.2.2.1 bt8055.2.2.2.2.2.2.2.1 bt8055.2.2.2.2.2.2.2.2).bind fun t8066 => (if t8066 = true then ((laws_markImage.f k bt8025.1 bt8025.2.1 bt8025.2.2.1 bt8025.2.2.2 1).bind fun bt8067 => ((laws_markLayer.f k bt8032.1 bt8032.2.1 bt8032.2.2.1 bt8032.2.2.2.1 bt8032.2.2.2.2.1 bt8032.2.2.2.2.2.1 bt8032.2.2.2.2.2.2.1 bt8032.2.2.2.2.2.2.2.1 bt8032.2.2.2.2.2.2.2.2 bt8067.1).bind fun bt8069 => (if bt8069.1 < 0 then (laws_FnExactDirtyTiles.j0 k t8022 t8044 true a0_0 a0_1 a0_2 l0_3 a1_0 a1_1 a1_2 l1_3 a1_4 a1_5 a1_6 a1_7 a1_8) else ((laws_eqIntS.f k t8044 t8022).bind fun t8071 => (laws_FnExactDirtyTiles.j0 k t8022 t8044 (!t8071) a0_0 a0_1 a0_2 l0_3 a1_0 a1_1 a1_2 l1_3 a1_4 a1_5 a1_6 a1_7 a1_8))))) else (some false)))) else (some false)))) else (some false))))))) = some r := H
      have A20 := Aside0.mk A200
      clear A200
      replace H := Option.bind_eq_some_iff.mp H
      obtain ⟨t8022, A210, H⟩ := H
      replace H : ((laws_toImage.f k a0_0 a0_1 a0_2 l0_3).bind fun bt8025 => ((laws_toLayer.f k a1_0 a1_1 a1_2 l1_3 a1_4 a1_5 a1_6 a1_7 a1_8).bind fun bt8032 => ((impl_DirtyTiles.f k bt8025.1 bt8025.2.1 bt8025.2.2.1 bt8025.2.2.2 bt8032.1 bt8032.2.1 bt8032.2.2.1 bt8032.2.2.2.1 bt8032.2.2.2.2.1 bt8032.2.2.2.2.2.1 bt8032.2.2.2.2.2.2.1 bt8032.2.2.2.2.2.2.2.1 bt8032.2.2.2.2.2.2.2.2).bind fun t8044 => ((laws_eqIntS.f k t8044 t8022).bind fun t8047 => (if t8047 = true then ((laws_toImage.f k a0_0 a0_1 a0_2 l0_3).bind fun bt8048 => ((laws_eqImage.f k bt8025.1 bt8025.2.1 bt8025.2.2.1 bt8025.2.2.2 bt8048.1 bt8048.2.1 bt8048.2.2.1 bt8048.2.2.2).bind fun t8054 => (if t8054 = true then ((laws_toLayer.f k a1_0 a1_1 a1_2 l1_3 a1_4 a1_5 a1_6 a1_7 a1_8).bind fun bt8055 => ((laws_eqLayer.f k bt8032.1 bt8032.2.1 bt8032.2.2.1 bt8032.2.2.2.1 bt8032.2.2.2.2.1 bt8032.2.2.2.2.2.1 bt8032.2.2.2.2.2.2.1 bt8032.2.2.2.2.2.2.2.1 bt8032.2.2.2.2.2.2.2.2 bt8055.1 bt8055.2.1 bt8055.2.2.1 bt8055.2.2.2.1 bt8055.2.2.2.2.1 bt8055.2.2.2.2.2.1 bt8055.2.2.2.2.2.2.1 bt8055.2.2.2.2.2.2.2.1 bt8055.2.2.2.2.2.2.2.2).bind fun t8066 => (if t8066 = true then ((laws_markImage.f k bt8025.1 bt8025.2.1 bt8025.2.2.1 bt8025.2.2.2 1).bind fun bt8067 => ((laws_markLayer.f k bt8032.1 bt8032.2.1 bt8032.2.2.1 bt8032.2.2.2.1 bt8032.2.2.2.2.1 bt8032.2.2.2.2.2.1 bt8032.2.2.2.2.2.2.1 bt8032.2.2.2.2.2.2.2.1 bt8032.2.2.2.2.2.2.2.2 bt8067.1).bind fun bt8069 => (if bt8069.1 < 0 then (laws_FnExactDirtyTiles.j0 k t8022 t8044 true a0_0 a0_1 a0_2 l0_3 a1_0 a1_1 a1_2 l1_3 a1_4 a1_5 a1_6 a1_7 a1_8) else ((laws_eqIntS.f k t8044 t8022).bind fun t8071 => (laws_FnExactDirtyTiles.j0 k t8022 t8044 (!t8071) a0_0 a0_1 a0_2 l0_3 a1_0 a1_1 a1_2 l1_3 a1_4 a1_5 a1_6 a1_7 a1_8))))) else (some false)))) else (some false)))) else (some false)))))) = some r := H
      have A21 := Aside0.mk A210
      clear A210
      replace H := Option.bind_eq_some_iff.mp H
      obtain ⟨⟨t8025, t8026, t8027, t8028⟩, A220, H⟩ := H
      replace H : ((laws_toLayer.f k a1_0 a1_1 a1_2 l1_3 a1_4 a1_5 a1_6 a1_7 a1_8).bind fun bt8032 => ((impl_DirtyTiles.f k t8025 t8026 t8027 t8028 bt8032.1 bt8032.2.1 bt8032.2.2.1 bt8032.2.2.2.1 bt8032.2.2.2.2.1 bt8032.2.2.2.2.2.1 bt8032.2.2.2.2.2.2.1 bt8032.2.2.2.2.2.2.2.1 bt8032.2.2.2.2.2.2.2.2).bind fun t8044 => ((laws_eqIntS.f k t8044 t8022).bind fun t8047 => (if t8047 = true then ((laws_toImage.f k a0_0 a0_1 a0_2 l0_3).bind fun bt8048 => ((laws_eqImage.f k t8025 t8026 t8027 t8028 bt8048.1 bt8048.2.1 bt8048.2.2.1 bt8048.2.2.2).bind fun t8054 => (if t8054 = true then ((laws_toLayer.f k a1_0 a1_1 a1_2 l1_3 a1_4 a1_5 a1_6 a1_7 a1_8).bind fun bt8055 => ((laws_eqLayer.f k bt8032.1 bt8032.2.1 bt8032.2.2.1 bt8032.2.2.2.1 bt8032.2.2.2.2.1 bt8032.2.2.2.2.2.1 bt8032.2.2.2.2.2.2.1 bt8032.2.2.2.2.2.2.2.1 bt8032.2.2.2.2.2.2.2.2 bt8055.1 bt8055.2.1 bt8055.2.2.1 bt8055.2.2.2.1 bt8055.2.2.2.2.1 bt8055.2.2.2.2.2.1 bt8055.2.2.2.2.2.2.1 bt8055.2.2.2.2.2.2.2.1 bt8055.2.2.2.2.2.2.2.2).bind fun t8066 => (if t8066 = true then ((laws_markImage.f k t8025 t8026 t8027 t8028 1).bind fun bt8067 => ((laws_markLayer.f k bt8032.1 bt8032.2.1 bt8032.2.2.1 bt8032.2.2.2.1 bt8032.2.2.2.2.1 bt8032.2.2.2.2.2.1 bt8032.2.2.2.2.2.2.1 bt8032.2.2.2.2.2.2.2.1 bt8032.2.2.2.2.2.2.2.2 bt8067.1).bind fun bt8069 => (if bt8069.1 < 0 then (laws_FnExactDirtyTiles.j0 k t8022 t8044 true a0_0 a0_1 a0_2 l0_3 a1_0 a1_1 a1_2 l1_3 a1_4 a1_5 a1_6 a1_7 a1_8) else ((laws_eqIntS.f k t8044 t8022).bind fun t8071 => (laws_FnExactDirtyTiles.j0 k t8022 t8044 (!t8071) a0_0 a0_1 a0_2 l0_3 a1_0 a1_1 a1_2 l1_3 a1_4 a1_5 a1_6 a1_7 a1_8))))) else (some false)))) else (some false)))) else (some false))))) = some r := H
      have A22 := Aside0.mk A220
      clear A220
      replace H := Option.bind_eq_some_iff.mp H
      obtain ⟨⟨t8032, t8033, t8034, t8035, t8038, t8039, t8040, t8041, t8042⟩, A230, H⟩ := H
      replace H : ((impl_DirtyTiles.f k t8025 t8026 t8027 t8028 t8032 t8033 t8034 t8035 t8038 t8039 t8040 t8041 t8042).bind fun t8044 => ((laws_eqIntS.f k t8044 t8022).bind fun t8047 => (if t8047 = true then ((laws_toImage.f k a0_0 a0_1 a0_2 l0_3).bind fun bt8048 => ((laws_eqImage.f k t8025 t8026 t8027 t8028 bt8048.1 bt8048.2.1 bt8048.2.2.1 bt8048.2.2.2).bind fun t8054 => (if t8054 = true then ((laws_toLayer.f k a1_0 a1_1 a1_2 l1_3 a1_4 a1_5 a1_6 a1_7 a1_8).bind fun bt8055 => ((laws_eqLayer.f k t8032 t8033 t8034 t8035 t8038 t8039 t8040 t8041 t8042 bt8055.1 bt8055.2.1 bt8055.2.2.1 bt8055.2.2.2.1 bt8055.2.2.2.2.1 bt8055.2.2.2.2.2.1 bt8055.2.2.2.2.2.2.1 bt8055.2.2.2.2.2.2.2.1 bt8055.2.2.2.2.2.2.2.2).bind fun t8066 => (if t8066 = true then ((laws_markImage.f k t8025 t8026 t8027 t8028 1).bind fun bt8067 => ((laws_markLayer.f k t8032 t8033 t8034 t8035 t8038 t8039 t8040 t8041 t8042 bt8067.1).bind fun bt8069 => (if bt8069.1 < 0 then (laws_FnExactDirtyTiles.j0 k t8022 t8044 true a0_0 a0_1 a0_2 l0_3 a1_0 a1_1 a1_2 l1_3 a1_4 a1_5 a1_6 a1_7 a1_8) else ((laws_eqIntS.f k t8044 t8022).bind fun t8071 => (laws_FnExactDirtyTiles.j0 k t8022 t8044 (!t8071) a0_0 a0_1 a0_2 l0_3 a1_0 a1_1 a1_2 l1_3 a1_4 a1_5 a1_6 a1_7 a1_8))))) else (some false)))) else (some false)))) else (some false)))) = some r := H
      have A23 := Aside0.mk A230
      clear A230
      replace H := Option.bind_eq_some_iff.mp H
      obtain ⟨t8044, A240, H⟩ := H
      replace H : ((laws_eqIntS.f k t8044 t8022).bind fun t8047 => (if t8047 = true then ((laws_toImage.f k a0_0 a0_1 a0_2 l0_3).bind fun bt8048 => ((laws_eqImage.f k t8025 t8026 t8027 t8028 bt8048.1 bt8048.2.1 bt8048.2.2.1 bt8048.2.2.2).bind fun t8054 => (if t8054 = true then ((laws_toLayer.f k a1_0 a1_1 a1_2 l1_3 a1_4 a1_5 a1_6 a1_7 a1_8).bind fun bt8055 => ((laws_eqLayer.f k t8032 t8033 t8034 t8035 t8038 t8039 t8040 t8041 t8042 bt8055.1 bt8055.2.1 bt8055.2.2.1 bt8055.2.2.2.1 bt8055.2.2.2.2.1 bt8055.2.2.2.2.2.1 bt8055.2.2.2.2.2.2.1 bt8055.2.2.2.2.2.2.2.1 bt8055.2.2.2.2.2.2.2.2).bind fun t8066 => (if t8066 = true then ((laws_markImage.f k t8025 t8026 t8027 t8028 1).bind fun bt8067 => ((laws_markLayer.f k t8032 t8033 t8034 t8035 t8038 t8039 t8040 t8041 t8042 bt8067.1).bind fun bt8069 => (if bt8069.1 < 0 then (laws_FnExactDirtyTiles.j0 k t8022 t8044 true a0_0 a0_1 a0_2 l0_3 a1_0 a1_1 a1_2 l1_3 a1_4 a1_5 a1_6 a1_7 a1_8) else ((laws_eqIntS.f k t8044 t8022).bind fun t8071 => (laws_FnExactDirtyTiles.j0 k t8022 t8044 (!t8071) a0_0 a0_1 a0_2 l0_3 a1_0 a1_1 a1_2 l1_3 a1_4 a1_5 a1_6 a1_7 a1_8))))) else (some false)))) else (some false)))) else (some false))) = some r := H
      have A24 := Aside0.mk A240
      clear A240
      replace H := Option.bind_eq_some_iff.mp H
      obtain ⟨t8047, A250, H⟩ := H
      replace H : (if t8047 = true then ((laws_toImage.f k a0_0 a0_1 a0_2 l0_3).bind fun bt8048 => ((laws_eqImage.f k t8025 t8026 t8027 t8028 bt8048.1 bt8048.2.1 bt8048.2.2.1 bt8048.2.2.2).bind fun t8054 => (if t8054 = true then ((laws_toLayer.f k a1_0 a1_1 a1_2 l1_3 a1_4 a1_5 a1_6 a1_7 a1_8).bind fun bt8055 => ((laws_eqLayer.f k t8032 t8033 t8034 t8035 t8038 t8039 t8040 t8041 t8042 bt8055.1 bt8055.2.1 bt8055.2.2.1 bt8055.2.2.2.1 bt8055.2.2.2.2.1 bt8055.2.2.2.2.2.1 bt8055.2.2.2.2.2.2.1 bt8055.2.2.2.2.2.2.2.1 bt8055.2.2.2.2.2.2.2.2).bind fun t8066 => (if t8066 = true then ((laws_markImage.f k t8025 t8026 t8027 t8028 1).bind fun bt8067 => ((laws_markLayer.f k t8032 t8033 t8034 t8035 t8038 t8039 t8040 t8041 t8042 bt8067.1).bind fun bt8069 => (if bt8069.1 < 0 then (laws_FnExactDirtyTiles.j0 k t8022 t8044 true a0_0 a0_1 a0_2 l0_3 a1_0 a1_1 a1_2 l1_3 a1_4 a1_5 a1_6 a1_7 a1_8) else ((laws_eqIntS.f k t8044 t8022).bind fun t8071 => (laws_FnExactDirtyTiles.j0 k t8022 t8044 (!t8071) a0_0 a0_1 a0_2 l0_3 a1_0 a1_1 a1_2 l1_3 a1_4 a1_5 a1_6 a1_7 a1_8))))) else (some false)))) else (some false)))) else (some false)) = some r := H
      have A25 := Aside0.mk A250
      clear A250
      by_cases c26 : t8047 = true
      · subst c26
        have H1 : ((laws_toImage.f k a0_0 a0_1 a0_2 l0_3).bind fun bt8048 => ((laws_eqImage.f k t8025 t8026 t8027 t8028 bt8048.1 bt8048.2.1 bt8048.2.2.1 bt8048.2.2.2).bind fun t8054 => (if t8054 = true then ((laws_toLayer.f k a1_0 a1_1 a1_2 l1_3 a1_4 a1_5 a1_6 a1_7 a1_8).bind fun bt8055 => ((laws_eqLayer.f k t8032 t8033 t8034 t8035 t8038 t8039 t8040 t8041 t8042 bt8055.1 bt8055.2.1 bt8055.2.2.1 bt8055.2.2.2.1 bt8055.2.2.2.2.1 bt8055.2.2.2.2.2.1 bt8055.2.2.2.2.2.2.1 bt8055.2.2.2.2.2.2.2.1 bt8055.2.2.2.2.2.2.2.2).bind fun t8066 => (if t8066 = true then ((laws_markImage.f k t8025 t8026 t8027 t8028 1).bind fun bt8067 => ((laws_markLayer.f k t8032 t8033 t8034 t8035 t8038 t8039 t8040 t8041 t8042 bt8067.1).bind fun bt8069 => (if bt8069.1 < 0 then (laws_FnExactDirtyTiles.j0 k t8022 t8044 true a0_0 a0_1 a0_2 l0_3 a1_0 a1_1 a1_2 l1_3 a1_4 a1_5 a1_6 a1_7 a1_8) else ((laws_eqIntS.f k t8044 t8022).bind fun t8071 => (laws_FnExactDirtyTiles.j0 k t8022 t8044 (!t8071) a0_0 a0_1 a0_2 l0_3 a1_0 a1_1 a1_2 l1_3 a1_4 a1_5 a1_6 a1_7 a1_8))))) else (some false)))) else (some false)))) = some r := by rw [if_pos rfl] at H; exact H
        clear H
        have H := H1
        clear H1
        replace H := Option.bind_eq_some_iff.mp H
        obtain ⟨⟨t8048, t8049, t8050, t8051⟩, A270, H⟩ := H
        replace H : ((laws_eqImage.f k t8025 t8026 t8027 t8028 t8048 t8049 t8050 t8051).bind fun t8054 => (if t8054 = true then ((laws_toLayer.f k a1_0 a1_1 a1_2 l1_3 a1_4 a1_5 a1_6 a1_7 a1_8).bind fun bt8055 => ((laws_eqLayer.f k t8032 t8033 t8034 t8035 t8038 t8039 t8040 t8041 t8042 bt8055.1 bt8055.2.1 bt8055.2.2.1 bt8055.2.2.2.1 bt8055.2.2.2.2.1 bt8055.2.2.2.2.2.1 bt8055.2.2.2.2.2.2.1 bt8055.2.2.2.2.2.2.2.1 bt8055.2.2.2.2.2.2.2.2).bind fun t8066 => (if t8066 = true then ((laws_markImage.f k t8025 t8026 t8027 t8028 1).bind fun bt8067 => ((laws_markLayer.f k t8032 t8033 t8034 t8035 t8038 t8039 t8040 t8041 t8042 bt8067.1).bind fun bt8069 => (if bt8069.1 < 0 then (laws_FnExactDirtyTiles.j0 k t8022 t8044 true a0_0 a0_1 a0_2 l0_3 a1_0 a1_1 a1_2 l1_3 a1_4 a1_5 a1_6 a1_7 a1_8) else ((laws_eqIntS.f k t8044 t8022).bind fun t8071 => (laws_FnExactDirtyTiles.j0 k t8022 t8044 (!t8071) a0_0 a0_1 a0_2 l0_3 a1_0 a1_1 a1_2 l1_3 a1_4 a1_5 a1_6 a1_7 a1_8))))) else (some false)))) else (some false))) = some r := H
        have A27 := Aside0.mk A270
        clear A270
        replace H := Option.bind_eq_some_iff.mp H
        obtain ⟨t8054, A280, H⟩ := H
        replace H : (if t8054 = true then ((laws_toLayer.f k a1_0 a1_1 a1_2 l1_3 a1_4 a1_5 a1_6 a1_7 a1_8).bind fun bt8055 => ((laws_eqLayer.f k t8032 t8033 t8034 t8035 t8038 t8039 t8040 t8041 t8042 bt8055.1 bt8055.2.1 bt8055.2.2.1 bt8055.2.2.2.1 bt8055.2.2.2.2.1 bt8055.2.2.2.2.2.1 bt8055.2.2.2.2.2.2.1 bt8055.2.2.2.2.2.2.2.1 bt8055.2.2.2.2.2.2.2.2).bind fun t8066 => (if t8066 = true then ((laws_markImage.f k t8025 t8026 t8027 t8028 1).bind fun bt8067 => ((laws_markLayer.f k t8032 t8033 t8034 t8035 t8038 t8039 t8040 t8041 t8042 bt8067.1).bind fun bt8069 => (if bt8069.1 < 0 then (laws_FnExactDirtyTiles.j0 k t8022 t8044 true a0_0 a0_1 a0_2 l0_3 a1_0 a1_1 a1_2 l1_3 a1_4 a1_5 a1_6 a1_7 a1_8) else ((laws_eqIntS.f k t8044 t8022).bind fun t8071 => (laws_FnExactDirtyTiles.j0 k t8022 t8044 (!t8071) a0_0 a0_1 a0_2 l0_3 a1_0 a1_1 a1_2 l1_3 a1_4 a1_5 a1_6 a1_7 a1_8))))) else (some false)))) else (some false)) = some r := H
        have A28 := Aside0.mk A280
        clear A280
        by_cases c29 : t8054 = true
        · subst c29
          have H1 : ((laws_toLayer.f k a1_0 a1_1 a1_2 l1_3 a1_4 a1_5 a1_6 a1_7 a1_8).bind fun bt8055 => ((laws_eqLayer.f k t8032 t8033 t8034 t8035 t8038 t8039 t8040 t8041 t8042 bt8055.1 bt8055.2.1 bt8055.2.2.1 bt8055.2.2.2.1 bt8055.2.2.2.2.1 bt8055.2.2.2.2.2.1 bt8055.2.2.2.2.2.2.1 bt8055.2.2.2.2.2.2.2.1 bt8055.2.2.2.2.2.2.2.2).bind fun t8066 => (if t8066 = true then ((laws_markImage.f k t8025 t8026 t8027 t8028 1).bind fun bt8067 => ((laws_markLayer.f k t8032 t8033 t8034 t8035 t8038 t8039 t8040 t8041 t8042 bt8067.1).bind fun bt8069 => (if bt8069.1 < 0 then (laws_FnExactDirtyTiles.j0 k t8022 t8044 true a0_0 a0_1 a0_2 l0_3 a1_0 a1_1 a1_2 l1_3 a1_4 a1_5 a1_6 a1_7 a1_8) else ((laws_eqIntS.f k t8044 t8022).bind fun t8071 => (laws_FnExactDirtyTiles.j0 k t8022 t8044 (!t8071) a0_0 a0_1 a0_2 l0_3 a1_0 a1_1 a1_2 l1_3 a1_4 a1_5 a1_6 a1_7 a1_8))))) else (some false)))) = some r := by rw [if_pos rfl] at H; exact H
          clear H
          have H := H1
          clear H1
          replace H := Option.bind_eq_some_iff.mp H
          obtain ⟨⟨t8055, t8056, t8057, t8058, t8061, t8062, t8063, t8064, t8065⟩, A300, H⟩ := H
          replace H : ((laws_eqLayer.f k t8032 t8033 t8034 t8035 t8038 t8039 t8040 t8041 t8042 t8055 t8056 t8057 t8058 t8061 t8062 t8063 t8064 t8065).bind fun t8066 => (if t8066 = true then ((laws_markImage.f k t8025 t8026 t8027 t8028 1).bind fun bt8067 => ((laws_markLayer.f k t8032 t8033 t8034 t8035 t8038 t8039 t8040 t8041 t8042 bt8067.1).bind fun bt8069 => (if bt8069.1 < 0 then (laws_FnExactDirtyTiles.j0 k t8022 t8044 true a0_0 a0_1 a0_2 l0_3 a1_0 a1_1 a1_2 l1_3 a1_4 a1_5 a1_6 a1_7 a1_8) else ((laws_eqIntS.f k t8044 t8022).bind fun t8071 => (laws_FnExactDirtyTiles.j0 k t8022 t8044 (!t8071) a0_0 a0_1 a0_2 l0_3 a1_0 a1_1 a1_2 l1_3 a1_4 a1_5 a1_6 a1_7 a1_8))))) else (some false))) = some r := H
          have A30 := Aside0.mk A300
          clear A300
          replace H := Option.bind_eq_some_iff.mp H
          obtain ⟨t8066, A310, H⟩ := H
          replace H : (if t8066 = true then ((laws_markImage.f k t8025 t8026 t8027 t8028 1).bind fun bt8067 => ((laws_markLayer.f k t8032 t8033 t8034 t8035 t8038 t8039 t8040 t8041 t8042 bt8067.1).bind fun bt8069 => (if bt8069.1 < 0 then (laws_FnExactDirtyTiles.j0 k t8022 t8044 true a0_0 a0_1 a0_2 l0_3 a1_0 a1_1 a1_2 l1_3 a1_4 a1_5 a1_6 a1_7 a1_8) else ((laws_eqIntS.f k t8044 t8022).bind fun t8071 => (laws_FnExactDirtyTiles.j0 k t8022 t8044 (!t8071) a0_0 a0_1 a0_2 l0_3 a1_0 a1_1 a1_2 l1_3 a1_4 a1_5 a1_6 a1_7 a1_8))))) else (some false)) = some r := H
          have A31 := Aside0.mk A310
          clear A310
          by_cases c32 : t8066 = true
          · subst c32
            have H1 : ((laws_markImage.f k t8025 t8026 t8027 t8028 1).bind fun bt8067 => ((laws_markLayer.f k t8032 t8033 t8034 t8035 t8038 t8039 t8040 t8041 t8042 bt8067.1).bind fun bt8069 => (if bt8069.1 < 0 then (laws_FnExactDirtyTiles.j0 k t8022 t8044 true a0_0 a0_1 a0_2 l0_3 a1_0 a1_1 a1_2 l1_3 a1_4 a1_5 a1_6 a1_7 a1_8) else ((laws_eqIntS.f k t8044 t8022).bind fun t8071 => (laws_FnExactDirtyTiles.j0 k t8022 t8044 (!t8071) a0_0 a0_1 a0_2 l0_3 a1_0 a1_1 a1_2 l1_3 a1_4 a1_5 a1_6 a1_7 a1_8))))) = some r := by rw [if_pos rfl] at H; exact H
            clear H
            have H := H1
            clear H1
            replace H := Option.bind_eq_some_iff.mp H
            obtain ⟨⟨t8067, t8068⟩, A330, H⟩ := H
            replace H : ((laws_markLayer.f k t8032 t8033 t8034 t8035 t8038 t8039 t8040 t8041 t8042 t8067).bind fun bt8069 => (if bt8069.1 < 0 then (laws_FnExactDirtyTiles.j0 k t8022 t8044 true a0_0 a0_1 a0_2 l0_3 a1_0 a1_1 a1_2 l1_3 a1_4 a1_5 a1_6 a1_7 a1_8) else ((laws_eqIntS.f k t8044 t8022).bind fun t8071 => (laws_FnExactDirtyTiles.j0 k t8022 t8044 (!t8071) a0_0 a0_1 a0_2 l0_3 a1_0 a1_1 a1_2 l1_3 a1_4 a1_5 a1_6 a1_7 a1_8)))) = some r := H
            have A33 := Aside0.mk A330
            clear A330
            replace H := Option.bind_eq_some_iff.mp H
            obtain ⟨⟨t8069, t8070⟩, A340, H⟩ := H
            replace H : (if t8069 < 0 then (laws_FnExactDirtyTiles.j0 k t8022 t8044 true a0_0 a0_1 a0_2 l0_3 a1_0 a1_1 a1_2 l1_3 a1_4 a1_5 a1_6 a1_7 a1_8) else ((laws_eqIntS.f k t8044 t8022).bind fun t8071 => (laws_FnExactDirtyTiles.j0 k t8022 t8044 (!t8071) a0_0 a0_1 a0_2 l0_3 a1_0 a1_1 a1_2 l1_3 a1_4 a1_5 a1_6 a1_7 a1_8))) = some r := H
            have A34 := Aside0.mk A340
            clear A340
            have HC35 := Aside0.mk H
            clear H
            go_enter Try.func7, Try.ntmps7
            try go_wp2_with (first | ((with_reducible refine gate_dst (N := 2) rfl ?_); refine box_event ?hg (N := 2) ?hd (cs := #[.int .i64 a0_0, .int .i64 a0_1, .int .i64 a0_2, .slice A0_3 l0_3.length c0_3]) (t := 24) ?hr ?_; (case hd => rfl); (case hg => rfl); (case hr => first | (go_simp; done) | (go_simp; rfl)); intro gb8001 hg w36 hbox hb; have n0_ := Aside0.mk (below_step (by repeat (first | (with_reducible first | exact HB.out | apply below_alloc | apply pw_below_drewN | apply below_drew1) | exact HB.out)) hb); have n1_ := Aside0.mk (hbox); have n2_ := Aside0.mk ((by rw [hg]; exact (below_size (by repeat (first | (with_reducible first | exact HB.out | apply below_alloc | apply pw_below_drewN | apply below_drew1) | exact HB.out))) : w.heap.size ≤ gb8001)); have n3_ := Aside0.mk ((by rw [hg]; exact (below_size (by repeat (first | (with_reducible first | exact HB.out | apply below_alloc | apply pw_below_drewN | apply below_drew1) | exact HB.out))) : w.heap.size ≤ gb8001)); clear HB; have HB := n0_; have BK8001 := n1_; have GW8001 := n2_; have GE8001 := n3_; clear n0_ n1_ n2_ n3_; clear hb hbox hg) | ((with_reducible refine gate_dst (N := 3) rfl ?_); refine box_event ?hg (N := 3) ?hd (cs := #[.int .i64 a1_0, .int .i64 a1_1, .int .i64 a1_2, .slice A1_3 l1_3.length c1_3, .int .i64 a1_4, .int .i64 a1_5, .int .i64 a1_6, .int .i64 a1_7, .bool a1_8]) (t := 51) ?hr ?_; (case hd => rfl); (case hg => rfl); (case hr => first | (go_simp; done) | (go_simp; rfl)); intro gb8002 hg w37 hbox hb; have n0_ := Aside0.mk (blk_below (g := gb8001) (o := .cells #[.int .i64 a0_0, .int .i64 a0_1, .int .i64 a0_2, .slice A0_3 l0_3.length c0_3] 24 (0, 0)) (by (with_reducible repeat (first | refine blk_drewN ?_ _ | refine blk_drew ?_ | refine blk_alloc ?_ _)); exact BK8001.out) hb); have n1_ := Aside0.mk (below_step (by repeat (first | (with_reducible first | exact HB.out | apply below_alloc | apply pw_below_drewN | apply below_drew1 | refine below_set ?_ GE8001.out) | exact HB.out)) hb); have n2_ := Aside0.mk (hbox); have n3_ := Aside0.mk ((by rw [hg]; exact (below_size (by repeat (first | (with_reducible first | exact HB.out | apply below_alloc | apply pw_below_drewN | apply below_drew1 | refine below_set ?_ GE8001.out) | exact HB.out))) : w.heap.size ≤ gb8002)); have n4_ := Aside0.mk ((by rw [hg]; exact (below_size (by repeat (first | (with_reducible first | exact HB.out | apply below_alloc | apply pw_below_drewN | apply below_drew1 | refine below_set ?_ GE8001.out) | exact HB.out))) : w.heap.size ≤ gb8002)); have n5_ := Aside0.mk ((by rw [hg]; exact Nat.ne_of_lt (blk_lt (g := gb8001) (o := .cells #[.int .i64 a0_0, .int .i64 a0_1, .int .i64 a0_2, .slice A0_3 l0_3.length c0_3] 24 (0, 0)) (by (with_reducible repeat (first | refine blk_drewN ?_ _ | refine blk_drew ?_ | refine blk_alloc ?_ _)); exact BK8001.out)) : gb8001 ≠ gb8002)); have n6_ := Aside0.mk ((by rw [hg]; exact Nat.ne_of_gt (blk_lt (g := gb8001) (o := .cells #[.int .i64 a0_0, .int .i64 a0_1, .int .i64 a0_2, .slice A0_3 l0_3.length c0_3] 24 (0, 0)) (by (with_reducible repeat (first | refine blk_drewN ?_ _ | refine blk_drew ?_ | refine blk_alloc ?_ _)); exact BK8001.out)) : gb8002 ≠ gb8001)); clear BK8001; clear HB; have BK8001 := n0_; have HB := n1_; have BK8002 := n2_; have GW8002 := n3_; have GE8002 := n4_; have NB8001_8002 := n5_; have NB8002_8001 := n6_; clear n0_ n1_ n2_ n3_ n4_ n5_ n6_; clear hb hbox hg; have hnb38 := NB8001_8002.out; have hnc38 := NB8002_8001.out; have hcz39_0 : w37.cell? ⟨gb8001, 0, none⟩ = some (.int .i64 a0_0) := (blk_cell BK8001.out 0).trans rfl; have hcz39_1 : w37.cell? ⟨gb8001, 1, none⟩ = some (.int .i64 a0_1) := (blk_cell BK8001.out 1).trans rfl; have hcz39_2 : w37.cell? ⟨gb8001, 2, none⟩ = some (.int .i64 a0_2) := (blk_cell BK8001.out 2).trans rfl; have hcz39_3 : w37.cell? ⟨gb8001, 3, none⟩ = some (.slice A0_3 l0_3.length c0_3) := (blk_cell BK8001.out 3).trans rfl; have hfz39_0 := blk_frozen BK8001.out 0; have hfz39_1 := blk_frozen BK8001.out 1; have hfz39_2 := blk_frozen BK8001.out 2; have hfz39_3 := blk_frozen BK8001.out 3) | ((with_reducible refine gate_callee (f := 20) rfl ?_); refine goesL_ (some 16) rfl rfl Try.func20 (by kernel_rfl) rfl #[.agg #[.int .i64 a0_0, .int .i64 a0_1, .int .i64 a0_2, .slice A0_3 l0_3.length c0_3], .int .i64 1048576] rfl (by (try simp only [List.map_toArray, List.map_cons, List.map_nil]); first | done | rfl | (simp only [List.length_drop, List.length_take]; rfl)) ?_; (with_reducible refine (laws_szImage.calls a0_0 a0_1 a0_2 _ _ l0_3 1048576 t8003 _ ?side1 ?side2 A3.out).mono ?_); (case side1 => repeat (first | exact (Kd.C_below HR0_3.out HB.out) | (with_reducible refine Kd.C_alloc ?_ _) | (with_reducible refine Kd.C_drewN ?_ _) | (with_reducible refine Kd.C_drew ?_))); (case side2 => exact HC0_3.out); rintro e w40 ⟨rfl, hb⟩; refine ⟨_, rfl, ?_⟩; have n0_ := Aside0.mk (blk_below (g := gb8001) (o := .cells #[.int .i64 a0_0, .int .i64 a0_1, .int .i64 a0_2, .slice A0_3 l0_3.length c0_3] 24 (0, 0)) (by (with_reducible repeat (first | refine blk_drewN ?_ _ | refine blk_drew ?_ | refine blk_alloc ?_ _)); exact BK8001.out) hb); have n1_ := Aside0.mk (blk_below (g := gb8002) (o := .cells #[.int .i64 a1_0, .int .i64 a1_1, .int .i64 a1_2, .slice A1_3 l1_3.length c1_3, .int .i64 a1_4, .int .i64 a1_5, .int .i64 a1_6, .int .i64 a1_7, .bool a1_8] 51 (0, 0)) (by (with_reducible repeat (first | refine blk_drewN ?_ _ | refine blk_drew ?_ | refine blk_alloc ?_ _)); exact BK8002.out) hb); have n2_ := Aside0.mk (below_step (by repeat (first | (with_reducible first | exact HB.out | apply below_alloc | apply pw_below_drewN | apply below_drew1 | refine below_set ?_ GE8001.out | refine below_set ?_ GE8002.out) | exact HB.out)) hb); clear BK8001; clear BK8002; clear HB; have BK8001 := n0_; have BK8002 := n1_; have HB := n2_; clear n0_ n1_ n2_; (try clear hb); (try clear hb2); (try clear hk); (try clear hi); have hcz41_0 : w40.cell? ⟨gb8002, 0, none⟩ = some (.int .i64 a1_0) := (blk_cell BK8002.out 0).trans rfl; have hcz41_1 : w40.cell? ⟨gb8002, 1, none⟩ = some (.int .i64 a1_1) := (blk_cell BK8002.out 1).trans rfl; have hcz41_2 : w40.cell? ⟨gb8002, 2, none⟩ = some (.int .i64 a1_2) := (blk_cell BK8002.out 2).trans rfl; have hcz41_3 : w40.cell? ⟨gb8002, 3, none⟩ = some (.slice A1_3 l1_3.length c1_3) := (blk_cell BK8002.out 3).trans rfl; have hcz41_4 : w40.cell? ⟨gb8002, 4, none⟩ = some (.int .i64 a1_4) := (blk_cell BK8002.out 4).trans rfl; have hcz41_5 : w40.cell? ⟨gb8002, 5, none⟩ = some (.int .i64 a1_5) := (blk_cell BK8002.out 5).trans rfl; have hcz41_6 : w40.cell? ⟨gb8002, 6, none⟩ = some (.int .i64 a1_6) := (blk_cell BK8002.out 6).trans rfl; have hcz41_7 : w40.cell? ⟨gb8002, 7, none⟩ = some (.int .i64 a1_7) := (blk_cell BK8002.out 7).trans rfl; have hcz41_8 : w40.cell? ⟨gb8002, 8, none⟩ = some (.bool a1_8) := (blk_cell BK8002.out 8).trans rfl; have hfz41_0 := blk_frozen BK8002.out 0; have hfz41_1 := blk_frozen BK8002.out 1; have hfz41_2 := blk_frozen BK8002.out 2; have hfz41_3 := blk_frozen BK8002.out 3; have hfz41_4 := blk_frozen BK8002.out 4; have hfz41_5 := blk_frozen BK8002.out 5; have hfz41_6 := blk_frozen BK8002.out 6; have hfz41_7 := blk_frozen BK8002.out 7; have hfz41_8 := blk_frozen BK8002.out 8) | ((with_reducible refine gate_callee (f := 39) rfl ?_); refine goesL_ (some 21) rfl rfl Try.func39 (by kernel_rfl) rfl #[.agg #[.int .i64 a1_0, .int .i64 a1_1, .int .i64 a1_2, .slice A1_3 l1_3.length c1_3, .int .i64 a1_4, .int .i64 a1_5, .int .i64 a1_6, .int .i64 a1_7, .bool a1_8], .int .i64 t8003] rfl (by (try simp only [List.map_toArray, List.map_cons, List.map_nil]); first | done | rfl | (simp only [List.length_drop, List.length_take]; rfl)) ?_; (with_reducible refine (laws_szLayer.calls a1_0 a1_1 a1_2 _ _ l1_3 a1_4 a1_5 a1_6 a1_7 a1_8 t8003 t8004 _ ?side1 ?side2 A10.out).mono ?_); (case side1 => repeat (first | exact (Kd.C_below HR1_3.out HB.out) | (with_reducible refine Kd.C_alloc ?_ _) | (with_reducible refine Kd.C_drewN ?_ _) | (with_reducible refine Kd.C_drew ?_))); (case side2 => exact HC1_3.out); rintro e w42 ⟨rfl, hb⟩; refine ⟨_, rfl, ?_⟩; have n0_ := Aside0.mk (blk_below (g := gb8001) (o := .cells #[.int .i64 a0_0, .int .i64 a0_1, .int .i64 a0_2, .slice A0_3 l0_3.length c0_3] 24 (0, 0)) (by (with_reducible repeat (first | refine blk_drewN ?_ _ | refine blk_drew ?_ | refine blk_alloc ?_ _)); exact BK8001.out) hb); have n1_ := Aside0.mk (blk_below (g := gb8002) (o := .cells #[.int .i64 a1_0, .int .i64 a1_1, .int .i64 a1_2, .slice A1_3 l1_3.length c1_3, .int .i64 a1_4, .int .i64 a1_5, .int .i64 a1_6, .int .i64 a1_7, .bool a1_8] 51 (0, 0)) (by (with_reducible repeat (first | refine blk_drewN ?_ _ | refine blk_drew ?_ | refine blk_alloc ?_ _)); exact BK8002.out) hb); have n2_ := Aside0.mk (below_step (by repeat (first | (with_reducible first | exact HB.out | apply below_alloc | apply pw_below_drewN | apply below_drew1 | refine below_set ?_ GE8001.out | refine below_set ?_ GE8002.out) | exact HB.out)) hb); clear BK8001; clear BK8002; clear HB; have BK8001 := n0_; have BK8002 := n1_; have HB := n2_; clear n0_ n1_ n2_; (try clear hb); (try clear hb2); (try clear hk); (try clear hi)))
            have n0_ := Aside0.mk (blk_drew BK8001.out)
            have n1_ := Aside0.mk (blk_drew BK8002.out)
            have n2_ := Aside0.mk (below_drew1 HB.out)
            clear BK8001
            clear BK8002
            clear HB
            have BK8001 := n0_
            have BK8002 := n1_
            have HB := n2_
            clear n0_ n1_ n2_
            refine start_ (n := 6) (S := fun w' => w'.cell? ⟨gb8001, 0, none⟩ = some (.int .i64 a0_0) ∧ w'.cell? ⟨gb8001, 1, none⟩ = some (.int .i64 a0_1) ∧ w'.cell? ⟨gb8001, 2, none⟩ = some (.int .i64 a0_2) ∧ w'.cell? ⟨gb8001, 3, none⟩ = some (.slice A0_3 l0_3.length c0_3) ∧ w'.cell? ⟨gb8002, 0, none⟩ = some (.int .i64 a1_0) ∧ w'.cell? ⟨gb8002, 1, none⟩ = some (.int .i64 a1_1) ∧ w'.cell? ⟨gb8002, 2, none⟩ = some (.int .i64 a1_2) ∧ w'.cell? ⟨gb8002, 3, none⟩ = some (.slice A1_3 l1_3.length c1_3) ∧ w'.cell? ⟨gb8002, 4, none⟩ = some (.int .i64 a1_4) ∧ w'.cell? ⟨gb8002, 5, none⟩ = some (.int .i64 a1_5) ∧ w'.cell? ⟨gb8002, 6, none⟩ = some (.int .i64 a1_6) ∧ w'.cell? ⟨gb8002, 7, none⟩ = some (.int .i64 a1_7) ∧ w'.cell? ⟨gb8002, 8, none⟩ = some (.bool a1_8)) (ds := []) #[false, false, false, false, false, false] (by kernel_rfl) rfl rfl ⟨(blk_cell BK8001.out 0).trans rfl, (blk_cell BK8001.out 1).trans rfl, (blk_cell BK8001.out 2).trans rfl, (blk_cell BK8001.out 3).trans rfl, (blk_cell BK8002.out 0).trans rfl, (blk_cell BK8002.out 1).trans rfl, (blk_cell BK8002.out 2).trans rfl, (blk_cell BK8002.out 3).trans rfl, (blk_cell BK8002.out 4).trans rfl, (blk_cell BK8002.out 5).trans rfl, (blk_cell BK8002.out 6).trans rfl, (blk_cell BK8002.out 7).trans rfl, (blk_cell BK8002.out 8).trans rfl⟩ (fun hHeld => ?_)
            generalize w42.drew = w43 at BK8001 BK8002 HB hHeld ⊢
            refine take_ (i := 0) (N := some 24) (v := ?_) (a' := ?_) #[true, false, false, false, false, false] rfl rfl (by kernel_rfl) (fun _ _ _ h => h) (Or.inl ⟨by rfl, ?_⟩) hHeld ?_ ?_
            rotate_left
            · rintro w' ⟨s0, s1, s2, s3, s4, s5, s6, s7, s8, s9, s10, s11, s12⟩
              go_simp
              with_reducible rfl
            rotate_left
            · simp only [Act.put, List.setIfInBounds_toArray, List.set_cons_zero, List.set_cons_succ, i64_w, i32_w]
              rfl
            refine take_ (i := 2) (N := some 26) (v := ?_) (a' := ?_) #[true, false, true, false, false, false] rfl rfl (by kernel_rfl) (fun _ _ _ h => h) (Or.inl ⟨by rfl, ?_⟩) hHeld ?_ ?_
            rotate_left
            · rintro w' ⟨s0, s1, s2, s3, s4, s5, s6, s7, s8, s9, s10, s11, s12⟩
              go_simp
              with_reducible rfl
            rotate_left
            · simp only [Act.put, List.setIfInBounds_toArray, List.set_cons_zero, List.set_cons_succ, i64_w, i32_w]
              rfl
            refine one_ (i := 1) (N := some 25) #[true, true, true, false, false, false] rfl rfl (by kernel_rfl) (by decide) (fun K hK => ?_)
            refine goes_ Try.func22 (by kernel_rfl) rfl #[.agg #[.int .i64 a0_0, .int .i64 a0_1, .int .i64 a0_2, .slice A0_3 l0_3.length c0_3]] (by rfl) rfl rfl (by (try simp only [List.map_toArray, List.map_cons, List.map_nil]); first | done | rfl | (simp only [List.length_drop, List.length_take]; rfl)) ?_
            with_reducible refine (laws_toImage.calls k a0_0 a0_1 a0_2 _ _ l0_3 t8005 t8006 t8007 t8008 _ ?side1 ?side2 A19.out).mono ?_
            (case side1 => repeat (first | exact (Kd.C_below HR0_3.out HB.out) | (with_reducible refine Kd.C_alloc ?_ _) | (with_reducible refine Kd.C_drewN ?_ _) | (with_reducible refine Kd.C_drew ?_)))
            (case side2 => exact HC0_3.out)
            rintro e w44 ⟨v8009, rfl, ho0, hb⟩
            refine ⟨_, rfl, ?_⟩
            have n0_ := Aside0.mk (Kd.R_lower ho0 (below_size (by repeat (first | (with_reducible first | exact HB.out | apply below_alloc | apply pw_below_drewN | apply below_drew1 | refine below_set ?_ GE8001.out | refine below_set ?_ GE8002.out) | exact HB.out))))
            have n1_ := Aside0.mk (blk_below (g := gb8001) (o := .cells #[.int .i64 a0_0, .int .i64 a0_1, .int .i64 a0_2, .slice A0_3 l0_3.length c0_3] 24 (0, 0)) (by (with_reducible repeat (first | refine blk_drewN ?_ _ | refine blk_drew ?_ | refine blk_alloc ?_ _)); exact BK8001.out) hb)
            have n2_ := Aside0.mk (blk_below (g := gb8002) (o := .cells #[.int .i64 a1_0, .int .i64 a1_1, .int .i64 a1_2, .slice A1_3 l1_3.length c1_3, .int .i64 a1_4, .int .i64 a1_5, .int .i64 a1_6, .int .i64 a1_7, .bool a1_8] 51 (0, 0)) (by (with_reducible repeat (first | refine blk_drewN ?_ _ | refine blk_drew ?_ | refine blk_alloc ?_ _)); exact BK8002.out) hb)
            have n3_ := Aside0.mk (below_step (by repeat (first | (with_reducible first | exact HB.out | apply below_alloc | apply pw_below_drewN | apply below_drew1 | refine below_set ?_ GE8001.out | refine below_set ?_ GE8002.out) | exact HB.out)) hb)
            clear BK8001
            clear BK8002
            clear HB
            have HO8010 := n0_
            have BK8001 := n1_
            have BK8002 := n2_
            have HB := n3_
            clear n0_ n1_ n2_ n3_
            (try clear hb)
            (try clear hb2)
            (try clear hk)
            (try clear hi)
            (try clear ho0)
            refine hK.out _ _ ⟨(blk_cell BK8001.out 0).trans rfl, (blk_cell BK8001.out 1).trans rfl, (blk_cell BK8001.out 2).trans rfl, (blk_cell BK8001.out 3).trans rfl, (blk_cell BK8002.out 0).trans rfl, (blk_cell BK8002.out 1).trans rfl, (blk_cell BK8002.out 2).trans rfl, (blk_cell BK8002.out 3).trans rfl, (blk_cell BK8002.out 4).trans rfl, (blk_cell BK8002.out 5).trans rfl, (blk_cell BK8002.out 6).trans rfl, (blk_cell BK8002.out 7).trans rfl, (blk_cell BK8002.out 8).trans rfl⟩ (fun hHeld => ?_)
            clear hK K
            refine norm_ (a' := ?_) ?_ ?_
            rotate_left
            · show Act.put _ (some 25) _ = _
              simp only [Act.put, List.setIfInBounds_toArray, List.set_cons_zero, List.set_cons_succ, i64_w, i32_w]
              rfl
            refine one_ (i := 3) (N := some 27) #[true, true, true, true, false, false] rfl rfl (by kernel_rfl) (by decide) (fun K hK => ?_)
            refine goes_ Try.func41 (by kernel_rfl) rfl #[.agg #[.int .i64 a1_0, .int .i64 a1_1, .int .i64 a1_2, .slice A1_3 l1_3.length c1_3, .int .i64 a1_4, .int .i64 a1_5, .int .i64 a1_6, .int .i64 a1_7, .bool a1_8]] (by rfl) rfl rfl (by (try simp only [List.map_toArray, List.map_cons, List.map_nil]); first | done | rfl | (simp only [List.length_drop, List.length_take]; rfl)) ?_
            with_reducible refine (laws_toLayer.calls k a1_0 a1_1 a1_2 _ _ l1_3 a1_4 a1_5 a1_6 a1_7 a1_8 t8011 t8012 t8013 t8014 t8017 t8018 t8019 t8020 t8021 _ ?side1 ?side2 A20.out).mono ?_
            (case side1 => repeat (first | exact (Kd.C_below HR1_3.out HB.out) | (with_reducible refine Kd.C_alloc ?_ _) | (with_reducible refine Kd.C_drewN ?_ _) | (with_reducible refine Kd.C_drew ?_)))
            (case side2 => exact HC1_3.out)
            rintro e w45 ⟨v8015, rfl, ho0, hb⟩
            refine ⟨_, rfl, ?_⟩
            have n0_ := Aside0.mk (Kd.R_elder' (by (with_reducible repeat (first | apply Kd.R_alloc | apply Kd.R_drewN | apply Kd.R_drew)); exact HO8010.out) (Kd.R_base ho0) hb)
            have n1_ := Aside0.mk (Kd.R_lower (Kd.R_new' ho0 (Kd.R_lt (by (with_reducible repeat (first | apply Kd.R_alloc | apply Kd.R_drewN | apply Kd.R_drew)); exact HO8010.out))) (below_size (by repeat (first | (with_reducible first | exact HB.out | apply below_alloc | apply pw_below_drewN | apply below_drew1 | refine below_set ?_ GE8001.out | refine below_set ?_ GE8002.out) | exact HB.out))))
            have n2_ := Aside0.mk (blk_below (g := gb8001) (o := .cells #[.int .i64 a0_0, .int .i64 a0_1, .int .i64 a0_2, .slice A0_3 l0_3.length c0_3] 24 (0, 0)) (by (with_reducible repeat (first | refine blk_drewN ?_ _ | refine blk_drew ?_ | refine blk_alloc ?_ _)); exact BK8001.out) hb)
            have n3_ := Aside0.mk (blk_below (g := gb8002) (o := .cells #[.int .i64 a1_0, .int .i64 a1_1, .int .i64 a1_2, .slice A1_3 l1_3.length c1_3, .int .i64 a1_4, .int .i64 a1_5, .int .i64 a1_6, .int .i64 a1_7, .bool a1_8] 51 (0, 0)) (by (with_reducible repeat (first | refine blk_drewN ?_ _ | refine blk_drew ?_ | refine blk_alloc ?_ _)); exact BK8002.out) hb)
            have n4_ := Aside0.mk (below_step (by repeat (first | (with_reducible first | exact HB.out | apply below_alloc | apply pw_below_drewN | apply below_drew1 | refine below_set ?_ GE8001.out | refine below_set ?_ GE8002.out) | exact HB.out)) hb)
            clear HO8010
            clear BK8001
            clear BK8002
            clear HB
            have HO8010 := n0_
            have HO8016 := n1_
            have BK8001 := n2_
            have BK8002 := n3_
            have HB := n4_
            clear n0_ n1_ n2_ n3_ n4_
            (try clear hb)
            (try clear hb2)
            (try clear hk)
            (try clear hi)
            (try clear ho0)
            obtain ⟨Ao46, co46, eo46⟩ := Kd.R_slice HO8010.out
            (first | subst eo46 | (injection eo46 with f1_ f2_ f3_; have f4_ := f1_.symm; have f5_ := f3_.symm; clear f1_ f2_ f3_; subst f4_; subst f5_))
            obtain ⟨Ao47, co47, eo47⟩ := Kd.R_slice HO8016.out
            (first | subst eo47 | (injection eo47 with f1_ f2_ f3_; have f4_ := f1_.symm; have f5_ := f3_.symm; clear f1_ f2_ f3_; subst f4_; subst f5_))
            refine hK.out _ _ ⟨(blk_cell BK8001.out 0).trans rfl, (blk_cell BK8001.out 1).trans rfl, (blk_cell BK8001.out 2).trans rfl, (blk_cell BK8001.out 3).trans rfl, (blk_cell BK8002.out 0).trans rfl, (blk_cell BK8002.out 1).trans rfl, (blk_cell BK8002.out 2).trans rfl, (blk_cell BK8002.out 3).trans rfl, (blk_cell BK8002.out 4).trans rfl, (blk_cell BK8002.out 5).trans rfl, (blk_cell BK8002.out 6).trans rfl, (blk_cell BK8002.out 7).trans rfl, (blk_cell BK8002.out 8).trans rfl⟩ (fun hHeld => ?_)
            clear hK K
            refine norm_ (a' := ?_) ?_ ?_
            rotate_left
            · show Act.put _ (some 27) _ = _
              simp only [Act.put, List.setIfInBounds_toArray, List.set_cons_zero, List.set_cons_succ, i64_w, i32_w]
              rfl
            refine one_ (i := 4) (N := some 28) #[true, true, true, true, true, false] rfl rfl (by kernel_rfl) (by decide) (fun K hK => ?_)
            refine goes_ Try.func40 (by kernel_rfl) rfl #[.agg #[.int .i64 t8005, .int .i64 t8006, .int .i64 t8007, .slice Ao46 t8008.length co46], .agg #[.int .i64 t8011, .int .i64 t8012, .int .i64 t8013, .slice Ao47 t8014.length co47, .int .i64 t8017, .int .i64 t8018, .int .i64 t8019, .int .i64 t8020, .bool t8021]] (by rfl) rfl rfl (by (try simp only [List.map_toArray, List.map_cons, List.map_nil]); first | done | rfl | (simp only [List.length_drop, List.length_take]; rfl)) ?_
            with_reducible refine (spec_DirtyTiles.calls k t8005 t8006 t8007 _ _ t8008 t8011 t8012 t8013 _ _ t8014 t8017 t8018 t8019 t8020 t8021 t8022 _ ?side1 ?side2 ?side3 ?side4 A21.out).mono ?_
            (case side1 => repeat (first | exact (Kd.R_reads' HO8010.out).2.2 | (with_reducible refine Kd.C_alloc ?_ _) | (with_reducible refine Kd.C_drewN ?_ _) | (with_reducible refine Kd.C_drew ?_)))
            (case side2 => exact (Kd.R_reads' HO8010.out).2.1)
            (case side3 => repeat (first | exact (Kd.R_reads' HO8016.out).2.2 | (with_reducible refine Kd.C_alloc ?_ _) | (with_reducible refine Kd.C_drewN ?_ _) | (with_reducible refine Kd.C_drew ?_)))
            (case side4 => exact (Kd.R_reads' HO8016.out).2.1)
            rintro e w48 ⟨v8023, rfl, ho0, hb⟩
            refine ⟨_, rfl, ?_⟩
            have n0_ := Aside0.mk (Kd.R_elder' (by (with_reducible repeat (first | apply Kd.R_alloc | apply Kd.R_drewN | apply Kd.R_drew)); exact HO8010.out) (Kd.R_base ho0) hb)
            have n1_ := Aside0.mk (Kd.R_elder' (by (with_reducible repeat (first | apply Kd.R_alloc | apply Kd.R_drewN | apply Kd.R_drew)); exact HO8016.out) (Kd.R_base ho0) hb)
            have n2_ := Aside0.mk (Kd.R_lower (Kd.R_new' (Kd.R_new' ho0 (Kd.R_lt (by (with_reducible repeat (first | apply Kd.R_alloc | apply Kd.R_drewN | apply Kd.R_drew)); exact HO8010.out))) (Kd.R_lt (by (with_reducible repeat (first | apply Kd.R_alloc | apply Kd.R_drewN | apply Kd.R_drew)); exact HO8016.out))) (below_size (by repeat (first | (with_reducible first | exact HB.out | apply below_alloc | apply pw_below_drewN | apply below_drew1 | refine below_set ?_ GE8001.out | refine below_set ?_ GE8002.out) | exact HB.out))))
            have n3_ := Aside0.mk (blk_below (g := gb8001) (o := .cells #[.int .i64 a0_0, .int .i64 a0_1, .int .i64 a0_2, .slice A0_3 l0_3.length c0_3] 24 (0, 0)) (by (with_reducible repeat (first | refine blk_drewN ?_ _ | refine blk_drew ?_ | refine blk_alloc ?_ _)); exact BK8001.out) hb)
            have n4_ := Aside0.mk (blk_below (g := gb8002) (o := .cells #[.int .i64 a1_0, .int .i64 a1_1, .int .i64 a1_2, .slice A1_3 l1_3.length c1_3, .int .i64 a1_4, .int .i64 a1_5, .int .i64 a1_6, .int .i64 a1_7, .bool a1_8] 51 (0, 0)) (by (with_reducible repeat (first | refine blk_drewN ?_ _ | refine blk_drew ?_ | refine blk_alloc ?_ _)); exact BK8002.out) hb)
            have n5_ := Aside0.mk (below_step (by repeat (first | (with_reducible first | exact HB.out | apply below_alloc | apply pw_below_drewN | apply below_drew1 | refine below_set ?_ GE8001.out | refine below_set ?_ GE8002.out) | exact HB.out)) hb)
            clear HO8010
            clear HO8016
            clear BK8001
            clear BK8002
            clear HB
            have HO8010 := n0_
            have HO8016 := n1_
            have HO8024 := n2_
            have BK8001 := n3_
            have BK8002 := n4_
            have HB := n5_
            clear n0_ n1_ n2_ n3_ n4_ n5_
            (try clear hb)
            (try clear hb2)
            (try clear hk)
            (try clear hi)
            (try clear ho0)
            refine hK.out _ _ ⟨(blk_cell BK8001.out 0).trans rfl, (blk_cell BK8001.out 1).trans rfl, (blk_cell BK8001.out 2).trans rfl, (blk_cell BK8001.out 3).trans rfl, (blk_cell BK8002.out 0).trans rfl, (blk_cell BK8002.out 1).trans rfl, (blk_cell BK8002.out 2).trans rfl, (blk_cell BK8002.out 3).trans rfl, (blk_cell BK8002.out 4).trans rfl, (blk_cell BK8002.out 5).trans rfl, (blk_cell BK8002.out 6).trans rfl, (blk_cell BK8002.out 7).trans rfl, (blk_cell BK8002.out 8).trans rfl⟩ (fun hHeld => ?_)
            clear hK K
            refine norm_ (a' := ?_) ?_ ?_
            rotate_left
            · show Act.put _ (some 28) _ = _
              simp only [Act.put, List.setIfInBounds_toArray, List.set_cons_zero, List.set_cons_succ, i64_w, i32_w]
              rfl
            refine pure_ (i := 5) (N := some 6) (v := ?_) (a' := ?_) #[true, true, true, true, true, true] rfl rfl (by kernel_rfl) (fun _ _ _ h => h) (Or.inl ⟨by rfl, ?_⟩) ?_ ?_
            rotate_left
            · intro w'
              go_simp
              with_reducible rfl
            rotate_left
            · simp only [Act.put, List.setIfInBounds_toArray, List.set_cons_zero, List.set_cons_succ, i64_w, i32_w]
              rfl
            refine done_ (by kernel_rfl) ?_
            have hcz49_0 : w48.cell? ⟨gb8001, 0, none⟩ = some (.int .i64 a0_0) := (blk_cell BK8001.out 0).trans rfl
            have hcz49_1 : w48.cell? ⟨gb8001, 1, none⟩ = some (.int .i64 a0_1) := (blk_cell BK8001.out 1).trans rfl
            have hcz49_2 : w48.cell? ⟨gb8001, 2, none⟩ = some (.int .i64 a0_2) := (blk_cell BK8001.out 2).trans rfl
            have hcz49_3 : w48.cell? ⟨gb8001, 3, none⟩ = some (.slice A0_3 l0_3.length c0_3) := (blk_cell BK8001.out 3).trans rfl
            have hfz49_0 := blk_frozen BK8001.out 0
            have hfz49_1 := blk_frozen BK8001.out 1
            have hfz49_2 := blk_frozen BK8001.out 2
            have hfz49_3 := blk_frozen BK8001.out 3
            try go_wp2_with (first | ((with_reducible refine gate_callee (f := 22) rfl ?_); refine goesL_ (some 30) rfl rfl Try.func22 (by kernel_rfl) rfl #[.agg #[.int .i64 a0_0, .int .i64 a0_1, .int .i64 a0_2, .slice A0_3 l0_3.length c0_3]] rfl (by (try simp only [List.map_toArray, List.map_cons, List.map_nil]); first | done | rfl | (simp only [List.length_drop, List.length_take]; rfl)) ?_; (with_reducible refine (laws_toImage.calls k a0_0 a0_1 a0_2 _ _ l0_3 t8025 t8026 t8027 t8028 _ ?side1 ?side2 A22.out).mono ?_); (case side1 => repeat (first | exact (Kd.C_below HR0_3.out HB.out) | (with_reducible refine Kd.C_alloc ?_ _) | (with_reducible refine Kd.C_drewN ?_ _) | (with_reducible refine Kd.C_drew ?_))); (case side2 => exact HC0_3.out); rintro e w50 ⟨v8029, rfl, ho0, hb⟩; refine ⟨_, rfl, ?_⟩; have n0_ := Aside0.mk (Kd.R_elder' (by (with_reducible repeat (first | apply Kd.R_alloc | apply Kd.R_drewN | apply Kd.R_drew)); exact HO8010.out) (Kd.R_base ho0) hb); have n1_ := Aside0.mk (Kd.R_elder' (by (with_reducible repeat (first | apply Kd.R_alloc | apply Kd.R_drewN | apply Kd.R_drew)); exact HO8016.out) (Kd.R_base ho0) hb); have n2_ := Aside0.mk (Kd.R_elder' (by (with_reducible repeat (first | apply Kd.R_alloc | apply Kd.R_drewN | apply Kd.R_drew)); exact HO8024.out) (Kd.R_base ho0) hb); have n3_ := Aside0.mk (Kd.R_lower (Kd.R_new' (Kd.R_new' (Kd.R_new' ho0 (Kd.R_lt (by (with_reducible repeat (first | apply Kd.R_alloc | apply Kd.R_drewN | apply Kd.R_drew)); exact HO8010.out))) (Kd.R_lt (by (with_reducible repeat (first | apply Kd.R_alloc | apply Kd.R_drewN | apply Kd.R_drew)); exact HO8016.out))) (Kd.R_lt (by (with_reducible repeat (first | apply Kd.R_alloc | apply Kd.R_drewN | apply Kd.R_drew)); exact HO8024.out))) (below_size (by repeat (first | (with_reducible first | exact HB.out | apply below_alloc | apply pw_below_drewN | apply below_drew1 | refine below_set ?_ GE8001.out | refine below_set ?_ GE8002.out) | exact HB.out)))); have n4_ := Aside0.mk (blk_below (g := gb8001) (o := .cells #[.int .i64 a0_0, .int .i64 a0_1, .int .i64 a0_2, .slice A0_3 l0_3.length c0_3] 24 (0, 0)) (by (with_reducible repeat (first | refine blk_drewN ?_ _ | refine blk_drew ?_ | refine blk_alloc ?_ _)); exact BK8001.out) hb); have n5_ := Aside0.mk (blk_below (g := gb8002) (o := .cells #[.int .i64 a1_0, .int .i64 a1_1, .int .i64 a1_2, .slice A1_3 l1_3.length c1_3, .int .i64 a1_4, .int .i64 a1_5, .int .i64 a1_6, .int .i64 a1_7, .bool a1_8] 51 (0, 0)) (by (with_reducible repeat (first | refine blk_drewN ?_ _ | refine blk_drew ?_ | refine blk_alloc ?_ _)); exact BK8002.out) hb); have n6_ := Aside0.mk (below_step (by repeat (first | (with_reducible first | exact HB.out | apply below_alloc | apply pw_below_drewN | apply below_drew1 | refine below_set ?_ GE8001.out | refine below_set ?_ GE8002.out) | exact HB.out)) hb); clear HO8010; clear HO8016; clear HO8024; clear BK8001; clear BK8002; clear HB; have HO8010 := n0_; have HO8016 := n1_; have HO8024 := n2_; have HO8030 := n3_; have BK8001 := n4_; have BK8002 := n5_; have HB := n6_; clear n0_ n1_ n2_ n3_ n4_ n5_ n6_; (try clear hb); (try clear hb2); (try clear hk); (try clear hi); (try clear ho0)) | ((with_reducible refine gate_dst (N := 7) rfl ?_); refine box_event ?hg (N := 7) ?hd (cs := #[.int .i64 0, .int .i64 0, .int .i64 0, .slice none 0 0]) (t := 27) ?hr ?_; (case hd => rfl); (case hg => rfl); (case hr => first | (go_simp; done) | (go_simp; rfl)); intro gb8031 hg w51 hbox hb; have n0_ := Aside0.mk (Kd.R_below (by (with_reducible repeat (first | apply Kd.R_alloc | apply Kd.R_drewN | apply Kd.R_drew)); exact HO8010.out) hb); have n1_ := Aside0.mk (Kd.R_below (by (with_reducible repeat (first | apply Kd.R_alloc | apply Kd.R_drewN | apply Kd.R_drew)); exact HO8016.out) hb); have n2_ := Aside0.mk (Kd.R_below (by (with_reducible repeat (first | apply Kd.R_alloc | apply Kd.R_drewN | apply Kd.R_drew)); exact HO8024.out) hb); have n3_ := Aside0.mk (Kd.R_below (by (with_reducible repeat (first | apply Kd.R_alloc | apply Kd.R_drewN | apply Kd.R_drew)); exact HO8030.out) hb); have n4_ := Aside0.mk (blk_below (g := gb8001) (o := .cells #[.int .i64 a0_0, .int .i64 a0_1, .int .i64 a0_2, .slice A0_3 l0_3.length c0_3] 24 (0, 0)) (by (with_reducible repeat (first | refine blk_drewN ?_ _ | refine blk_drew ?_ | refine blk_alloc ?_ _)); exact BK8001.out) hb); have n5_ := Aside0.mk (blk_below (g := gb8002) (o := .cells #[.int .i64 a1_0, .int .i64 a1_1, .int .i64 a1_2, .slice A1_3 l1_3.length c1_3, .int .i64 a1_4, .int .i64 a1_5, .int .i64 a1_6, .int .i64 a1_7, .bool a1_8] 51 (0, 0)) (by (with_reducible repeat (first | refine blk_drewN ?_ _ | refine blk_drew ?_ | refine blk_alloc ?_ _)); exact BK8002.out) hb); have n6_ := Aside0.mk (below_step (by repeat (first | (with_reducible first | exact HB.out | apply below_alloc | apply pw_below_drewN | apply below_drew1 | refine below_set ?_ GE8001.out | refine below_set ?_ GE8002.out) | exact HB.out)) hb); have n7_ := Aside0.mk (hbox); have n8_ := Aside0.mk ((by rw [hg]; exact (below_size (by repeat (first | (with_reducible first | exact HB.out | apply below_alloc | apply pw_below_drewN | apply below_drew1 | refine below_set ?_ GE8001.out | refine below_set ?_ GE8002.out) | exact HB.out))) : w.heap.size ≤ gb8031)); have n9_ := Aside0.mk ((by rw [hg]; exact (below_size (by repeat (first | (with_reducible first | exact HB.out | apply below_alloc | apply pw_below_drewN | apply below_drew1 | refine below_set ?_ GE8001.out | refine below_set ?_ GE8002.out) | exact HB.out))) : w.heap.size ≤ gb8031)); have n10_ := Aside0.mk ((by rw [hg]; exact Nat.ne_of_lt (blk_lt (g := gb8001) (o := .cells #[.int .i64 a0_0, .int .i64 a0_1, .int .i64 a0_2, .slice A0_3 l0_3.length c0_3] 24 (0, 0)) (by (with_reducible repeat (first | refine blk_drewN ?_ _ | refine blk_drew ?_ | refine blk_alloc ?_ _)); exact BK8001.out)) : gb8001 ≠ gb8031)); have n11_ := Aside0.mk ((by rw [hg]; exact Nat.ne_of_gt (blk_lt (g := gb8001) (o := .cells #[.int .i64 a0_0, .int .i64 a0_1, .int .i64 a0_2, .slice A0_3 l0_3.length c0_3] 24 (0, 0)) (by (with_reducible repeat (first | refine blk_drewN ?_ _ | refine blk_drew ?_ | refine blk_alloc ?_ _)); exact BK8001.out)) : gb8031 ≠ gb8001)); have n12_ := Aside0.mk ((by rw [hg]; exact Nat.ne_of_lt (blk_lt (g := gb8002) (o := .cells #[.int .i64 a1_0, .int .i64 a1_1, .int .i64 a1_2, .slice A1_3 l1_3.length c1_3, .int .i64 a1_4, .int .i64 a1_5, .int .i64 a1_6, .int .i64 a1_7, .bool a1_8] 51 (0, 0)) (by (with_reducible repeat (first | refine blk_drewN ?_ _ | refine blk_drew ?_ | refine blk_alloc ?_ _)); exact BK8002.out)) : gb8002 ≠ gb8031)); have n13_ := Aside0.mk ((by rw [hg]; exact Nat.ne_of_gt (blk_lt (g := gb8002) (o := .cells #[.int .i64 a1_0, .int .i64 a1_1, .int .i64 a1_2, .slice A1_3 l1_3.length c1_3, .int .i64 a1_4, .int .i64 a1_5, .int .i64 a1_6, .int .i64 a1_7, .bool a1_8] 51 (0, 0)) (by (with_reducible repeat (first | refine blk_drewN ?_ _ | refine blk_drew ?_ | refine blk_alloc ?_ _)); exact BK8002.out)) : gb8031 ≠ gb8002)); clear HO8010; clear HO8016; clear HO8024; clear HO8030; clear BK8001; clear BK8002; clear HB; have HO8010 := n0_; have HO8016 := n1_; have HO8024 := n2_; have HO8030 := n3_; have BK8001 := n4_; have BK8002 := n5_; have HB := n6_; have BK8031 := n7_; have GW8031 := n8_; have GE8031 := n9_; have NB8001_8031 := n10_; have NB8031_8001 := n11_; have NB8002_8031 := n12_; have NB8031_8002 := n13_; clear n0_ n1_ n2_ n3_ n4_ n5_ n6_ n7_ n8_ n9_ n10_ n11_ n12_ n13_; clear hb hbox hg; have hnb52 := NB8031_8001.out; have hnc52 := NB8001_8031.out; have hnb53 := NB8031_8002.out; have hnc53 := NB8002_8031.out; have hcz54_0 : w51.cell? ⟨gb8031, 0, none⟩ = some (.int .i64 0) := (blk_cell BK8031.out 0).trans rfl; have hcz54_1 : w51.cell? ⟨gb8031, 1, none⟩ = some (.int .i64 0) := (blk_cell BK8031.out 1).trans rfl; have hcz54_2 : w51.cell? ⟨gb8031, 2, none⟩ = some (.int .i64 0) := (blk_cell BK8031.out 2).trans rfl; have hcz54_3 : w51.cell? ⟨gb8031, 3, none⟩ = some (.slice none 0 0) := (blk_cell BK8031.out 3).trans rfl; have hfz54_0 := blk_frozen BK8031.out 0; have hfz54_1 := blk_frozen BK8031.out 1; have hfz54_2 := blk_frozen BK8031.out 2; have hfz54_3 := blk_frozen BK8031.out 3; obtain ⟨Ao55, co55, eo55⟩ := Kd.R_slice HO8030.out; subst eo55; have hcz56_0 : w51.cell? ⟨gb8002, 0, none⟩ = some (.int .i64 a1_0) := (blk_cell BK8002.out 0).trans rfl; have hcz56_1 : w51.cell? ⟨gb8002, 1, none⟩ = some (.int .i64 a1_1) := (blk_cell BK8002.out 1).trans rfl; have hcz56_2 : w51.cell? ⟨gb8002, 2, none⟩ = some (.int .i64 a1_2) := (blk_cell BK8002.out 2).trans rfl; have hcz56_3 : w51.cell? ⟨gb8002, 3, none⟩ = some (.slice A1_3 l1_3.length c1_3) := (blk_cell BK8002.out 3).trans rfl; have hcz56_4 : w51.cell? ⟨gb8002, 4, none⟩ = some (.int .i64 a1_4) := (blk_cell BK8002.out 4).trans rfl; have hcz56_5 : w51.cell? ⟨gb8002, 5, none⟩ = some (.int .i64 a1_5) := (blk_cell BK8002.out 5).trans rfl; have hcz56_6 : w51.cell? ⟨gb8002, 6, none⟩ = some (.int .i64 a1_6) := (blk_cell BK8002.out 6).trans rfl; have hcz56_7 : w51.cell? ⟨gb8002, 7, none⟩ = some (.int .i64 a1_7) := (blk_cell BK8002.out 7).trans rfl; have hcz56_8 : w51.cell? ⟨gb8002, 8, none⟩ = some (.bool a1_8) := (blk_cell BK8002.out 8).trans rfl; have hfz56_0 := blk_frozen BK8002.out 0; have hfz56_1 := blk_frozen BK8002.out 1; have hfz56_2 := blk_frozen BK8002.out 2; have hfz56_3 := blk_frozen BK8002.out 3; have hfz56_4 := blk_frozen BK8002.out 4; have hfz56_5 := blk_frozen BK8002.out 5; have hfz56_6 := blk_frozen BK8002.out 6; have hfz56_7 := blk_frozen BK8002.out 7; have hfz56_8 := blk_frozen BK8002.out 8) | ((with_reducible refine gate_callee (f := 41) rfl ?_); refine goesL_ (some 32) rfl rfl Try.func41 (by kernel_rfl) rfl #[.agg #[.int .i64 a1_0, .int .i64 a1_1, .int .i64 a1_2, .slice A1_3 l1_3.length c1_3, .int .i64 a1_4, .int .i64 a1_5, .int .i64 a1_6, .int .i64 a1_7, .bool a1_8]] rfl (by (try simp only [List.map_toArray, List.map_cons, List.map_nil]); first | done | rfl | (simp only [List.length_drop, List.length_take]; rfl)) ?_; (with_reducible refine (laws_toLayer.calls k a1_0 a1_1 a1_2 _ _ l1_3 a1_4 a1_5 a1_6 a1_7 a1_8 t8032 t8033 t8034 t8035 t8038 t8039 t8040 t8041 t8042 _ ?side1 ?side2 A23.out).mono ?_); (case side1 => exact Kd.C_below HR1_3.out (by repeat (first | (with_reducible first | exact HB.out | apply below_alloc | apply pw_below_drewN | apply below_drew1 | refine below_set ?_ GE8001.out | refine below_set ?_ GE8002.out | refine below_set ?_ GE8031.out) | exact HB.out))); (case side2 => exact HC1_3.out); rintro e w57 ⟨v8036, rfl, ho0, hb⟩; refine ⟨_, rfl, ?_⟩; have n0_ := Aside0.mk (Kd.R_elder' (by (with_reducible repeat (first | apply Kd.R_alloc | apply Kd.R_drewN | apply Kd.R_drew)); exact (Kd.R_mono (Kd.R_far (p := ⟨gb8031, 3, none⟩) (Kd.R_far (p := ⟨gb8031, 2, none⟩) (Kd.R_far (p := ⟨gb8031, 1, none⟩) (Kd.R_far (p := ⟨gb8031, 0, none⟩) (Kd.R_types HO8010.out BK8031.out (by decide)) (fun _ hk => hk.2) (.int .i64 t8025)) (fun _ hk => hk.2) (.int .i64 t8026)) (fun _ hk => hk.2) (.int .i64 t8027)) (fun _ hk => hk.2) (.slice Ao55 t8028.length co55)) (fun _ h_ => h_.1))) (Kd.R_base ho0) hb); have n1_ := Aside0.mk (Kd.R_elder' (by (with_reducible repeat (first | apply Kd.R_alloc | apply Kd.R_drewN | apply Kd.R_drew)); exact (Kd.R_mono (Kd.R_far (p := ⟨gb8031, 3, none⟩) (Kd.R_far (p := ⟨gb8031, 2, none⟩) (Kd.R_far (p := ⟨gb8031, 1, none⟩) (Kd.R_far (p := ⟨gb8031, 0, none⟩) (Kd.R_types HO8016.out BK8031.out (by decide)) (fun _ hk => hk.2) (.int .i64 t8025)) (fun _ hk => hk.2) (.int .i64 t8026)) (fun _ hk => hk.2) (.int .i64 t8027)) (fun _ hk => hk.2) (.slice Ao55 t8028.length co55)) (fun _ h_ => h_.1))) (Kd.R_base ho0) hb); have n2_ := Aside0.mk (Kd.R_elder' (by (with_reducible repeat (first | apply Kd.R_alloc | apply Kd.R_drewN | apply Kd.R_drew)); exact (Kd.R_mono (Kd.R_far (p := ⟨gb8031, 3, none⟩) (Kd.R_far (p := ⟨gb8031, 2, none⟩) (Kd.R_far (p := ⟨gb8031, 1, none⟩) (Kd.R_far (p := ⟨gb8031, 0, none⟩) (Kd.R_types HO8024.out BK8031.out (by decide)) (fun _ hk => hk.2) (.int .i64 t8025)) (fun _ hk => hk.2) (.int .i64 t8026)) (fun _ hk => hk.2) (.int .i64 t8027)) (fun _ hk => hk.2) (.slice Ao55 t8028.length co55)) (fun _ h_ => h_.1))) (Kd.R_base ho0) hb); have n3_ := Aside0.mk (Kd.R_elder' (by (with_reducible repeat (first | apply Kd.R_alloc | apply Kd.R_drewN | apply Kd.R_drew)); exact (Kd.R_mono (Kd.R_far (p := ⟨gb8031, 3, none⟩) (Kd.R_far (p := ⟨gb8031, 2, none⟩) (Kd.R_far (p := ⟨gb8031, 1, none⟩) (Kd.R_far (p := ⟨gb8031, 0, none⟩) (Kd.R_types HO8030.out BK8031.out (by decide)) (fun _ hk => hk.2) (.int .i64 t8025)) (fun _ hk => hk.2) (.int .i64 t8026)) (fun _ hk => hk.2) (.int .i64 t8027)) (fun _ hk => hk.2) (.slice Ao55 t8028.length co55)) (fun _ h_ => h_.1))) (Kd.R_base ho0) hb); have n4_ := Aside0.mk (Kd.R_lower (Kd.R_new' (Kd.R_new' (Kd.R_new' (Kd.R_new' ho0 (Kd.R_lt (by (with_reducible repeat (first | apply Kd.R_alloc | apply Kd.R_drewN | apply Kd.R_drew)); exact (Kd.R_mono (Kd.R_far (p := ⟨gb8031, 3, none⟩) (Kd.R_far (p := ⟨gb8031, 2, none⟩) (Kd.R_far (p := ⟨gb8031, 1, none⟩) (Kd.R_far (p := ⟨gb8031, 0, none⟩) (Kd.R_types HO8010.out BK8031.out (by decide)) (fun _ hk => hk.2) (.int .i64 t8025)) (fun _ hk => hk.2) (.int .i64 t8026)) (fun _ hk => hk.2) (.int .i64 t8027)) (fun _ hk => hk.2) (.slice Ao55 t8028.length co55)) (fun _ h_ => h_.1))))) (Kd.R_lt (by (with_reducible repeat (first | apply Kd.R_alloc | apply Kd.R_drewN | apply Kd.R_drew)); exact (Kd.R_mono (Kd.R_far (p := ⟨gb8031, 3, none⟩) (Kd.R_far (p := ⟨gb8031, 2, none⟩) (Kd.R_far (p := ⟨gb8031, 1, none⟩) (Kd.R_far (p := ⟨gb8031, 0, none⟩) (Kd.R_types HO8016.out BK8031.out (by decide)) (fun _ hk => hk.2) (.int .i64 t8025)) (fun _ hk => hk.2) (.int .i64 t8026)) (fun _ hk => hk.2) (.int .i64 t8027)) (fun _ hk => hk.2) (.slice Ao55 t8028.length co55)) (fun _ h_ => h_.1))))) (Kd.R_lt (by (with_reducible repeat (first | apply Kd.R_alloc | apply Kd.R_drewN | apply Kd.R_drew)); exact (Kd.R_mono (Kd.R_far (p := ⟨gb8031, 3, none⟩) (Kd.R_far (p := ⟨gb8031, 2, none⟩) (Kd.R_far (p := ⟨gb8031, 1, none⟩) (Kd.R_far (p := ⟨gb8031, 0, none⟩) (Kd.R_types HO8024.out BK8031.out (by decide)) (fun _ hk => hk.2) (.int .i64 t8025)) (fun _ hk => hk.2) (.int .i64 t8026)) (fun _ hk => hk.2) (.int .i64 t8027)) (fun _ hk => hk.2) (.slice Ao55 t8028.length co55)) (fun _ h_ => h_.1))))) (Kd.R_lt (by (with_reducible repeat (first | apply Kd.R_alloc | apply Kd.R_drewN | apply Kd.R_drew)); exact (Kd.R_mono (Kd.R_far (p := ⟨gb8031, 3, none⟩) (Kd.R_far (p := ⟨gb8031, 2, none⟩) (Kd.R_far (p := ⟨gb8031, 1, none⟩) (Kd.R_far (p := ⟨gb8031, 0, none⟩) (Kd.R_types HO8030.out BK8031.out (by decide)) (fun _ hk => hk.2) (.int .i64 t8025)) (fun _ hk => hk.2) (.int .i64 t8026)) (fun _ hk => hk.2) (.int .i64 t8027)) (fun _ hk => hk.2) (.slice Ao55 t8028.length co55)) (fun _ h_ => h_.1))))) (below_size (by repeat (first | (with_reducible first | exact HB.out | apply below_alloc | apply pw_below_drewN | apply below_drew1 | refine below_set ?_ GE8001.out | refine below_set ?_ GE8002.out | refine below_set ?_ GE8031.out) | exact HB.out)))); have n5_ := Aside0.mk (blk_below (g := gb8001) (o := .cells #[.int .i64 a0_0, .int .i64 a0_1, .int .i64 a0_2, .slice A0_3 l0_3.length c0_3] 24 (0, 0)) (by (with_reducible repeat (first | refine blk_drewN ?_ _ | refine blk_drew ?_ | refine blk_alloc ?_ _)); refine blk_far ?_ NB8001_8031.out _; (with_reducible repeat (first | refine blk_drewN ?_ _ | refine blk_drew ?_ | refine blk_alloc ?_ _)); refine blk_far ?_ NB8001_8031.out _; (with_reducible repeat (first | refine blk_drewN ?_ _ | refine blk_drew ?_ | refine blk_alloc ?_ _)); refine blk_far ?_ NB8001_8031.out _; (with_reducible repeat (first | refine blk_drewN ?_ _ | refine blk_drew ?_ | refine blk_alloc ?_ _)); refine blk_far ?_ NB8001_8031.out _; (with_reducible repeat (first | refine blk_drewN ?_ _ | refine blk_drew ?_ | refine blk_alloc ?_ _)); exact BK8001.out) hb); have n6_ := Aside0.mk (blk_below (g := gb8002) (o := .cells #[.int .i64 a1_0, .int .i64 a1_1, .int .i64 a1_2, .slice A1_3 l1_3.length c1_3, .int .i64 a1_4, .int .i64 a1_5, .int .i64 a1_6, .int .i64 a1_7, .bool a1_8] 51 (0, 0)) (by (with_reducible repeat (first | refine blk_drewN ?_ _ | refine blk_drew ?_ | refine blk_alloc ?_ _)); refine blk_far ?_ NB8002_8031.out _; (with_reducible repeat (first | refine blk_drewN ?_ _ | refine blk_drew ?_ | refine blk_alloc ?_ _)); refine blk_far ?_ NB8002_8031.out _; (with_reducible repeat (first | refine blk_drewN ?_ _ | refine blk_drew ?_ | refine blk_alloc ?_ _)); refine blk_far ?_ NB8002_8031.out _; (with_reducible repeat (first | refine blk_drewN ?_ _ | refine blk_drew ?_ | refine blk_alloc ?_ _)); refine blk_far ?_ NB8002_8031.out _; (with_reducible repeat (first | refine blk_drewN ?_ _ | refine blk_drew ?_ | refine blk_alloc ?_ _)); exact BK8002.out) hb); have n7_ := Aside0.mk (blk_below (g := gb8031) (o := .cells #[.int .i64 t8025, .int .i64 t8026, .int .i64 t8027, .slice Ao55 t8028.length co55] 27 (0, 0)) (by (with_reducible repeat (first | refine blk_drewN ?_ _ | refine blk_drew ?_ | refine blk_alloc ?_ _)); refine blk_put (cs := #[.int .i64 t8025, .int .i64 t8026, .int .i64 t8027, .slice none 0 0]) ?_ 3 _ rfl; (with_reducible repeat (first | refine blk_drewN ?_ _ | refine blk_drew ?_ | refine blk_alloc ?_ _)); refine blk_put (cs := #[.int .i64 t8025, .int .i64 t8026, .int .i64 0, .slice none 0 0]) ?_ 2 _ rfl; (with_reducible repeat (first | refine blk_drewN ?_ _ | refine blk_drew ?_ | refine blk_alloc ?_ _)); refine blk_put (cs := #[.int .i64 t8025, .int .i64 0, .int .i64 0, .slice none 0 0]) ?_ 1 _ rfl; (with_reducible repeat (first | refine blk_drewN ?_ _ | refine blk_drew ?_ | refine blk_alloc ?_ _)); refine blk_put (cs := #[.int .i64 0, .int .i64 0, .int .i64 0, .slice none 0 0]) ?_ 0 _ rfl; (with_reducible repeat (first | refine blk_drewN ?_ _ | refine blk_drew ?_ | refine blk_alloc ?_ _)); exact BK8031.out) hb); have n8_ := Aside0.mk (below_step (by repeat (first | (with_reducible first | exact HB.out | apply below_alloc | apply pw_below_drewN | apply below_drew1 | refine below_set ?_ GE8001.out | refine below_set ?_ GE8002.out | refine below_set ?_ GE8031.out) | exact HB.out)) hb); clear HO8010; clear HO8016; clear HO8024; clear HO8030; clear BK8001; clear BK8002; clear BK8031; clear HB; have HO8010 := n0_; have HO8016 := n1_; have HO8024 := n2_; have HO8030 := n3_; have HO8037 := n4_; have BK8001 := n5_; have BK8002 := n6_; have BK8031 := n7_; have HB := n8_; clear n0_ n1_ n2_ n3_ n4_ n5_ n6_ n7_ n8_; (try clear hb); (try clear hb2); (try clear hk); (try clear hi); (try clear ho0)) | ((with_reducible refine gate_dst (N := 8) rfl ?_); refine box_event ?hg (N := 8) ?hd (cs := #[.int .i64 0, .int .i64 0, .int .i64 0, .slice none 0 0, .int .i64 0, .int .i64 0, .int .i64 0, .int .i64 0, .bool false]) (t := 55) ?hr ?_; (case hd => rfl); (case hg => rfl); (case hr => first | (go_simp; done) | (go_simp; rfl)); intro gb8043 hg w58 hbox hb; have n0_ := Aside0.mk (Kd.R_below (by (with_reducible repeat (first | apply Kd.R_alloc | apply Kd.R_drewN | apply Kd.R_drew)); exact HO8010.out) hb); have n1_ := Aside0.mk (Kd.R_below (by (with_reducible repeat (first | apply Kd.R_alloc | apply Kd.R_drewN | apply Kd.R_drew)); exact HO8016.out) hb); have n2_ := Aside0.mk (Kd.R_below (by (with_reducible repeat (first | apply Kd.R_alloc | apply Kd.R_drewN | apply Kd.R_drew)); exact HO8024.out) hb); have n3_ := Aside0.mk (Kd.R_below (by (with_reducible repeat (first | apply Kd.R_alloc | apply Kd.R_drewN | apply Kd.R_drew)); exact HO8030.out) hb); have n4_ := Aside0.mk (Kd.R_below (by (with_reducible repeat (first | apply Kd.R_alloc | apply Kd.R_drewN | apply Kd.R_drew)); exact HO8037.out) hb); have n5_ := Aside0.mk (blk_below (g := gb8001) (o := .cells #[.int .i64 a0_0, .int .i64 a0_1, .int .i64 a0_2, .slice A0_3 l0_3.length c0_3] 24 (0, 0)) (by (with_reducible repeat (first | refine blk_drewN ?_ _ | refine blk_drew ?_ | refine blk_alloc ?_ _)); exact BK8001.out) hb); have n6_ := Aside0.mk (blk_below (g := gb8002) (o := .cells #[.int .i64 a1_0, .int .i64 a1_1, .int .i64 a1_2, .slice A1_3 l1_3.length c1_3, .int .i64 a1_4, .int .i64 a1_5, .int .i64 a1_6, .int .i64 a1_7, .bool a1_8] 51 (0, 0)) (by (with_reducible repeat (first | refine blk_drewN ?_ _ | refine blk_drew ?_ | refine blk_alloc ?_ _)); exact BK8002.out) hb); have n7_ := Aside0.mk (blk_below (g := gb8031) (o := .cells #[.int .i64 t8025, .int .i64 t8026, .int .i64 t8027, .slice Ao55 t8028.length co55] 27 (0, 0)) (by (with_reducible repeat (first | refine blk_drewN ?_ _ | refine blk_drew ?_ | refine blk_alloc ?_ _)); exact BK8031.out) hb); have n8_ := Aside0.mk (below_step (by repeat (first | (with_reducible first | exact HB.out | apply below_alloc | apply pw_below_drewN | apply below_drew1 | refine below_set ?_ GE8001.out | refine below_set ?_ GE8002.out | refine below_set ?_ GE8031.out) | exact HB.out)) hb); have n9_ := Aside0.mk (hbox); have n10_ := Aside0.mk ((by rw [hg]; exact (below_size (by repeat (first | (with_reducible first | exact HB.out | apply below_alloc | apply pw_below_drewN | apply below_drew1 | refine below_set ?_ GE8001.out | refine below_set ?_ GE8002.out | refine below_set ?_ GE8031.out) | exact HB.out))) : w.heap.size ≤ gb8043)); have n11_ := Aside0.mk ((by rw [hg]; exact (below_size (by repeat (first | (with_reducible first | exact HB.out | apply below_alloc | apply pw_below_drewN | apply below_drew1 | refine below_set ?_ GE8001.out | refine below_set ?_ GE8002.out | refine below_set ?_ GE8031.out) | exact HB.out))) : w.heap.size ≤ gb8043)); have n12_ := Aside0.mk ((by rw [hg]; exact Nat.ne_of_lt (blk_lt (g := gb8001) (o := .cells #[.int .i64 a0_0, .int .i64 a0_1, .int .i64 a0_2, .slice A0_3 l0_3.length c0_3] 24 (0, 0)) (by (with_reducible repeat (first | refine blk_drewN ?_ _ | refine blk_drew ?_ | refine blk_alloc ?_ _)); exact BK8001.out)) : gb8001 ≠ gb8043)); have n13_ := Aside0.mk ((by rw [hg]; exact Nat.ne_of_gt (blk_lt (g := gb8001) (o := .cells #[.int .i64 a0_0, .int .i64 a0_1, .int .i64 a0_2, .slice A0_3 l0_3.length c0_3] 24 (0, 0)) (by (with_reducible repeat (first | refine blk_drewN ?_ _ | refine blk_drew ?_ | refine blk_alloc ?_ _)); exact BK8001.out)) : gb8043 ≠ gb8001)); have n14_ := Aside0.mk ((by rw [hg]; exact Nat.ne_of_lt (blk_lt (g := gb8002) (o := .cells #[.int .i64 a1_0, .int .i64 a1_1, .int .i64 a1_2, .slice A1_3 l1_3.length c1_3, .int .i64 a1_4, .int .i64 a1_5, .int .i64 a1_6, .int .i64 a1_7, .bool a1_8] 51 (0, 0)) (by (with_reducible repeat (first | refine blk_drewN ?_ _ | refine blk_drew ?_ | refine blk_alloc ?_ _)); exact BK8002.out)) : gb8002 ≠ gb8043)); have n15_ := Aside0.mk ((by rw [hg]; exact Nat.ne_of_gt (blk_lt (g := gb8002) (o := .cells #[.int .i64 a1_0, .int .i64 a1_1, .int .i64 a1_2, .slice A1_3 l1_3.length c1_3, .int .i64 a1_4, .int .i64 a1_5, .int .i64 a1_6, .int .i64 a1_7, .bool a1_8] 51 (0, 0)) (by (with_reducible repeat (first | refine blk_drewN ?_ _ | refine blk_drew ?_ | refine blk_alloc ?_ _)); exact BK8002.out)) : gb8043 ≠ gb8002)); have n16_ := Aside0.mk ((by rw [hg]; exact Nat.ne_of_lt (blk_lt (g := gb8031) (o := .cells #[.int .i64 t8025, .int .i64 t8026, .int .i64 t8027, .slice Ao55 t8028.length co55] 27 (0, 0)) (by (with_reducible repeat (first | refine blk_drewN ?_ _ | refine blk_drew ?_ | refine blk_alloc ?_ _)); exact BK8031.out)) : gb8031 ≠ gb8043)); have n17_ := Aside0.mk ((by rw [hg]; exact Nat.ne_of_gt (blk_lt (g := gb8031) (o := .cells #[.int .i64 t8025, .int .i64 t8026, .int .i64 t8027, .slice Ao55 t8028.length co55] 27 (0, 0)) (by (with_reducible repeat (first | refine blk_drewN ?_ _ | refine blk_drew ?_ | refine blk_alloc ?_ _)); exact BK8031.out)) : gb8043 ≠ gb8031)); clear HO8010; clear HO8016; clear HO8024; clear HO8030; clear HO8037; clear BK8001; clear BK8002; clear BK8031; clear HB; have HO8010 := n0_; have HO8016 := n1_; have HO8024 := n2_; have HO8030 := n3_; have HO8037 := n4_; have BK8001 := n5_; have BK8002 := n6_; have BK8031 := n7_; have HB := n8_; have BK8043 := n9_; have GW8043 := n10_; have GE8043 := n11_; have NB8001_8043 := n12_; have NB8043_8001 := n13_; have NB8002_8043 := n14_; have NB8043_8002 := n15_; have NB8031_8043 := n16_; have NB8043_8031 := n17_; clear n0_ n1_ n2_ n3_ n4_ n5_ n6_ n7_ n8_ n9_ n10_ n11_ n12_ n13_ n14_ n15_ n16_ n17_; clear hb hbox hg; have hnb59 := NB8043_8001.out; have hnc59 := NB8001_8043.out; have hnb60 := NB8043_8002.out; have hnc60 := NB8002_8043.out; have hnb61 := NB8043_8031.out; have hnc61 := NB8031_8043.out; have hcz62_0 : w58.cell? ⟨gb8043, 0, none⟩ = some (.int .i64 0) := (blk_cell BK8043.out 0).trans rfl; have hcz62_1 : w58.cell? ⟨gb8043, 1, none⟩ = some (.int .i64 0) := (blk_cell BK8043.out 1).trans rfl; have hcz62_2 : w58.cell? ⟨gb8043, 2, none⟩ = some (.int .i64 0) := (blk_cell BK8043.out 2).trans rfl; have hcz62_3 : w58.cell? ⟨gb8043, 3, none⟩ = some (.slice none 0 0) := (blk_cell BK8043.out 3).trans rfl; have hcz62_4 : w58.cell? ⟨gb8043, 4, none⟩ = some (.int .i64 0) := (blk_cell BK8043.out 4).trans rfl; have hcz62_5 : w58.cell? ⟨gb8043, 5, none⟩ = some (.int .i64 0) := (blk_cell BK8043.out 5).trans rfl; have hcz62_6 : w58.cell? ⟨gb8043, 6, none⟩ = some (.int .i64 0) := (blk_cell BK8043.out 6).trans rfl; have hcz62_7 : w58.cell? ⟨gb8043, 7, none⟩ = some (.int .i64 0) := (blk_cell BK8043.out 7).trans rfl; have hcz62_8 : w58.cell? ⟨gb8043, 8, none⟩ = some (.bool false) := (blk_cell BK8043.out 8).trans rfl; have hfz62_0 := blk_frozen BK8043.out 0; have hfz62_1 := blk_frozen BK8043.out 1; have hfz62_2 := blk_frozen BK8043.out 2; have hfz62_3 := blk_frozen BK8043.out 3; have hfz62_4 := blk_frozen BK8043.out 4; have hfz62_5 := blk_frozen BK8043.out 5; have hfz62_6 := blk_frozen BK8043.out 6; have hfz62_7 := blk_frozen BK8043.out 7; have hfz62_8 := blk_frozen BK8043.out 8; obtain ⟨Ao63, co63, eo63⟩ := Kd.R_slice HO8037.out; subst eo63; have hcz64_0 : w58.cell? ⟨gb8031, 0, none⟩ = some (.int .i64 t8025) := (blk_cell BK8031.out 0).trans rfl; have hcz64_1 : w58.cell? ⟨gb8031, 1, none⟩ = some (.int .i64 t8026) := (blk_cell BK8031.out 1).trans rfl; have hcz64_2 : w58.cell? ⟨gb8031, 2, none⟩ = some (.int .i64 t8027) := (blk_cell BK8031.out 2).trans rfl; have hcz64_3 : w58.cell? ⟨gb8031, 3, none⟩ = some (.slice Ao55 t8028.length co55) := (blk_cell BK8031.out 3).trans rfl; have hfz64_0 := blk_frozen BK8031.out 0; have hfz64_1 := blk_frozen BK8031.out 1; have hfz64_2 := blk_frozen BK8031.out 2; have hfz64_3 := blk_frozen BK8031.out 3) | ((with_reducible refine gate_callee (f := 42) rfl ?_); refine goesL_ (some 35) rfl rfl Try.func42 (by kernel_rfl) rfl #[.agg #[.int .i64 t8025, .int .i64 t8026, .int .i64 t8027, .slice Ao55 t8028.length co55], .agg #[.int .i64 t8032, .int .i64 t8033, .int .i64 t8034, .slice Ao63 t8035.length co63, .int .i64 t8038, .int .i64 t8039, .int .i64 t8040, .int .i64 t8041, .bool t8042]] rfl (by (try simp only [List.map_toArray, List.map_cons, List.map_nil]); first | done | rfl | (simp only [List.length_drop, List.length_take]; rfl)) ?_; (with_reducible refine (impl_DirtyTiles.calls k t8025 t8026 t8027 _ _ t8028 t8032 t8033 t8034 _ _ t8035 t8038 t8039 t8040 t8041 t8042 t8044 _ ?side1 ?side2 ?side3 ?side4 A24.out).mono ?_); (case side1 => refine (Kd.R_reads' (e := 3) (base := w.heap.size) (ok := fun k_ => ((((True ∧ some k_ ≠ (.slice Ao46 t8008.length co46 : Value).ownBlock) ∧ some k_ ≠ (.slice Ao47 t8014.length co47 : Value).ownBlock) ∧ some k_ ≠ (v8023 : Value).ownBlock) ∧ some k_ ≠ (.slice Ao63 t8035.length co63 : Value).ownBlock)) (n := t8028.length) (c := co55) ?_).2.2; exact (by (with_reducible repeat (first | apply Kd.R_alloc | apply Kd.R_drewN | apply Kd.R_drew)); exact (Kd.R_mono (Kd.R_far (p := ⟨gb8043, 8, none⟩) (Kd.R_far (p := ⟨gb8043, 7, none⟩) (Kd.R_far (p := ⟨gb8043, 6, none⟩) (Kd.R_far (p := ⟨gb8043, 5, none⟩) (Kd.R_far (p := ⟨gb8043, 4, none⟩) (Kd.R_far (p := ⟨gb8043, 3, none⟩) (Kd.R_far (p := ⟨gb8043, 2, none⟩) (Kd.R_far (p := ⟨gb8043, 1, none⟩) (Kd.R_far (p := ⟨gb8043, 0, none⟩) (Kd.R_types HO8030.out BK8043.out (by decide)) (fun _ hk => hk.2) (.int .i64 t8032)) (fun _ hk => hk.2) (.int .i64 t8033)) (fun _ hk => hk.2) (.int .i64 t8034)) (fun _ hk => hk.2) (.slice Ao63 t8035.length co63)) (fun _ hk => hk.2) (.int .i64 t8038)) (fun _ hk => hk.2) (.int .i64 t8039)) (fun _ hk => hk.2) (.int .i64 t8040)) (fun _ hk => hk.2) (.int .i64 t8041)) (fun _ hk => hk.2) (.bool t8042)) (fun _ h_ => h_.1)))); (case side2 => exact (Kd.R_reads' HO8030.out).2.1); (case side3 => refine (Kd.R_reads' (e := 3) (base := w.heap.size) (ok := fun k_ => ((((True ∧ some k_ ≠ (.slice Ao46 t8008.length co46 : Value).ownBlock) ∧ some k_ ≠ (.slice Ao47 t8014.length co47 : Value).ownBlock) ∧ some k_ ≠ (v8023 : Value).ownBlock) ∧ some k_ ≠ (.slice Ao55 t8028.length co55 : Value).ownBlock)) (n := t8035.length) (c := co63) ?_).2.2; exact (by (with_reducible repeat (first | apply Kd.R_alloc | apply Kd.R_drewN | apply Kd.R_drew)); exact (Kd.R_mono (Kd.R_far (p := ⟨gb8043, 8, none⟩) (Kd.R_far (p := ⟨gb8043, 7, none⟩) (Kd.R_far (p := ⟨gb8043, 6, none⟩) (Kd.R_far (p := ⟨gb8043, 5, none⟩) (Kd.R_far (p := ⟨gb8043, 4, none⟩) (Kd.R_far (p := ⟨gb8043, 3, none⟩) (Kd.R_far (p := ⟨gb8043, 2, none⟩) (Kd.R_far (p := ⟨gb8043, 1, none⟩) (Kd.R_far (p := ⟨gb8043, 0, none⟩) (Kd.R_types HO8037.out BK8043.out (by decide)) (fun _ hk => hk.2) (.int .i64 t8032)) (fun _ hk => hk.2) (.int .i64 t8033)) (fun _ hk => hk.2) (.int .i64 t8034)) (fun _ hk => hk.2) (.slice Ao63 t8035.length co63)) (fun _ hk => hk.2) (.int .i64 t8038)) (fun _ hk => hk.2) (.int .i64 t8039)) (fun _ hk => hk.2) (.int .i64 t8040)) (fun _ hk => hk.2) (.int .i64 t8041)) (fun _ hk => hk.2) (.bool t8042)) (fun _ h_ => h_.1)))); (case side4 => exact (Kd.R_reads' HO8037.out).2.1); rintro e w65 ⟨v8045, rfl, ho0, hb⟩; refine ⟨_, rfl, ?_⟩; have n0_ := Aside0.mk (Kd.R_elder' (by (with_reducible repeat (first | apply Kd.R_alloc | apply Kd.R_drewN | apply Kd.R_drew)); exact (Kd.R_mono (Kd.R_far (p := ⟨gb8043, 8, none⟩) (Kd.R_far (p := ⟨gb8043, 7, none⟩) (Kd.R_far (p := ⟨gb8043, 6, none⟩) (Kd.R_far (p := ⟨gb8043, 5, none⟩) (Kd.R_far (p := ⟨gb8043, 4, none⟩) (Kd.R_far (p := ⟨gb8043, 3, none⟩) (Kd.R_far (p := ⟨gb8043, 2, none⟩) (Kd.R_far (p := ⟨gb8043, 1, none⟩) (Kd.R_far (p := ⟨gb8043, 0, none⟩) (Kd.R_types HO8010.out BK8043.out (by decide)) (fun _ hk => hk.2) (.int .i64 t8032)) (fun _ hk => hk.2) (.int .i64 t8033)) (fun _ hk => hk.2) (.int .i64 t8034)) (fun _ hk => hk.2) (.slice Ao63 t8035.length co63)) (fun _ hk => hk.2) (.int .i64 t8038)) (fun _ hk => hk.2) (.int .i64 t8039)) (fun _ hk => hk.2) (.int .i64 t8040)) (fun _ hk => hk.2) (.int .i64 t8041)) (fun _ hk => hk.2) (.bool t8042)) (fun _ h_ => h_.1))) (Kd.R_base ho0) hb); have n1_ := Aside0.mk (Kd.R_elder' (by (with_reducible repeat (first | apply Kd.R_alloc | apply Kd.R_drewN | apply Kd.R_drew)); exact (Kd.R_mono (Kd.R_far (p := ⟨gb8043, 8, none⟩) (Kd.R_far (p := ⟨gb8043, 7, none⟩) (Kd.R_far (p := ⟨gb8043, 6, none⟩) (Kd.R_far (p := ⟨gb8043, 5, none⟩) (Kd.R_far (p := ⟨gb8043, 4, none⟩) (Kd.R_far (p := ⟨gb8043, 3, none⟩) (Kd.R_far (p := ⟨gb8043, 2, none⟩) (Kd.R_far (p := ⟨gb8043, 1, none⟩) (Kd.R_far (p := ⟨gb8043, 0, none⟩) (Kd.R_types HO8016.out BK8043.out (by decide)) (fun _ hk => hk.2) (.int .i64 t8032)) (fun _ hk => hk.2) (.int .i64 t8033)) (fun _ hk => hk.2) (.int .i64 t8034)) (fun _ hk => hk.2) (.slice Ao63 t8035.length co63)) (fun _ hk => hk.2) (.int .i64 t8038)) (fun _ hk => hk.2) (.int .i64 t8039)) (fun _ hk => hk.2) (.int .i64 t8040)) (fun _ hk => hk.2) (.int .i64 t8041)) (fun _ hk => hk.2) (.bool t8042)) (fun _ h_ => h_.1))) (Kd.R_base ho0) hb); have n2_ := Aside0.mk (Kd.R_elder' (by (with_reducible repeat (first | apply Kd.R_alloc | apply Kd.R_drewN | apply Kd.R_drew)); exact (Kd.R_mono (Kd.R_far (p := ⟨gb8043, 8, none⟩) (Kd.R_far (p := ⟨gb8043, 7, none⟩) (Kd.R_far (p := ⟨gb8043, 6, none⟩) (Kd.R_far (p := ⟨gb8043, 5, none⟩) (Kd.R_far (p := ⟨gb8043, 4, none⟩) (Kd.R_far (p := ⟨gb8043, 3, none⟩) (Kd.R_far (p := ⟨gb8043, 2, none⟩) (Kd.R_far (p := ⟨gb8043, 1, none⟩) (Kd.R_far (p := ⟨gb8043, 0, none⟩) (Kd.R_types HO8024.out BK8043.out (by decide)) (fun _ hk => hk.2) (.int .i64 t8032)) (fun _ hk => hk.2) (.int .i64 t8033)) (fun _ hk => hk.2) (.int .i64 t8034)) (fun _ hk => hk.2) (.slice Ao63 t8035.length co63)) (fun _ hk => hk.2) (.int .i64 t8038)) (fun _ hk => hk.2) (.int .i64 t8039)) (fun _ hk => hk.2) (.int .i64 t8040)) (fun _ hk => hk.2) (.int .i64 t8041)) (fun _ hk => hk.2) (.bool t8042)) (fun _ h_ => h_.1))) (Kd.R_base ho0) hb); have n3_ := Aside0.mk (Kd.R_elder' (by (with_reducible repeat (first | apply Kd.R_alloc | apply Kd.R_drewN | apply Kd.R_drew)); exact (Kd.R_mono (Kd.R_far (p := ⟨gb8043, 8, none⟩) (Kd.R_far (p := ⟨gb8043, 7, none⟩) (Kd.R_far (p := ⟨gb8043, 6, none⟩) (Kd.R_far (p := ⟨gb8043, 5, none⟩) (Kd.R_far (p := ⟨gb8043, 4, none⟩) (Kd.R_far (p := ⟨gb8043, 3, none⟩) (Kd.R_far (p := ⟨gb8043, 2, none⟩) (Kd.R_far (p := ⟨gb8043, 1, none⟩) (Kd.R_far (p := ⟨gb8043, 0, none⟩) (Kd.R_types HO8030.out BK8043.out (by decide)) (fun _ hk => hk.2) (.int .i64 t8032)) (fun _ hk => hk.2) (.int .i64 t8033)) (fun _ hk => hk.2) (.int .i64 t8034)) (fun _ hk => hk.2) (.slice Ao63 t8035.length co63)) (fun _ hk => hk.2) (.int .i64 t8038)) (fun _ hk => hk.2) (.int .i64 t8039)) (fun _ hk => hk.2) (.int .i64 t8040)) (fun _ hk => hk.2) (.int .i64 t8041)) (fun _ hk => hk.2) (.bool t8042)) (fun _ h_ => h_.1))) (Kd.R_base ho0) hb); have n4_ := Aside0.mk (Kd.R_elder' (by (with_reducible repeat (first | apply Kd.R_alloc | apply Kd.R_drewN | apply Kd.R_drew)); exact (Kd.R_mono (Kd.R_far (p := ⟨gb8043, 8, none⟩) (Kd.R_far (p := ⟨gb8043, 7, none⟩) (Kd.R_far (p := ⟨gb8043, 6, none⟩) (Kd.R_far (p := ⟨gb8043, 5, none⟩) (Kd.R_far (p := ⟨gb8043, 4, none⟩) (Kd.R_far (p := ⟨gb8043, 3, none⟩) (Kd.R_far (p := ⟨gb8043, 2, none⟩) (Kd.R_far (p := ⟨gb8043, 1, none⟩) (Kd.R_far (p := ⟨gb8043, 0, none⟩) (Kd.R_types HO8037.out BK8043.out (by decide)) (fun _ hk => hk.2) (.int .i64 t8032)) (fun _ hk => hk.2) (.int .i64 t8033)) (fun _ hk => hk.2) (.int .i64 t8034)) (fun _ hk => hk.2) (.slice Ao63 t8035.length co63)) (fun _ hk => hk.2) (.int .i64 t8038)) (fun _ hk => hk.2) (.int .i64 t8039)) (fun _ hk => hk.2) (.int .i64 t8040)) (fun _ hk => hk.2) (.int .i64 t8041)) (fun _ hk => hk.2) (.bool t8042)) (fun _ h_ => h_.1))) (Kd.R_base ho0) hb); have n5_ := Aside0.mk (Kd.R_lower (Kd.R_new' (Kd.R_new' (Kd.R_new' (Kd.R_new' (Kd.R_new' ho0 (Kd.R_lt (by (with_reducible repeat (first | apply Kd.R_alloc | apply Kd.R_drewN | apply Kd.R_drew)); exact (Kd.R_mono (Kd.R_far (p := ⟨gb8043, 8, none⟩) (Kd.R_far (p := ⟨gb8043, 7, none⟩) (Kd.R_far (p := ⟨gb8043, 6, none⟩) (Kd.R_far (p := ⟨gb8043, 5, none⟩) (Kd.R_far (p := ⟨gb8043, 4, none⟩) (Kd.R_far (p := ⟨gb8043, 3, none⟩) (Kd.R_far (p := ⟨gb8043, 2, none⟩) (Kd.R_far (p := ⟨gb8043, 1, none⟩) (Kd.R_far (p := ⟨gb8043, 0, none⟩) (Kd.R_types HO8010.out BK8043.out (by decide)) (fun _ hk => hk.2) (.int .i64 t8032)) (fun _ hk => hk.2) (.int .i64 t8033)) (fun _ hk => hk.2) (.int .i64 t8034)) (fun _ hk => hk.2) (.slice Ao63 t8035.length co63)) (fun _ hk => hk.2) (.int .i64 t8038)) (fun _ hk => hk.2) (.int .i64 t8039)) (fun _ hk => hk.2) (.int .i64 t8040)) (fun _ hk => hk.2) (.int .i64 t8041)) (fun _ hk => hk.2) (.bool t8042)) (fun _ h_ => h_.1))))) (Kd.R_lt (by (with_reducible repeat (first | apply Kd.R_alloc | apply Kd.R_drewN | apply Kd.R_drew)); exact (Kd.R_mono (Kd.R_far (p := ⟨gb8043, 8, none⟩) (Kd.R_far (p := ⟨gb8043, 7, none⟩) (Kd.R_far (p := ⟨gb8043, 6, none⟩) (Kd.R_far (p := ⟨gb8043, 5, none⟩) (Kd.R_far (p := ⟨gb8043, 4, none⟩) (Kd.R_far (p := ⟨gb8043, 3, none⟩) (Kd.R_far (p := ⟨gb8043, 2, none⟩) (Kd.R_far (p := ⟨gb8043, 1, none⟩) (Kd.R_far (p := ⟨gb8043, 0, none⟩) (Kd.R_types HO8016.out BK8043.out (by decide)) (fun _ hk => hk.2) (.int .i64 t8032)) (fun _ hk => hk.2) (.int .i64 t8033)) (fun _ hk => hk.2) (.int .i64 t8034)) (fun _ hk => hk.2) (.slice Ao63 t8035.length co63)) (fun _ hk => hk.2) (.int .i64 t8038)) (fun _ hk => hk.2) (.int .i64 t8039)) (fun _ hk => hk.2) (.int .i64 t8040)) (fun _ hk => hk.2) (.int .i64 t8041)) (fun _ hk => hk.2) (.bool t8042)) (fun _ h_ => h_.1))))) (Kd.R_lt (by (with_reducible repeat (first | apply Kd.R_alloc | apply Kd.R_drewN | apply Kd.R_drew)); exact (Kd.R_mono (Kd.R_far (p := ⟨gb8043, 8, none⟩) (Kd.R_far (p := ⟨gb8043, 7, none⟩) (Kd.R_far (p := ⟨gb8043, 6, none⟩) (Kd.R_far (p := ⟨gb8043, 5, none⟩) (Kd.R_far (p := ⟨gb8043, 4, none⟩) (Kd.R_far (p := ⟨gb8043, 3, none⟩) (Kd.R_far (p := ⟨gb8043, 2, none⟩) (Kd.R_far (p := ⟨gb8043, 1, none⟩) (Kd.R_far (p := ⟨gb8043, 0, none⟩) (Kd.R_types HO8024.out BK8043.out (by decide)) (fun _ hk => hk.2) (.int .i64 t8032)) (fun _ hk => hk.2) (.int .i64 t8033)) (fun _ hk => hk.2) (.int .i64 t8034)) (fun _ hk => hk.2) (.slice Ao63 t8035.length co63)) (fun _ hk => hk.2) (.int .i64 t8038)) (fun _ hk => hk.2) (.int .i64 t8039)) (fun _ hk => hk.2) (.int .i64 t8040)) (fun _ hk => hk.2) (.int .i64 t8041)) (fun _ hk => hk.2) (.bool t8042)) (fun _ h_ => h_.1))))) (Kd.R_lt (by (with_reducible repeat (first | apply Kd.R_alloc | apply Kd.R_drewN | apply Kd.R_drew)); exact (Kd.R_mono (Kd.R_far (p := ⟨gb8043, 8, none⟩) (Kd.R_far (p := ⟨gb8043, 7, none⟩) (Kd.R_far (p := ⟨gb8043, 6, none⟩) (Kd.R_far (p := ⟨gb8043, 5, none⟩) (Kd.R_far (p := ⟨gb8043, 4, none⟩) (Kd.R_far (p := ⟨gb8043, 3, none⟩) (Kd.R_far (p := ⟨gb8043, 2, none⟩) (Kd.R_far (p := ⟨gb8043, 1, none⟩) (Kd.R_far (p := ⟨gb8043, 0, none⟩) (Kd.R_types HO8030.out BK8043.out (by decide)) (fun _ hk => hk.2) (.int .i64 t8032)) (fun _ hk => hk.2) (.int .i64 t8033)) (fun _ hk => hk.2) (.int .i64 t8034)) (fun _ hk => hk.2) (.slice Ao63 t8035.length co63)) (fun _ hk => hk.2) (.int .i64 t8038)) (fun _ hk => hk.2) (.int .i64 t8039)) (fun _ hk => hk.2) (.int .i64 t8040)) (fun _ hk => hk.2) (.int .i64 t8041)) (fun _ hk => hk.2) (.bool t8042)) (fun _ h_ => h_.1))))) (Kd.R_lt (by (with_reducible repeat (first | apply Kd.R_alloc | apply Kd.R_drewN | apply Kd.R_drew)); exact (Kd.R_mono (Kd.R_far (p := ⟨gb8043, 8, none⟩) (Kd.R_far (p := ⟨gb8043, 7, none⟩) (Kd.R_far (p := ⟨gb8043, 6, none⟩) (Kd.R_far (p := ⟨gb8043, 5, none⟩) (Kd.R_far (p := ⟨gb8043, 4, none⟩) (Kd.R_far (p := ⟨gb8043, 3, none⟩) (Kd.R_far (p := ⟨gb8043, 2, none⟩) (Kd.R_far (p := ⟨gb8043, 1, none⟩) (Kd.R_far (p := ⟨gb8043, 0, none⟩) (Kd.R_types HO8037.out BK8043.out (by decide)) (fun _ hk => hk.2) (.int .i64 t8032)) (fun _ hk => hk.2) (.int .i64 t8033)) (fun _ hk => hk.2) (.int .i64 t8034)) (fun _ hk => hk.2) (.slice Ao63 t8035.length co63)) (fun _ hk => hk.2) (.int .i64 t8038)) (fun _ hk => hk.2) (.int .i64 t8039)) (fun _ hk => hk.2) (.int .i64 t8040)) (fun _ hk => hk.2) (.int .i64 t8041)) (fun _ hk => hk.2) (.bool t8042)) (fun _ h_ => h_.1))))) (below_size (by repeat (first | (with_reducible first | exact HB.out | apply below_alloc | apply pw_below_drewN | apply below_drew1 | refine below_set ?_ GE8001.out | refine below_set ?_ GE8002.out | refine below_set ?_ GE8031.out | refine below_set ?_ GE8043.out) | exact HB.out)))); have n6_ := Aside0.mk (blk_below (g := gb8001) (o := .cells #[.int .i64 a0_0, .int .i64 a0_1, .int .i64 a0_2, .slice A0_3 l0_3.length c0_3] 24 (0, 0)) (by (with_reducible repeat (first | refine blk_drewN ?_ _ | refine blk_drew ?_ | refine blk_alloc ?_ _)); refine blk_far ?_ NB8001_8043.out _; (with_reducible repeat (first | refine blk_drewN ?_ _ | refine blk_drew ?_ | refine blk_alloc ?_ _)); refine blk_far ?_ NB8001_8043.out _; (with_reducible repeat (first | refine blk_drewN ?_ _ | refine blk_drew ?_ | refine blk_alloc ?_ _)); refine blk_far ?_ NB8001_8043.out _; (with_reducible repeat (first | refine blk_drewN ?_ _ | refine blk_drew ?_ | refine blk_alloc ?_ _)); refine blk_far ?_ NB8001_8043.out _; (with_reducible repeat (first | refine blk_drewN ?_ _ | refine blk_drew ?_ | refine blk_alloc ?_ _)); refine blk_far ?_ NB8001_8043.out _; (with_reducible repeat (first | refine blk_drewN ?_ _ | refine blk_drew ?_ | refine blk_alloc ?_ _)); refine blk_far ?_ NB8001_8043.out _; (with_reducible repeat (first | refine blk_drewN ?_ _ | refine blk_drew ?_ | refine blk_alloc ?_ _)); refine blk_far ?_ NB8001_8043.out _; (with_reducible repeat (first | refine blk_drewN ?_ _ | refine blk_drew ?_ | refine blk_alloc ?_ _)); refine blk_far ?_ NB8001_8043.out _; (with_reducible repeat (first | refine blk_drewN ?_ _ | refine blk_drew ?_ | refine blk_alloc ?_ _)); refine blk_far ?_ NB8001_8043.out _; (with_reducible repeat (first | refine blk_drewN ?_ _ | refine blk_drew ?_ | refine blk_alloc ?_ _)); exact BK8001.out) hb); have n7_ := Aside0.mk (blk_below (g := gb8002) (o := .cells #[.int .i64 a1_0, .int .i64 a1_1, .int .i64 a1_2, .slice A1_3 l1_3.length c1_3, .int .i64 a1_4, .int .i64 a1_5, .int .i64 a1_6, .int .i64 a1_7, .bool a1_8] 51 (0, 0)) (by (with_reducible repeat (first | refine blk_drewN ?_ _ | refine blk_drew ?_ | refine blk_alloc ?_ _)); refine blk_far ?_ NB8002_8043.out _; (with_reducible repeat (first | refine blk_drewN ?_ _ | refine blk_drew ?_ | refine blk_alloc ?_ _)); refine blk_far ?_ NB8002_8043.out _; (with_reducible repeat (first | refine blk_drewN ?_ _ | refine blk_drew ?_ | refine blk_alloc ?_ _)); refine blk_far ?_ NB8002_8043.out _; (with_reducible repeat (first | refine blk_drewN ?_ _ | refine blk_drew ?_ | refine blk_alloc ?_ _)); refine blk_far ?_ NB8002_8043.out _; (with_reducible repeat (first | refine blk_drewN ?_ _ | refine blk_drew ?_ | refine blk_alloc ?_ _)); refine blk_far ?_ NB8002_8043.out _; (with_reducible repeat (first | refine blk_drewN ?_ _ | refine blk_drew ?_ | refine blk_alloc ?_ _)); refine blk_far ?_ NB8002_8043.out _; (with_reducible repeat (first | refine blk_drewN ?_ _ | refine blk_drew ?_ | refine blk_alloc ?_ _)); refine blk_far ?_ NB8002_8043.out _; (with_reducible repeat (first | refine blk_drewN ?_ _ | refine blk_drew ?_ | refine blk_alloc ?_ _)); refine blk_far ?_ NB8002_8043.out _; (with_reducible repeat (first | refine blk_drewN ?_ _ | refine blk_drew ?_ | refine blk_alloc ?_ _)); refine blk_far ?_ NB8002_8043.out _; (with_reducible repeat (first | refine blk_drewN ?_ _ | refine blk_drew ?_ | refine blk_alloc ?_ _)); exact BK8002.out) hb); have n8_ := Aside0.mk (blk_below (g := gb8031) (o := .cells #[.int .i64 t8025, .int .i64 t8026, .int .i64 t8027, .slice Ao55 t8028.length co55] 27 (0, 0)) (by (with_reducible repeat (first | refine blk_drewN ?_ _ | refine blk_drew ?_ | refine blk_alloc ?_ _)); refine blk_far ?_ NB8031_8043.out _; (with_reducible repeat (first | refine blk_drewN ?_ _ | refine blk_drew ?_ | refine blk_alloc ?_ _)); refine blk_far ?_ NB8031_8043.out _; (with_reducible repeat (first | refine blk_drewN ?_ _ | refine blk_drew ?_ | refine blk_alloc ?_ _)); refine blk_far ?_ NB8031_8043.out _; (with_reducible repeat (first | refine blk_drewN ?_ _ | refine blk_drew ?_ | refine blk_alloc ?_ _)); refine blk_far ?_ NB8031_8043.out _; (with_reducible repeat (first | refine blk_drewN ?_ _ | refine blk_drew ?_ | refine blk_alloc ?_ _)); refine blk_far ?_ NB8031_8043.out _; (with_reducible repeat (first | refine blk_drewN ?_ _ | refine blk_drew ?_ | refine blk_alloc ?_ _)); refine blk_far ?_ NB8031_8043.out _; (with_reducible repeat (first | refine blk_drewN ?_ _ | refine blk_drew ?_ | refine blk_alloc ?_ _)); refine blk_far ?_ NB8031_8043.out _; (with_reducible repeat (first | refine blk_drewN ?_ _ | refine blk_drew ?_ | refine blk_alloc ?_ _)); refine blk_far ?_ NB8031_8043.out _; (with_reducible repeat (first | refine blk_drewN ?_ _ | refine blk_drew ?_ | refine blk_alloc ?_ _)); refine blk_far ?_ NB8031_8043.out _; (with_reducible repeat (first | refine blk_drewN ?_ _ | refine blk_drew ?_ | refine blk_alloc ?_ _)); exact BK8031.out) hb); have n9_ := Aside0.mk (blk_below (g := gb8043) (o := .cells #[.int .i64 t8032, .int .i64 t8033, .int .i64 t8034, .slice Ao63 t8035.length co63, .int .i64 t8038, .int .i64 t8039, .int .i64 t8040, .int .i64 t8041, .bool t8042] 55 (0, 0)) (by (with_reducible repeat (first | refine blk_drewN ?_ _ | refine blk_drew ?_ | refine blk_alloc ?_ _)); refine blk_put (cs := #[.int .i64 t8032, .int .i64 t8033, .int .i64 t8034, .slice Ao63 t8035.length co63, .int .i64 t8038, .int .i64 t8039, .int .i64 t8040, .int .i64 t8041, .bool false]) ?_ 8 _ rfl; (with_reducible repeat (first | refine blk_drewN ?_ _ | refine blk_drew ?_ | refine blk_alloc ?_ _)); refine blk_put (cs := #[.int .i64 t8032, .int .i64 t8033, .int .i64 t8034, .slice Ao63 t8035.length co63, .int .i64 t8038, .int .i64 t8039, .int .i64 t8040, .int .i64 0, .bool false]) ?_ 7 _ rfl; (with_reducible repeat (first | refine blk_drewN ?_ _ | refine blk_drew ?_ | refine blk_alloc ?_ _)); refine blk_put (cs := #[.int .i64 t8032, .int .i64 t8033, .int .i64 t8034, .slice Ao63 t8035.length co63, .int .i64 t8038, .int .i64 t8039, .int .i64 0, .int .i64 0, .bool false]) ?_ 6 _ rfl; (with_reducible repeat (first | refine blk_drewN ?_ _ | refine blk_drew ?_ | refine blk_alloc ?_ _)); refine blk_put (cs := #[.int .i64 t8032, .int .i64 t8033, .int .i64 t8034, .slice Ao63 t8035.length co63, .int .i64 t8038, .int .i64 0, .int .i64 0, .int .i64 0, .bool false]) ?_ 5 _ rfl; (with_reducible repeat (first | refine blk_drewN ?_ _ | refine blk_drew ?_ | refine blk_alloc ?_ _)); refine blk_put (cs := #[.int .i64 t8032, .int .i64 t8033, .int .i64 t8034, .slice Ao63 t8035.length co63, .int .i64 0, .int .i64 0, .int .i64 0, .int .i64 0, .bool false]) ?_ 4 _ rfl; (with_reducible repeat (first | refine blk_drewN ?_ _ | refine blk_drew ?_ | refine blk_alloc ?_ _)); refine blk_put (cs := #[.int .i64 t8032, .int .i64 t8033, .int .i64 t8034, .slice none 0 0, .int .i64 0, .int .i64 0, .int .i64 0, .int .i64 0, .bool false]) ?_ 3 _ rfl; (with_reducible repeat (first | refine blk_drewN ?_ _ | refine blk_drew ?_ | refine blk_alloc ?_ _)); refine blk_put (cs := #[.int .i64 t8032, .int .i64 t8033, .int .i64 0, .slice none 0 0, .int .i64 0, .int .i64 0, .int .i64 0, .int .i64 0, .bool false]) ?_ 2 _ rfl; (with_reducible repeat (first | refine blk_drewN ?_ _ | refine blk_drew ?_ | refine blk_alloc ?_ _)); refine blk_put (cs := #[.int .i64 t8032, .int .i64 0, .int .i64 0, .slice none 0 0, .int .i64 0, .int .i64 0, .int .i64 0, .int .i64 0, .bool false]) ?_ 1 _ rfl; (with_reducible repeat (first | refine blk_drewN ?_ _ | refine blk_drew ?_ | refine blk_alloc ?_ _)); refine blk_put (cs := #[.int .i64 0, .int .i64 0, .int .i64 0, .slice none 0 0, .int .i64 0, .int .i64 0, .int .i64 0, .int .i64 0, .bool false]) ?_ 0 _ rfl; (with_reducible repeat (first | refine blk_drewN ?_ _ | refine blk_drew ?_ | refine blk_alloc ?_ _)); exact BK8043.out) hb); have n10_ := Aside0.mk (below_step (by repeat (first | (with_reducible first | exact HB.out | apply below_alloc | apply pw_below_drewN | apply below_drew1 | refine below_set ?_ GE8001.out | refine below_set ?_ GE8002.out | refine below_set ?_ GE8031.out | refine below_set ?_ GE8043.out) | exact HB.out)) hb); clear HO8010; clear HO8016; clear HO8024; clear HO8030; clear HO8037; clear BK8001; clear BK8002; clear BK8031; clear BK8043; clear HB; have HO8010 := n0_; have HO8016 := n1_; have HO8024 := n2_; have HO8030 := n3_; have HO8037 := n4_; have HO8046 := n5_; have BK8001 := n6_; have BK8002 := n7_; have BK8031 := n8_; have BK8043 := n9_; have HB := n10_; clear n0_ n1_ n2_ n3_ n4_ n5_ n6_ n7_ n8_ n9_ n10_; (try clear hb); (try clear hb2); (try clear hk); (try clear hi); (try clear ho0); obtain ⟨Ao66, co66, eo66⟩ := Kd.R_slice HO8046.out; subst eo66; obtain ⟨Ao67, co67, eo67⟩ := Kd.R_slice HO8024.out; subst eo67) | ((with_reducible refine gate_callee (f := 43) rfl ?_); refine goesL_ (some 38) rfl rfl Try.func43 (by kernel_rfl) rfl #[.slice Ao66 t8044.length co66, .slice Ao67 t8022.length co67] rfl (by (try simp only [List.map_toArray, List.map_cons, List.map_nil]); first | done | rfl | (simp only [List.length_drop, List.length_take]; rfl)) ?_; (with_reducible refine (laws_eqIntS.calls k _ _ t8044 _ _ t8022 true _ ?side1 ?side2 ?side3 ?side4 A25.out).mono ?_); (case side1 => repeat (first | exact (Kd.R_reads' HO8046.out).2.2 | (with_reducible refine Kd.C_alloc ?_ _) | (with_reducible refine Kd.C_drewN ?_ _) | (with_reducible refine Kd.C_drew ?_))); (case side2 => exact (Kd.R_reads' HO8046.out).2.1); (case side3 => repeat (first | exact (Kd.R_reads' HO8024.out).2.2 | (with_reducible refine Kd.C_alloc ?_ _) | (with_reducible refine Kd.C_drewN ?_ _) | (with_reducible refine Kd.C_drew ?_))); (case side4 => exact (Kd.R_reads' HO8024.out).2.1); rintro e w' ⟨rfl, ⟨nd, rfl⟩⟩; refine ⟨_, rfl, ?_⟩))
            (try (rw [drewN_self w65]; generalize hq_ : World.drewN w65 _ = w65; have n0_ : Aside0 (Kd.R (Kd.int .i64) 3 w65 w.heap.size (fun k_ => some k_ ≠ (.slice Ao47 t8014.length co47 : Value).ownBlock ∧ some k_ ≠ (.slice Ao67 t8022.length co67 : Value).ownBlock ∧ some k_ ≠ (.slice Ao55 t8028.length co55 : Value).ownBlock ∧ some k_ ≠ (.slice Ao63 t8035.length co63 : Value).ownBlock ∧ some k_ ≠ (.slice Ao66 t8044.length co66 : Value).ownBlock) (.slice Ao46 t8008.length co46) t8008) := ⟨by rw [← hq_]; exact (by (with_reducible repeat (first | apply Kd.R_alloc | apply Kd.R_drewN | apply Kd.R_drew)); exact Kd.R_mono HO8010.out (fun _ hk => ⟨hk.1.1.1.1.2, ⟨hk.1.1.1.2, ⟨hk.1.1.2, ⟨hk.1.2, hk.2⟩⟩⟩⟩))⟩; have n1_ : Aside0 (Kd.R (Kd.int .i64) 3 w65 w.heap.size (fun k_ => some k_ ≠ (.slice Ao46 t8008.length co46 : Value).ownBlock ∧ some k_ ≠ (.slice Ao67 t8022.length co67 : Value).ownBlock ∧ some k_ ≠ (.slice Ao55 t8028.length co55 : Value).ownBlock ∧ some k_ ≠ (.slice Ao63 t8035.length co63 : Value).ownBlock ∧ some k_ ≠ (.slice Ao66 t8044.length co66 : Value).ownBlock) (.slice Ao47 t8014.length co47) t8014) := ⟨by rw [← hq_]; exact (by (with_reducible repeat (first | apply Kd.R_alloc | apply Kd.R_drewN | apply Kd.R_drew)); exact Kd.R_mono HO8016.out (fun _ hk => ⟨hk.1.1.1.1.2, ⟨hk.1.1.1.2, ⟨hk.1.1.2, ⟨hk.1.2, hk.2⟩⟩⟩⟩))⟩; have n2_ : Aside0 (Kd.R (Kd.int .i64) 3 w65 w.heap.size (fun k_ => some k_ ≠ (.slice Ao46 t8008.length co46 : Value).ownBlock ∧ some k_ ≠ (.slice Ao47 t8014.length co47 : Value).ownBlock ∧ some k_ ≠ (.slice Ao55 t8028.length co55 : Value).ownBlock ∧ some k_ ≠ (.slice Ao63 t8035.length co63 : Value).ownBlock ∧ some k_ ≠ (.slice Ao66 t8044.length co66 : Value).ownBlock) (.slice Ao67 t8022.length co67) t8022) := ⟨by rw [← hq_]; exact (by (with_reducible repeat (first | apply Kd.R_alloc | apply Kd.R_drewN | apply Kd.R_drew)); exact Kd.R_mono HO8024.out (fun _ hk => ⟨hk.1.1.1.1.2, ⟨hk.1.1.1.2, ⟨hk.1.1.2, ⟨hk.1.2, hk.2⟩⟩⟩⟩))⟩; have n3_ : Aside0 (Kd.R (Kd.int .i64) 3 w65 w.heap.size (fun k_ => some k_ ≠ (.slice Ao46 t8008.length co46 : Value).ownBlock ∧ some k_ ≠ (.slice Ao47 t8014.length co47 : Value).ownBlock ∧ some k_ ≠ (.slice Ao67 t8022.length co67 : Value).ownBlock ∧ some k_ ≠ (.slice Ao63 t8035.length co63 : Value).ownBlock ∧ some k_ ≠ (.slice Ao66 t8044.length co66 : Value).ownBlock) (.slice Ao55 t8028.length co55) t8028) := ⟨by rw [← hq_]; exact (by (with_reducible repeat (first | apply Kd.R_alloc | apply Kd.R_drewN | apply Kd.R_drew)); exact Kd.R_mono HO8030.out (fun _ hk => ⟨hk.1.1.1.1.2, ⟨hk.1.1.1.2, ⟨hk.1.1.2, ⟨hk.1.2, hk.2⟩⟩⟩⟩))⟩; have n4_ : Aside0 (Kd.R (Kd.int .i64) 3 w65 w.heap.size (fun k_ => some k_ ≠ (.slice Ao46 t8008.length co46 : Value).ownBlock ∧ some k_ ≠ (.slice Ao47 t8014.length co47 : Value).ownBlock ∧ some k_ ≠ (.slice Ao67 t8022.length co67 : Value).ownBlock ∧ some k_ ≠ (.slice Ao55 t8028.length co55 : Value).ownBlock ∧ some k_ ≠ (.slice Ao66 t8044.length co66 : Value).ownBlock) (.slice Ao63 t8035.length co63) t8035) := ⟨by rw [← hq_]; exact (by (with_reducible repeat (first | apply Kd.R_alloc | apply Kd.R_drewN | apply Kd.R_drew)); exact Kd.R_mono HO8037.out (fun _ hk => ⟨hk.1.1.1.1.2, ⟨hk.1.1.1.2, ⟨hk.1.1.2, ⟨hk.1.2, hk.2⟩⟩⟩⟩))⟩; have n5_ : Aside0 (Kd.R (Kd.int .i64) 3 w65 w.heap.size (fun k_ => some k_ ≠ (.slice Ao46 t8008.length co46 : Value).ownBlock ∧ some k_ ≠ (.slice Ao47 t8014.length co47 : Value).ownBlock ∧ some k_ ≠ (.slice Ao67 t8022.length co67 : Value).ownBlock ∧ some k_ ≠ (.slice Ao55 t8028.length co55 : Value).ownBlock ∧ some k_ ≠ (.slice Ao63 t8035.length co63 : Value).ownBlock) (.slice Ao66 t8044.length co66) t8044) := ⟨by rw [← hq_]; exact (by (with_reducible repeat (first | apply Kd.R_alloc | apply Kd.R_drewN | apply Kd.R_drew)); exact Kd.R_mono HO8046.out (fun _ hk => ⟨hk.1.1.1.1.2, ⟨hk.1.1.1.2, ⟨hk.1.1.2, ⟨hk.1.2, hk.2⟩⟩⟩⟩))⟩; have n6_ : Aside0 (w65.heap[gb8001]? = some (.cells #[.int .i64 a0_0, .int .i64 a0_1, .int .i64 a0_2, .slice A0_3 l0_3.length c0_3] 24 (0, 0))) := ⟨by rw [← hq_]; exact (by (with_reducible repeat (first | refine blk_drewN ?_ _ | refine blk_drew ?_ | refine blk_alloc ?_ _)); exact BK8001.out)⟩; have n7_ : Aside0 (w65.heap[gb8002]? = some (.cells #[.int .i64 a1_0, .int .i64 a1_1, .int .i64 a1_2, .slice A1_3 l1_3.length c1_3, .int .i64 a1_4, .int .i64 a1_5, .int .i64 a1_6, .int .i64 a1_7, .bool a1_8] 51 (0, 0))) := ⟨by rw [← hq_]; exact (by (with_reducible repeat (first | refine blk_drewN ?_ _ | refine blk_drew ?_ | refine blk_alloc ?_ _)); exact BK8002.out)⟩; have n8_ : Aside0 (w65.heap[gb8031]? = some (.cells #[.int .i64 t8025, .int .i64 t8026, .int .i64 t8027, .slice Ao55 t8028.length co55] 27 (0, 0))) := ⟨by rw [← hq_]; exact (by (with_reducible repeat (first | refine blk_drewN ?_ _ | refine blk_drew ?_ | refine blk_alloc ?_ _)); exact BK8031.out)⟩; have n9_ : Aside0 (w65.heap[gb8043]? = some (.cells #[.int .i64 t8032, .int .i64 t8033, .int .i64 t8034, .slice Ao63 t8035.length co63, .int .i64 t8038, .int .i64 t8039, .int .i64 t8040, .int .i64 t8041, .bool t8042] 55 (0, 0))) := ⟨by rw [← hq_]; exact (by (with_reducible repeat (first | refine blk_drewN ?_ _ | refine blk_drew ?_ | refine blk_alloc ?_ _)); exact BK8043.out)⟩; have n10_ : Aside0 (Below w.heap.size w w65) := ⟨by rw [← hq_]; exact (by repeat (first | (with_reducible first | exact HB.out | apply below_alloc | apply pw_below_drewN | apply below_drew1 | refine below_set ?_ GE8001.out | refine below_set ?_ GE8002.out | refine below_set ?_ GE8031.out | refine below_set ?_ GE8043.out) | exact HB.out))⟩; clear HO8010 HO8016 HO8024 HO8030 HO8037 HO8046 BK8001 BK8002 BK8031 BK8043 HB hq_; have HO8010 := n0_; have HO8016 := n1_; have HO8024 := n2_; have HO8030 := n3_; have HO8037 := n4_; have HO8046 := n5_; have BK8001 := n6_; have BK8002 := n7_; have BK8031 := n8_; have BK8043 := n9_; have HB := n10_; clear n0_ n1_ n2_ n3_ n4_ n5_ n6_ n7_ n8_ n9_ n10_))
            have n0_ := Aside0.mk (Kd.R_drew HO8010.out)
            have n1_ := Aside0.mk (Kd.R_drew HO8016.out)
            have n2_ := Aside0.mk (Kd.R_drew HO8024.out)
            have n3_ := Aside0.mk (Kd.R_drew HO8030.out)
            have n4_ := Aside0.mk (Kd.R_drew HO8037.out)
            have n5_ := Aside0.mk (Kd.R_drew HO8046.out)
            have n6_ := Aside0.mk (blk_drew BK8001.out)
            have n7_ := Aside0.mk (blk_drew BK8002.out)
            have n8_ := Aside0.mk (blk_drew BK8031.out)
            have n9_ := Aside0.mk (blk_drew BK8043.out)
            have n10_ := Aside0.mk (below_drew1 HB.out)
            clear HO8010
            clear HO8016
            clear HO8024
            clear HO8030
            clear HO8037
            clear HO8046
            clear BK8001
            clear BK8002
            clear BK8031
            clear BK8043
            clear HB
            have HO8010 := n0_
            have HO8016 := n1_
            have HO8024 := n2_
            have HO8030 := n3_
            have HO8037 := n4_
            have HO8046 := n5_
            have BK8001 := n6_
            have BK8002 := n7_
            have BK8031 := n8_
            have BK8043 := n9_
            have HB := n10_
            clear n0_ n1_ n2_ n3_ n4_ n5_ n6_ n7_ n8_ n9_ n10_
            refine start_ (n := 5) (S := fun w' => w'.cell? ⟨gb8031, 0, none⟩ = some (.int .i64 t8025) ∧ w'.cell? ⟨gb8031, 1, none⟩ = some (.int .i64 t8026) ∧ w'.cell? ⟨gb8031, 2, none⟩ = some (.int .i64 t8027) ∧ w'.cell? ⟨gb8031, 3, none⟩ = some (.slice Ao55 t8028.length co55) ∧ w'.cell? ⟨gb8001, 0, none⟩ = some (.int .i64 a0_0) ∧ w'.cell? ⟨gb8001, 1, none⟩ = some (.int .i64 a0_1) ∧ w'.cell? ⟨gb8001, 2, none⟩ = some (.int .i64 a0_2) ∧ w'.cell? ⟨gb8001, 3, none⟩ = some (.slice A0_3 l0_3.length c0_3)) (ds := []) #[false, false, false, false, false] (by kernel_rfl) rfl rfl ⟨(blk_cell BK8031.out 0).trans rfl, (blk_cell BK8031.out 1).trans rfl, (blk_cell BK8031.out 2).trans rfl, (blk_cell BK8031.out 3).trans rfl, (blk_cell BK8001.out 0).trans rfl, (blk_cell BK8001.out 1).trans rfl, (blk_cell BK8001.out 2).trans rfl, (blk_cell BK8001.out 3).trans rfl⟩ (fun hHeld => ?_)
            generalize w65.drew = w68 at HO8010 HO8016 HO8024 HO8030 HO8037 HO8046 BK8001 BK8002 BK8031 BK8043 HB hHeld ⊢
            refine take_ (i := 0) (N := some 40) (v := ?_) (a' := ?_) #[true, false, false, false, false] rfl rfl (by kernel_rfl) (fun _ _ _ h => h) (Or.inl ⟨by rfl, ?_⟩) hHeld ?_ ?_
            rotate_left
            · rintro w' ⟨s0, s1, s2, s3, s4, s5, s6, s7⟩
              go_simp
              with_reducible rfl
            rotate_left
            · simp only [Act.put, List.setIfInBounds_toArray, List.set_cons_zero, List.set_cons_succ, i64_w, i32_w]
              rfl
            refine take_ (i := 1) (N := some 41) (v := ?_) (a' := ?_) #[true, true, false, false, false] rfl rfl (by kernel_rfl) (fun _ _ _ h => h) (Or.inl ⟨by rfl, ?_⟩) hHeld ?_ ?_
            rotate_left
            · rintro w' ⟨s0, s1, s2, s3, s4, s5, s6, s7⟩
              go_simp
              with_reducible rfl
            rotate_left
            · simp only [Act.put, List.setIfInBounds_toArray, List.set_cons_zero, List.set_cons_succ, i64_w, i32_w]
              rfl
            refine one_ (i := 2) (N := some 42) #[true, true, true, false, false] rfl rfl (by kernel_rfl) (by decide) (fun K hK => ?_)
            refine goes_ Try.func22 (by kernel_rfl) rfl #[.agg #[.int .i64 a0_0, .int .i64 a0_1, .int .i64 a0_2, .slice A0_3 l0_3.length c0_3]] (by rfl) rfl rfl (by (try simp only [List.map_toArray, List.map_cons, List.map_nil]); first | done | rfl | (simp only [List.length_drop, List.length_take]; rfl)) ?_
            with_reducible refine (laws_toImage.calls k a0_0 a0_1 a0_2 _ _ l0_3 t8048 t8049 t8050 t8051 _ ?side1 ?side2 A27.out).mono ?_
            (case side1 => repeat (first | exact (Kd.C_below HR0_3.out HB.out) | (with_reducible refine Kd.C_alloc ?_ _) | (with_reducible refine Kd.C_drewN ?_ _) | (with_reducible refine Kd.C_drew ?_)))
            (case side2 => exact HC0_3.out)
            rintro e w69 ⟨v8052, rfl, ho0, hb⟩
            refine ⟨_, rfl, ?_⟩
            have n0_ := Aside0.mk (Kd.R_elder' (by (with_reducible repeat (first | apply Kd.R_alloc | apply Kd.R_drewN | apply Kd.R_drew)); exact HO8010.out) (Kd.R_base ho0) hb)
            have n1_ := Aside0.mk (Kd.R_elder' (by (with_reducible repeat (first | apply Kd.R_alloc | apply Kd.R_drewN | apply Kd.R_drew)); exact HO8016.out) (Kd.R_base ho0) hb)
            have n2_ := Aside0.mk (Kd.R_elder' (by (with_reducible repeat (first | apply Kd.R_alloc | apply Kd.R_drewN | apply Kd.R_drew)); exact HO8024.out) (Kd.R_base ho0) hb)
            have n3_ := Aside0.mk (Kd.R_elder' (by (with_reducible repeat (first | apply Kd.R_alloc | apply Kd.R_drewN | apply Kd.R_drew)); exact HO8030.out) (Kd.R_base ho0) hb)
            have n4_ := Aside0.mk (Kd.R_elder' (by (with_reducible repeat (first | apply Kd.R_alloc | apply Kd.R_drewN | apply Kd.R_drew)); exact HO8037.out) (Kd.R_base ho0) hb)
            have n5_ := Aside0.mk (Kd.R_elder' (by (with_reducible repeat (first | apply Kd.R_alloc | apply Kd.R_drewN | apply Kd.R_drew)); exact HO8046.out) (Kd.R_base ho0) hb)
            have n6_ := Aside0.mk (Kd.R_lower (Kd.R_new' (Kd.R_new' (Kd.R_new' (Kd.R_new' (Kd.R_new' (Kd.R_new' ho0 (Kd.R_lt (by (with_reducible repeat (first | apply Kd.R_alloc | apply Kd.R_drewN | apply Kd.R_drew)); exact HO8010.out))) (Kd.R_lt (by (with_reducible repeat (first | apply Kd.R_alloc | apply Kd.R_drewN | apply Kd.R_drew)); exact HO8016.out))) (Kd.R_lt (by (with_reducible repeat (first | apply Kd.R_alloc | apply Kd.R_drewN | apply Kd.R_drew)); exact HO8024.out))) (Kd.R_lt (by (with_reducible repeat (first | apply Kd.R_alloc | apply Kd.R_drewN | apply Kd.R_drew)); exact HO8030.out))) (Kd.R_lt (by (with_reducible repeat (first | apply Kd.R_alloc | apply Kd.R_drewN | apply Kd.R_drew)); exact HO8037.out))) (Kd.R_lt (by (with_reducible repeat (first | apply Kd.R_alloc | apply Kd.R_drewN | apply Kd.R_drew)); exact HO8046.out))) (below_size (by repeat (first | (with_reducible first | exact HB.out | apply below_alloc | apply pw_below_drewN | apply below_drew1 | refine below_set ?_ GE8001.out | refine below_set ?_ GE8002.out | refine below_set ?_ GE8031.out | refine below_set ?_ GE8043.out) | exact HB.out))))
            have n7_ := Aside0.mk (blk_below (g := gb8001) (o := .cells #[.int .i64 a0_0, .int .i64 a0_1, .int .i64 a0_2, .slice A0_3 l0_3.length c0_3] 24 (0, 0)) (by (with_reducible repeat (first | refine blk_drewN ?_ _ | refine blk_drew ?_ | refine blk_alloc ?_ _)); exact BK8001.out) hb)
            have n8_ := Aside0.mk (blk_below (g := gb8002) (o := .cells #[.int .i64 a1_0, .int .i64 a1_1, .int .i64 a1_2, .slice A1_3 l1_3.length c1_3, .int .i64 a1_4, .int .i64 a1_5, .int .i64 a1_6, .int .i64 a1_7, .bool a1_8] 51 (0, 0)) (by (with_reducible repeat (first | refine blk_drewN ?_ _ | refine blk_drew ?_ | refine blk_alloc ?_ _)); exact BK8002.out) hb)
            have n9_ := Aside0.mk (blk_below (g := gb8031) (o := .cells #[.int .i64 t8025, .int .i64 t8026, .int .i64 t8027, .slice Ao55 t8028.length co55] 27 (0, 0)) (by (with_reducible repeat (first | refine blk_drewN ?_ _ | refine blk_drew ?_ | refine blk_alloc ?_ _)); exact BK8031.out) hb)
            have n10_ := Aside0.mk (blk_below (g := gb8043) (o := .cells #[.int .i64 t8032, .int .i64 t8033, .int .i64 t8034, .slice Ao63 t8035.length co63, .int .i64 t8038, .int .i64 t8039, .int .i64 t8040, .int .i64 t8041, .bool t8042] 55 (0, 0)) (by (with_reducible repeat (first | refine blk_drewN ?_ _ | refine blk_drew ?_ | refine blk_alloc ?_ _)); exact BK8043.out) hb)
            have n11_ := Aside0.mk (below_step (by repeat (first | (with_reducible first | exact HB.out | apply below_alloc | apply pw_below_drewN | apply below_drew1 | refine below_set ?_ GE8001.out | refine below_set ?_ GE8002.out | refine below_set ?_ GE8031.out | refine below_set ?_ GE8043.out) | exact HB.out)) hb)
            clear HO8010
            clear HO8016
            clear HO8024
            clear HO8030
            clear HO8037
            clear HO8046
            clear BK8001
            clear BK8002
            clear BK8031
            clear BK8043
            clear HB
            have HO8010 := n0_
            have HO8016 := n1_
            have HO8024 := n2_
            have HO8030 := n3_
            have HO8037 := n4_
            have HO8046 := n5_
            have HO8053 := n6_
            have BK8001 := n7_
            have BK8002 := n8_
            have BK8031 := n9_
            have BK8043 := n10_
            have HB := n11_
            clear n0_ n1_ n2_ n3_ n4_ n5_ n6_ n7_ n8_ n9_ n10_ n11_
            (try clear hb)
            (try clear hb2)
            (try clear hk)
            (try clear hi)
            (try clear ho0)
            obtain ⟨Ao70, co70, eo70⟩ := Kd.R_slice HO8053.out
            (first | subst eo70 | (injection eo70 with f1_ f2_ f3_; have f4_ := f1_.symm; have f5_ := f3_.symm; clear f1_ f2_ f3_; subst f4_; subst f5_))
            refine hK.out _ _ ⟨(blk_cell BK8031.out 0).trans rfl, (blk_cell BK8031.out 1).trans rfl, (blk_cell BK8031.out 2).trans rfl, (blk_cell BK8031.out 3).trans rfl, (blk_cell BK8001.out 0).trans rfl, (blk_cell BK8001.out 1).trans rfl, (blk_cell BK8001.out 2).trans rfl, (blk_cell BK8001.out 3).trans rfl⟩ (fun hHeld => ?_)
            clear hK K
            refine norm_ (a' := ?_) ?_ ?_
            rotate_left
            · show Act.put _ (some 42) _ = _
              simp only [Act.put, List.setIfInBounds_toArray, List.set_cons_zero, List.set_cons_succ, i64_w, i32_w]
              rfl
            refine one_ (i := 3) (N := some 43) #[true, true, true, true, false] rfl rfl (by kernel_rfl) (by decide) (fun K hK => ?_)
            refine goes_ Try.func24 (by kernel_rfl) rfl #[.agg #[.int .i64 t8025, .int .i64 t8026, .int .i64 t8027, .slice Ao55 t8028.length co55], .agg #[.int .i64 t8048, .int .i64 t8049, .int .i64 t8050, .slice Ao70 t8051.length co70]] (by rfl) rfl rfl (by (try simp only [List.map_toArray, List.map_cons, List.map_nil]); first | done | rfl | (simp only [List.length_drop, List.length_take]; rfl)) ?_
            with_reducible refine (laws_eqImage.calls k t8025 t8026 t8027 _ _ t8028 t8048 t8049 t8050 _ _ t8051 true _ ?side1 ?side2 ?side3 ?side4 A28.out rfl).mono ?_
            (case side1 => repeat (first | exact (Kd.R_reads' HO8030.out).2.2 | (with_reducible refine Kd.C_alloc ?_ _) | (with_reducible refine Kd.C_drewN ?_ _) | (with_reducible refine Kd.C_drew ?_)))
            (case side2 => exact (Kd.R_reads' HO8030.out).2.1)
            (case side3 => repeat (first | exact (Kd.R_reads' HO8053.out).2.2 | (with_reducible refine Kd.C_alloc ?_ _) | (with_reducible refine Kd.C_drewN ?_ _) | (with_reducible refine Kd.C_drew ?_)))
            (case side4 => exact (Kd.R_reads' HO8053.out).2.1)
            rintro e w71 ⟨rfl, hb⟩
            refine ⟨_, rfl, ?_⟩
            have n0_ := Aside0.mk (Kd.R_below (by (with_reducible repeat (first | apply Kd.R_alloc | apply Kd.R_drewN | apply Kd.R_drew)); exact HO8010.out) hb)
            have n1_ := Aside0.mk (Kd.R_below (by (with_reducible repeat (first | apply Kd.R_alloc | apply Kd.R_drewN | apply Kd.R_drew)); exact HO8016.out) hb)
            have n2_ := Aside0.mk (Kd.R_below (by (with_reducible repeat (first | apply Kd.R_alloc | apply Kd.R_drewN | apply Kd.R_drew)); exact HO8024.out) hb)
            have n3_ := Aside0.mk (Kd.R_below (by (with_reducible repeat (first | apply Kd.R_alloc | apply Kd.R_drewN | apply Kd.R_drew)); exact HO8030.out) hb)
            have n4_ := Aside0.mk (Kd.R_below (by (with_reducible repeat (first | apply Kd.R_alloc | apply Kd.R_drewN | apply Kd.R_drew)); exact HO8037.out) hb)
            have n5_ := Aside0.mk (Kd.R_below (by (with_reducible repeat (first | apply Kd.R_alloc | apply Kd.R_drewN | apply Kd.R_drew)); exact HO8046.out) hb)
            have n6_ := Aside0.mk (Kd.R_below (by (with_reducible repeat (first | apply Kd.R_alloc | apply Kd.R_drewN | apply Kd.R_drew)); exact HO8053.out) hb)
            have n7_ := Aside0.mk (blk_below (g := gb8001) (o := .cells #[.int .i64 a0_0, .int .i64 a0_1, .int .i64 a0_2, .slice A0_3 l0_3.length c0_3] 24 (0, 0)) (by (with_reducible repeat (first | refine blk_drewN ?_ _ | refine blk_drew ?_ | refine blk_alloc ?_ _)); exact BK8001.out) hb)
            have n8_ := Aside0.mk (blk_below (g := gb8002) (o := .cells #[.int .i64 a1_0, .int .i64 a1_1, .int .i64 a1_2, .slice A1_3 l1_3.length c1_3, .int .i64 a1_4, .int .i64 a1_5, .int .i64 a1_6, .int .i64 a1_7, .bool a1_8] 51 (0, 0)) (by (with_reducible repeat (first | refine blk_drewN ?_ _ | refine blk_drew ?_ | refine blk_alloc ?_ _)); exact BK8002.out) hb)
            have n9_ := Aside0.mk (blk_below (g := gb8031) (o := .cells #[.int .i64 t8025, .int .i64 t8026, .int .i64 t8027, .slice Ao55 t8028.length co55] 27 (0, 0)) (by (with_reducible repeat (first | refine blk_drewN ?_ _ | refine blk_drew ?_ | refine blk_alloc ?_ _)); exact BK8031.out) hb)
            have n10_ := Aside0.mk (blk_below (g := gb8043) (o := .cells #[.int .i64 t8032, .int .i64 t8033, .int .i64 t8034, .slice Ao63 t8035.length co63, .int .i64 t8038, .int .i64 t8039, .int .i64 t8040, .int .i64 t8041, .bool t8042] 55 (0, 0)) (by (with_reducible repeat (first | refine blk_drewN ?_ _ | refine blk_drew ?_ | refine blk_alloc ?_ _)); exact BK8043.out) hb)
            have n11_ := Aside0.mk (below_step (by repeat (first | (with_reducible first | exact HB.out | apply below_alloc | apply pw_below_drewN | apply below_drew1 | refine below_set ?_ GE8001.out | refine below_set ?_ GE8002.out | refine below_set ?_ GE8031.out | refine below_set ?_ GE8043.out) | exact HB.out)) hb)
            clear HO8010
            clear HO8016
            clear HO8024
            clear HO8030
            clear HO8037
            clear HO8046
            clear HO8053
            clear BK8001
            clear BK8002
            clear BK8031
            clear BK8043
            clear HB
            have HO8010 := n0_
            have HO8016 := n1_
            have HO8024 := n2_
            have HO8030 := n3_
            have HO8037 := n4_
            have HO8046 := n5_
            have HO8053 := n6_
            have BK8001 := n7_
            have BK8002 := n8_
            have BK8031 := n9_
            have BK8043 := n10_
            have HB := n11_
            clear n0_ n1_ n2_ n3_ n4_ n5_ n6_ n7_ n8_ n9_ n10_ n11_
            (try clear hb)
            (try clear hb2)
            (try clear hk)
            (try clear hi)
            refine hK.out _ _ ⟨(blk_cell BK8031.out 0).trans rfl, (blk_cell BK8031.out 1).trans rfl, (blk_cell BK8031.out 2).trans rfl, (blk_cell BK8031.out 3).trans rfl, (blk_cell BK8001.out 0).trans rfl, (blk_cell BK8001.out 1).trans rfl, (blk_cell BK8001.out 2).trans rfl, (blk_cell BK8001.out 3).trans rfl⟩ (fun hHeld => ?_)
            clear hK K
            refine norm_ (a' := ?_) ?_ ?_
            rotate_left
            · show Act.put _ (some 43) _ = _
              simp only [Act.put, List.setIfInBounds_toArray, List.set_cons_zero, List.set_cons_succ, i64_w, i32_w]
              rfl
            refine pure_ (i := 4) (N := some 44) (v := ?_) (a' := ?_) #[true, true, true, true, true] rfl rfl (by kernel_rfl) (fun _ _ _ h => h) (Or.inl ⟨by rfl, ?_⟩) ?_ ?_
            rotate_left
            · intro w'
              go_simp
              with_reducible rfl
            rotate_left
            · simp only [Act.put, List.setIfInBounds_toArray, List.set_cons_zero, List.set_cons_succ, i64_w, i32_w]
              rfl
            refine done_ (by kernel_rfl) ?_
            try go_wp2
            have n0_ := Aside0.mk (Kd.R_drew HO8010.out)
            have n1_ := Aside0.mk (Kd.R_drew HO8016.out)
            have n2_ := Aside0.mk (Kd.R_drew HO8024.out)
            have n3_ := Aside0.mk (Kd.R_drew HO8030.out)
            have n4_ := Aside0.mk (Kd.R_drew HO8037.out)
            have n5_ := Aside0.mk (Kd.R_drew HO8046.out)
            have n6_ := Aside0.mk (Kd.R_drew HO8053.out)
            have n7_ := Aside0.mk (blk_drew BK8001.out)
            have n8_ := Aside0.mk (blk_drew BK8002.out)
            have n9_ := Aside0.mk (blk_drew BK8031.out)
            have n10_ := Aside0.mk (blk_drew BK8043.out)
            have n11_ := Aside0.mk (below_drew1 HB.out)
            clear HO8010
            clear HO8016
            clear HO8024
            clear HO8030
            clear HO8037
            clear HO8046
            clear HO8053
            clear BK8001
            clear BK8002
            clear BK8031
            clear BK8043
            clear HB
            have HO8010 := n0_
            have HO8016 := n1_
            have HO8024 := n2_
            have HO8030 := n3_
            have HO8037 := n4_
            have HO8046 := n5_
            have HO8053 := n6_
            have BK8001 := n7_
            have BK8002 := n8_
            have BK8031 := n9_
            have BK8043 := n10_
            have HB := n11_
            clear n0_ n1_ n2_ n3_ n4_ n5_ n6_ n7_ n8_ n9_ n10_ n11_
            refine start_ (n := 5) (S := fun w' => w'.cell? ⟨gb8043, 0, none⟩ = some (.int .i64 t8032) ∧ w'.cell? ⟨gb8043, 1, none⟩ = some (.int .i64 t8033) ∧ w'.cell? ⟨gb8043, 2, none⟩ = some (.int .i64 t8034) ∧ w'.cell? ⟨gb8043, 3, none⟩ = some (.slice Ao63 t8035.length co63) ∧ w'.cell? ⟨gb8043, 4, none⟩ = some (.int .i64 t8038) ∧ w'.cell? ⟨gb8043, 5, none⟩ = some (.int .i64 t8039) ∧ w'.cell? ⟨gb8043, 6, none⟩ = some (.int .i64 t8040) ∧ w'.cell? ⟨gb8043, 7, none⟩ = some (.int .i64 t8041) ∧ w'.cell? ⟨gb8043, 8, none⟩ = some (.bool t8042) ∧ w'.cell? ⟨gb8002, 0, none⟩ = some (.int .i64 a1_0) ∧ w'.cell? ⟨gb8002, 1, none⟩ = some (.int .i64 a1_1) ∧ w'.cell? ⟨gb8002, 2, none⟩ = some (.int .i64 a1_2) ∧ w'.cell? ⟨gb8002, 3, none⟩ = some (.slice A1_3 l1_3.length c1_3) ∧ w'.cell? ⟨gb8002, 4, none⟩ = some (.int .i64 a1_4) ∧ w'.cell? ⟨gb8002, 5, none⟩ = some (.int .i64 a1_5) ∧ w'.cell? ⟨gb8002, 6, none⟩ = some (.int .i64 a1_6) ∧ w'.cell? ⟨gb8002, 7, none⟩ = some (.int .i64 a1_7) ∧ w'.cell? ⟨gb8002, 8, none⟩ = some (.bool a1_8)) (ds := []) #[false, false, false, false, false] (by kernel_rfl) rfl rfl ⟨(blk_cell BK8043.out 0).trans rfl, (blk_cell BK8043.out 1).trans rfl, (blk_cell BK8043.out 2).trans rfl, (blk_cell BK8043.out 3).trans rfl, (blk_cell BK8043.out 4).trans rfl, (blk_cell BK8043.out 5).trans rfl, (blk_cell BK8043.out 6).trans rfl, (blk_cell BK8043.out 7).trans rfl, (blk_cell BK8043.out 8).trans rfl, (blk_cell BK8002.out 0).trans rfl, (blk_cell BK8002.out 1).trans rfl, (blk_cell BK8002.out 2).trans rfl, (blk_cell BK8002.out 3).trans rfl, (blk_cell BK8002.out 4).trans rfl, (blk_cell BK8002.out 5).trans rfl, (blk_cell BK8002.out 6).trans rfl, (blk_cell BK8002.out 7).trans rfl, (blk_cell BK8002.out 8).trans rfl⟩ (fun hHeld => ?_)
            generalize w71.drew = w72 at HO8010 HO8016 HO8024 HO8030 HO8037 HO8046 HO8053 BK8001 BK8002 BK8031 BK8043 HB hHeld ⊢
            refine take_ (i := 0) (N := some 45) (v := ?_) (a' := ?_) #[true, false, false, false, false] rfl rfl (by kernel_rfl) (fun _ _ _ h => h) (Or.inl ⟨by rfl, ?_⟩) hHeld ?_ ?_
            rotate_left
            · rintro w' ⟨s0, s1, s2, s3, s4, s5, s6, s7, s8, s9, s10, s11, s12, s13, s14, s15, s16, s17⟩
              go_simp
              with_reducible rfl
            rotate_left
            · simp only [Act.put, List.setIfInBounds_toArray, List.set_cons_zero, List.set_cons_succ, i64_w, i32_w]
              rfl
            refine take_ (i := 1) (N := some 46) (v := ?_) (a' := ?_) #[true, true, false, false, false] rfl rfl (by kernel_rfl) (fun _ _ _ h => h) (Or.inl ⟨by rfl, ?_⟩) hHeld ?_ ?_
            rotate_left
            · rintro w' ⟨s0, s1, s2, s3, s4, s5, s6, s7, s8, s9, s10, s11, s12, s13, s14, s15, s16, s17⟩
              go_simp
              with_reducible rfl
            rotate_left
            · simp only [Act.put, List.setIfInBounds_toArray, List.set_cons_zero, List.set_cons_succ, i64_w, i32_w]
              rfl
            refine one_ (i := 2) (N := some 47) #[true, true, true, false, false] rfl rfl (by kernel_rfl) (by decide) (fun K hK => ?_)
            refine goes_ Try.func41 (by kernel_rfl) rfl #[.agg #[.int .i64 a1_0, .int .i64 a1_1, .int .i64 a1_2, .slice A1_3 l1_3.length c1_3, .int .i64 a1_4, .int .i64 a1_5, .int .i64 a1_6, .int .i64 a1_7, .bool a1_8]] (by rfl) rfl rfl (by (try simp only [List.map_toArray, List.map_cons, List.map_nil]); first | done | rfl | (simp only [List.length_drop, List.length_take]; rfl)) ?_
            with_reducible refine (laws_toLayer.calls k a1_0 a1_1 a1_2 _ _ l1_3 a1_4 a1_5 a1_6 a1_7 a1_8 t8055 t8056 t8057 t8058 t8061 t8062 t8063 t8064 t8065 _ ?side1 ?side2 A30.out).mono ?_
            (case side1 => repeat (first | exact (Kd.C_below HR1_3.out HB.out) | (with_reducible refine Kd.C_alloc ?_ _) | (with_reducible refine Kd.C_drewN ?_ _) | (with_reducible refine Kd.C_drew ?_)))
            (case side2 => exact HC1_3.out)
            rintro e w73 ⟨v8059, rfl, ho0, hb⟩
            refine ⟨_, rfl, ?_⟩
            have n0_ := Aside0.mk (Kd.R_elder' (by (with_reducible repeat (first | apply Kd.R_alloc | apply Kd.R_drewN | apply Kd.R_drew)); exact HO8010.out) (Kd.R_base ho0) hb)
            have n1_ := Aside0.mk (Kd.R_elder' (by (with_reducible repeat (first | apply Kd.R_alloc | apply Kd.R_drewN | apply Kd.R_drew)); exact HO8016.out) (Kd.R_base ho0) hb)
            have n2_ := Aside0.mk (Kd.R_elder' (by (with_reducible repeat (first | apply Kd.R_alloc | apply Kd.R_drewN | apply Kd.R_drew)); exact HO8024.out) (Kd.R_base ho0) hb)
            have n3_ := Aside0.mk (Kd.R_elder' (by (with_reducible repeat (first | apply Kd.R_alloc | apply Kd.R_drewN | apply Kd.R_drew)); exact HO8030.out) (Kd.R_base ho0) hb)
            have n4_ := Aside0.mk (Kd.R_elder' (by (with_reducible repeat (first | apply Kd.R_alloc | apply Kd.R_drewN | apply Kd.R_drew)); exact HO8037.out) (Kd.R_base ho0) hb)
            have n5_ := Aside0.mk (Kd.R_elder' (by (with_reducible repeat (first | apply Kd.R_alloc | apply Kd.R_drewN | apply Kd.R_drew)); exact HO8046.out) (Kd.R_base ho0) hb)
            have n6_ := Aside0.mk (Kd.R_elder' (by (with_reducible repeat (first | apply Kd.R_alloc | apply Kd.R_drewN | apply Kd.R_drew)); exact HO8053.out) (Kd.R_base ho0) hb)
            have n7_ := Aside0.mk (Kd.R_lower (Kd.R_new' (Kd.R_new' (Kd.R_new' (Kd.R_new' (Kd.R_new' (Kd.R_new' (Kd.R_new' ho0 (Kd.R_lt (by (with_reducible repeat (first | apply Kd.R_alloc | apply Kd.R_drewN | apply Kd.R_drew)); exact HO8010.out))) (Kd.R_lt (by (with_reducible repeat (first | apply Kd.R_alloc | apply Kd.R_drewN | apply Kd.R_drew)); exact HO8016.out))) (Kd.R_lt (by (with_reducible repeat (first | apply Kd.R_alloc | apply Kd.R_drewN | apply Kd.R_drew)); exact HO8024.out))) (Kd.R_lt (by (with_reducible repeat (first | apply Kd.R_alloc | apply Kd.R_drewN | apply Kd.R_drew)); exact HO8030.out))) (Kd.R_lt (by (with_reducible repeat (first | apply Kd.R_alloc | apply Kd.R_drewN | apply Kd.R_drew)); exact HO8037.out))) (Kd.R_lt (by (with_reducible repeat (first | apply Kd.R_alloc | apply Kd.R_drewN | apply Kd.R_drew)); exact HO8046.out))) (Kd.R_lt (by (with_reducible repeat (first | apply Kd.R_alloc | apply Kd.R_drewN | apply Kd.R_drew)); exact HO8053.out))) (below_size (by repeat (first | (with_reducible first | exact HB.out | apply below_alloc | apply pw_below_drewN | apply below_drew1 | refine below_set ?_ GE8001.out | refine below_set ?_ GE8002.out | refine below_set ?_ GE8031.out | refine below_set ?_ GE8043.out) | exact HB.out))))
            have n8_ := Aside0.mk (blk_below (g := gb8001) (o := .cells #[.int .i64 a0_0, .int .i64 a0_1, .int .i64 a0_2, .slice A0_3 l0_3.length c0_3] 24 (0, 0)) (by (with_reducible repeat (first | refine blk_drewN ?_ _ | refine blk_drew ?_ | refine blk_alloc ?_ _)); exact BK8001.out) hb)
            have n9_ := Aside0.mk (blk_below (g := gb8002) (o := .cells #[.int .i64 a1_0, .int .i64 a1_1, .int .i64 a1_2, .slice A1_3 l1_3.length c1_3, .int .i64 a1_4, .int .i64 a1_5, .int .i64 a1_6, .int .i64 a1_7, .bool a1_8] 51 (0, 0)) (by (with_reducible repeat (first | refine blk_drewN ?_ _ | refine blk_drew ?_ | refine blk_alloc ?_ _)); exact BK8002.out) hb)
            have n10_ := Aside0.mk (blk_below (g := gb8031) (o := .cells #[.int .i64 t8025, .int .i64 t8026, .int .i64 t8027, .slice Ao55 t8028.length co55] 27 (0, 0)) (by (with_reducible repeat (first | refine blk_drewN ?_ _ | refine blk_drew ?_ | refine blk_alloc ?_ _)); exact BK8031.out) hb)
            have n11_ := Aside0.mk (blk_below (g := gb8043) (o := .cells #[.int .i64 t8032, .int .i64 t8033, .int .i64 t8034, .slice Ao63 t8035.length co63, .int .i64 t8038, .int .i64 t8039, .int .i64 t8040, .int .i64 t8041, .bool t8042] 55 (0, 0)) (by (with_reducible repeat (first | refine blk_drewN ?_ _ | refine blk_drew ?_ | refine blk_alloc ?_ _)); exact BK8043.out) hb)
            have n12_ := Aside0.mk (below_step (by repeat (first | (with_reducible first | exact HB.out | apply below_alloc | apply pw_below_drewN | apply below_drew1 | refine below_set ?_ GE8001.out | refine below_set ?_ GE8002.out | refine below_set ?_ GE8031.out | refine below_set ?_ GE8043.out) | exact HB.out)) hb)
            clear HO8010
            clear HO8016
            clear HO8024
            clear HO8030
            clear HO8037
            clear HO8046
            clear HO8053
            clear BK8001
            clear BK8002
            clear BK8031
            clear BK8043
            clear HB
            have HO8010 := n0_
            have HO8016 := n1_
            have HO8024 := n2_
            have HO8030 := n3_
            have HO8037 := n4_
            have HO8046 := n5_
            have HO8053 := n6_
            have HO8060 := n7_
            have BK8001 := n8_
            have BK8002 := n9_
            have BK8031 := n10_
            have BK8043 := n11_
            have HB := n12_
            clear n0_ n1_ n2_ n3_ n4_ n5_ n6_ n7_ n8_ n9_ n10_ n11_ n12_
            (try clear hb)
            (try clear hb2)
            (try clear hk)
            (try clear hi)
            (try clear ho0)
            obtain ⟨Ao74, co74, eo74⟩ := Kd.R_slice HO8060.out
            (first | subst eo74 | (injection eo74 with f1_ f2_ f3_; have f4_ := f1_.symm; have f5_ := f3_.symm; clear f1_ f2_ f3_; subst f4_; subst f5_))
            refine hK.out _ _ ⟨(blk_cell BK8043.out 0).trans rfl, (blk_cell BK8043.out 1).trans rfl, (blk_cell BK8043.out 2).trans rfl, (blk_cell BK8043.out 3).trans rfl, (blk_cell BK8043.out 4).trans rfl, (blk_cell BK8043.out 5).trans rfl, (blk_cell BK8043.out 6).trans rfl, (blk_cell BK8043.out 7).trans rfl, (blk_cell BK8043.out 8).trans rfl, (blk_cell BK8002.out 0).trans rfl, (blk_cell BK8002.out 1).trans rfl, (blk_cell BK8002.out 2).trans rfl, (blk_cell BK8002.out 3).trans rfl, (blk_cell BK8002.out 4).trans rfl, (blk_cell BK8002.out 5).trans rfl, (blk_cell BK8002.out 6).trans rfl, (blk_cell BK8002.out 7).trans rfl, (blk_cell BK8002.out 8).trans rfl⟩ (fun hHeld => ?_)
            clear hK K
            refine norm_ (a' := ?_) ?_ ?_
            rotate_left
            · show Act.put _ (some 47) _ = _
              simp only [Act.put, List.setIfInBounds_toArray, List.set_cons_zero, List.set_cons_succ, i64_w, i32_w]
              rfl
            refine one_ (i := 3) (N := some 48) #[true, true, true, true, false] rfl rfl (by kernel_rfl) (by decide) (fun K hK => ?_)
            refine goes_ Try.func44 (by kernel_rfl) rfl #[.agg #[.int .i64 t8032, .int .i64 t8033, .int .i64 t8034, .slice Ao63 t8035.length co63, .int .i64 t8038, .int .i64 t8039, .int .i64 t8040, .int .i64 t8041, .bool t8042], .agg #[.int .i64 t8055, .int .i64 t8056, .int .i64 t8057, .slice Ao74 t8058.length co74, .int .i64 t8061, .int .i64 t8062, .int .i64 t8063, .int .i64 t8064, .bool t8065]] (by rfl) rfl rfl (by (try simp only [List.map_toArray, List.map_cons, List.map_nil]); first | done | rfl | (simp only [List.length_drop, List.length_take]; rfl)) ?_
            with_reducible refine (laws_eqLayer.calls k t8032 t8033 t8034 _ _ t8035 t8038 t8039 t8040 t8041 t8042 t8055 t8056 t8057 _ _ t8058 t8061 t8062 t8063 t8064 t8065 true _ ?side1 ?side2 ?side3 ?side4 A31.out rfl).mono ?_
            (case side1 => repeat (first | exact (Kd.R_reads' HO8037.out).2.2 | (with_reducible refine Kd.C_alloc ?_ _) | (with_reducible refine Kd.C_drewN ?_ _) | (with_reducible refine Kd.C_drew ?_)))
            (case side2 => exact (Kd.R_reads' HO8037.out).2.1)
            (case side3 => repeat (first | exact (Kd.R_reads' HO8060.out).2.2 | (with_reducible refine Kd.C_alloc ?_ _) | (with_reducible refine Kd.C_drewN ?_ _) | (with_reducible refine Kd.C_drew ?_)))
            (case side4 => exact (Kd.R_reads' HO8060.out).2.1)
            rintro e w75 ⟨rfl, hb⟩
            refine ⟨_, rfl, ?_⟩
            have n0_ := Aside0.mk (Kd.R_below (by (with_reducible repeat (first | apply Kd.R_alloc | apply Kd.R_drewN | apply Kd.R_drew)); exact HO8010.out) hb)
            have n1_ := Aside0.mk (Kd.R_below (by (with_reducible repeat (first | apply Kd.R_alloc | apply Kd.R_drewN | apply Kd.R_drew)); exact HO8016.out) hb)
            have n2_ := Aside0.mk (Kd.R_below (by (with_reducible repeat (first | apply Kd.R_alloc | apply Kd.R_drewN | apply Kd.R_drew)); exact HO8024.out) hb)
            have n3_ := Aside0.mk (Kd.R_below (by (with_reducible repeat (first | apply Kd.R_alloc | apply Kd.R_drewN | apply Kd.R_drew)); exact HO8030.out) hb)
            have n4_ := Aside0.mk (Kd.R_below (by (with_reducible repeat (first | apply Kd.R_alloc | apply Kd.R_drewN | apply Kd.R_drew)); exact HO8037.out) hb)
            have n5_ := Aside0.mk (Kd.R_below (by (with_reducible repeat (first | apply Kd.R_alloc | apply Kd.R_drewN | apply Kd.R_drew)); exact HO8046.out) hb)
            have n6_ := Aside0.mk (Kd.R_below (by (with_reducible repeat (first | apply Kd.R_alloc | apply Kd.R_drewN | apply Kd.R_drew)); exact HO8053.out) hb)
            have n7_ := Aside0.mk (Kd.R_below (by (with_reducible repeat (first | apply Kd.R_alloc | apply Kd.R_drewN | apply Kd.R_drew)); exact HO8060.out) hb)
            have n8_ := Aside0.mk (blk_below (g := gb8001) (o := .cells #[.int .i64 a0_0, .int .i64 a0_1, .int .i64 a0_2, .slice A0_3 l0_3.length c0_3] 24 (0, 0)) (by (with_reducible repeat (first | refine blk_drewN ?_ _ | refine blk_drew ?_ | refine blk_alloc ?_ _)); exact BK8001.out) hb)
            have n9_ := Aside0.mk (blk_below (g := gb8002) (o := .cells #[.int .i64 a1_0, .int .i64 a1_1, .int .i64 a1_2, .slice A1_3 l1_3.length c1_3, .int .i64 a1_4, .int .i64 a1_5, .int .i64 a1_6, .int .i64 a1_7, .bool a1_8] 51 (0, 0)) (by (with_reducible repeat (first | refine blk_drewN ?_ _ | refine blk_drew ?_ | refine blk_alloc ?_ _)); exact BK8002.out) hb)
            have n10_ := Aside0.mk (blk_below (g := gb8031) (o := .cells #[.int .i64 t8025, .int .i64 t8026, .int .i64 t8027, .slice Ao55 t8028.length co55] 27 (0, 0)) (by (with_reducible repeat (first | refine blk_drewN ?_ _ | refine blk_drew ?_ | refine blk_alloc ?_ _)); exact BK8031.out) hb)
            have n11_ := Aside0.mk (blk_below (g := gb8043) (o := .cells #[.int .i64 t8032, .int .i64 t8033, .int .i64 t8034, .slice Ao63 t8035.length co63, .int .i64 t8038, .int .i64 t8039, .int .i64 t8040, .int .i64 t8041, .bool t8042] 55 (0, 0)) (by (with_reducible repeat (first | refine blk_drewN ?_ _ | refine blk_drew ?_ | refine blk_alloc ?_ _)); exact BK8043.out) hb)
            have n12_ := Aside0.mk (below_step (by repeat (first | (with_reducible first | exact HB.out | apply below_alloc | apply pw_below_drewN | apply below_drew1 | refine below_set ?_ GE8001.out | refine below_set ?_ GE8002.out | refine below_set ?_ GE8031.out | refine below_set ?_ GE8043.out) | exact HB.out)) hb)
            clear HO8010
            clear HO8016
            clear HO8024
            clear HO8030
            clear HO8037
            clear HO8046
            clear HO8053
            clear HO8060
            clear BK8001
            clear BK8002
            clear BK8031
            clear BK8043
            clear HB
            have HO8010 := n0_
            have HO8016 := n1_
            have HO8024 := n2_
            have HO8030 := n3_
            have HO8037 := n4_
            have HO8046 := n5_
            have HO8053 := n6_
            have HO8060 := n7_
            have BK8001 := n8_
            have BK8002 := n9_
            have BK8031 := n10_
            have BK8043 := n11_
            have HB := n12_
            clear n0_ n1_ n2_ n3_ n4_ n5_ n6_ n7_ n8_ n9_ n10_ n11_ n12_
            (try clear hb)
            (try clear hb2)
            (try clear hk)
            (try clear hi)
            refine hK.out _ _ ⟨(blk_cell BK8043.out 0).trans rfl, (blk_cell BK8043.out 1).trans rfl, (blk_cell BK8043.out 2).trans rfl, (blk_cell BK8043.out 3).trans rfl, (blk_cell BK8043.out 4).trans rfl, (blk_cell BK8043.out 5).trans rfl, (blk_cell BK8043.out 6).trans rfl, (blk_cell BK8043.out 7).trans rfl, (blk_cell BK8043.out 8).trans rfl, (blk_cell BK8002.out 0).trans rfl, (blk_cell BK8002.out 1).trans rfl, (blk_cell BK8002.out 2).trans rfl, (blk_cell BK8002.out 3).trans rfl, (blk_cell BK8002.out 4).trans rfl, (blk_cell BK8002.out 5).trans rfl, (blk_cell BK8002.out 6).trans rfl, (blk_cell BK8002.out 7).trans rfl, (blk_cell BK8002.out 8).trans rfl⟩ (fun hHeld => ?_)
            clear hK K
            refine norm_ (a' := ?_) ?_ ?_
            rotate_left
            · show Act.put _ (some 48) _ = _
              simp only [Act.put, List.setIfInBounds_toArray, List.set_cons_zero, List.set_cons_succ, i64_w, i32_w]
              rfl
            refine pure_ (i := 4) (N := some 49) (v := ?_) (a' := ?_) #[true, true, true, true, true] rfl rfl (by kernel_rfl) (fun _ _ _ h => h) (Or.inl ⟨by rfl, ?_⟩) ?_ ?_
            rotate_left
            · intro w'
              go_simp
              with_reducible rfl
            rotate_left
            · simp only [Act.put, List.setIfInBounds_toArray, List.set_cons_zero, List.set_cons_succ, i64_w, i32_w]
              rfl
            refine done_ (by kernel_rfl) ?_
            have hcz76_0 : w75.cell? ⟨gb8031, 0, none⟩ = some (.int .i64 t8025) := (blk_cell BK8031.out 0).trans rfl
            have hcz76_1 : w75.cell? ⟨gb8031, 1, none⟩ = some (.int .i64 t8026) := (blk_cell BK8031.out 1).trans rfl
            have hcz76_2 : w75.cell? ⟨gb8031, 2, none⟩ = some (.int .i64 t8027) := (blk_cell BK8031.out 2).trans rfl
            have hcz76_3 : w75.cell? ⟨gb8031, 3, none⟩ = some (.slice Ao55 t8028.length co55) := (blk_cell BK8031.out 3).trans rfl
            have hfz76_0 := blk_frozen BK8031.out 0
            have hfz76_1 := blk_frozen BK8031.out 1
            have hfz76_2 := blk_frozen BK8031.out 2
            have hfz76_3 := blk_frozen BK8031.out 3
            go_upto_region 21 with (first | ((with_reducible refine gate_callee (f := 31) rfl ?_); refine goesL_ (some 52) rfl rfl Try.func31 (by kernel_rfl) rfl #[.agg #[.int .i64 t8025, .int .i64 t8026, .int .i64 t8027, .slice Ao55 t8028.length co55], .int .i64 1] rfl (by (try simp only [List.map_toArray, List.map_cons, List.map_nil]); first | done | rfl | (simp only [List.length_drop, List.length_take]; rfl)) ?_; (with_reducible refine (laws_markImage.calls k t8025 t8026 t8027 (fun k_ => some k_ = (.slice Ao55 t8028.length co55 : Value).ownBlock) (.slice Ao55 t8028.length co55) t8028 1 t8067 t8068 w _ ?side1 ?side2 A33.out).mono ?_); (case side1 => repeat (first | (with_reducible first | exact HB.out | apply below_alloc | apply pw_below_drewN | apply below_drew1 | refine below_set ?_ GE8001.out | refine below_set ?_ GE8002.out | refine below_set ?_ GE8031.out | refine below_set ?_ GE8043.out) | exact HB.out)); (case side2 => exact Kd.R_tight rfl HO8030.out); rintro e w77 ⟨rfl, hy0, hb, hkp⟩; refine ⟨_, rfl, ?_⟩; have n0_ := Aside0.mk (blk_kept (by (with_reducible repeat (first | refine blk_drewN ?_ _ | refine blk_drew ?_ | refine blk_alloc ?_ _)); exact BK8001.out) hkp (fun hs_ => (fun e_ => (Kd.R_ne HO8030.out BK8001.out (by decide)) e_) hs_)); have n1_ := Aside0.mk (blk_kept (by (with_reducible repeat (first | refine blk_drewN ?_ _ | refine blk_drew ?_ | refine blk_alloc ?_ _)); exact BK8002.out) hkp (fun hs_ => (fun e_ => (Kd.R_ne HO8030.out BK8002.out (by decide)) e_) hs_)); have n2_ := Aside0.mk (Kd.R_mono (ok' := fun k_ => some k_ ≠ (.slice Ao47 t8014.length co47 : Value).ownBlock ∧ some k_ ≠ (.slice Ao67 t8022.length co67 : Value).ownBlock ∧ some k_ ≠ (.slice Ao55 t8028.length co55 : Value).ownBlock ∧ some k_ ≠ (.slice Ao63 t8035.length co63 : Value).ownBlock ∧ some k_ ≠ (.slice Ao66 t8044.length co66 : Value).ownBlock ∧ some k_ ≠ (.slice Ao70 t8051.length co70 : Value).ownBlock ∧ some k_ ≠ (.slice Ao74 t8058.length co74 : Value).ownBlock) (Kd.R_keptB (HO8010.out) hkp (fun k_ hk_ hs_ => by first | exact (hk_.1.1.1.1.2) hs_ | exact absurd hs_ (by simp [hk_]))) (fun k_ hk_ => by first | exact ⟨hk_.1.1.1.1.1.1.1.2, hk_.1.1.1.1.1.1.2, hk_.1.1.1.1.1.2, hk_.1.1.1.1.2, hk_.1.1.1.2, hk_.1.1.2, hk_.1.2⟩ | simp [hk_])); have n3_ := Aside0.mk (Kd.R_mono (ok' := fun k_ => some k_ ≠ (.slice Ao46 t8008.length co46 : Value).ownBlock ∧ some k_ ≠ (.slice Ao67 t8022.length co67 : Value).ownBlock ∧ some k_ ≠ (.slice Ao55 t8028.length co55 : Value).ownBlock ∧ some k_ ≠ (.slice Ao63 t8035.length co63 : Value).ownBlock ∧ some k_ ≠ (.slice Ao66 t8044.length co66 : Value).ownBlock ∧ some k_ ≠ (.slice Ao70 t8051.length co70 : Value).ownBlock ∧ some k_ ≠ (.slice Ao74 t8058.length co74 : Value).ownBlock) (Kd.R_keptB (HO8016.out) hkp (fun k_ hk_ hs_ => by first | exact (hk_.1.1.1.1.2) hs_ | exact absurd hs_ (by simp [hk_]))) (fun k_ hk_ => by first | exact ⟨hk_.1.1.1.1.1.1.1.2, hk_.1.1.1.1.1.1.2, hk_.1.1.1.1.1.2, hk_.1.1.1.1.2, hk_.1.1.1.2, hk_.1.1.2, hk_.1.2⟩ | simp [hk_])); have n4_ := Aside0.mk (Kd.R_mono (ok' := fun k_ => some k_ ≠ (.slice Ao46 t8008.length co46 : Value).ownBlock ∧ some k_ ≠ (.slice Ao47 t8014.length co47 : Value).ownBlock ∧ some k_ ≠ (.slice Ao55 t8028.length co55 : Value).ownBlock ∧ some k_ ≠ (.slice Ao63 t8035.length co63 : Value).ownBlock ∧ some k_ ≠ (.slice Ao66 t8044.length co66 : Value).ownBlock ∧ some k_ ≠ (.slice Ao70 t8051.length co70 : Value).ownBlock ∧ some k_ ≠ (.slice Ao74 t8058.length co74 : Value).ownBlock) (Kd.R_keptB (HO8024.out) hkp (fun k_ hk_ hs_ => by first | exact (hk_.1.1.1.1.2) hs_ | exact absurd hs_ (by simp [hk_]))) (fun k_ hk_ => by first | exact ⟨hk_.1.1.1.1.1.1.1.2, hk_.1.1.1.1.1.1.2, hk_.1.1.1.1.1.2, hk_.1.1.1.1.2, hk_.1.1.1.2, hk_.1.1.2, hk_.1.2⟩ | simp [hk_])); have n5_ := Aside0.mk (Kd.R_reok rfl hy0 (fun k_ e_ => HO8030.out.1 k_ e_)); have n6_ := Aside0.mk (blk_kept (by (with_reducible repeat (first | refine blk_drewN ?_ _ | refine blk_drew ?_ | refine blk_alloc ?_ _)); exact BK8031.out) hkp (fun hs_ => (fun e_ => (Kd.R_ne HO8030.out BK8031.out (by decide)) e_) hs_)); have n7_ := Aside0.mk (Kd.R_mono (ok' := fun k_ => some k_ ≠ (.slice Ao46 t8008.length co46 : Value).ownBlock ∧ some k_ ≠ (.slice Ao47 t8014.length co47 : Value).ownBlock ∧ some k_ ≠ (.slice Ao67 t8022.length co67 : Value).ownBlock ∧ some k_ ≠ (.slice Ao55 t8028.length co55 : Value).ownBlock ∧ some k_ ≠ (.slice Ao66 t8044.length co66 : Value).ownBlock ∧ some k_ ≠ (.slice Ao70 t8051.length co70 : Value).ownBlock ∧ some k_ ≠ (.slice Ao74 t8058.length co74 : Value).ownBlock) (Kd.R_keptB (HO8037.out) hkp (fun k_ hk_ hs_ => by first | exact (hk_.1.1.1.2) hs_ | exact absurd hs_ (by simp [hk_]))) (fun k_ hk_ => by first | exact ⟨hk_.1.1.1.1.1.1.1.2, hk_.1.1.1.1.1.1.2, hk_.1.1.1.1.1.2, hk_.1.1.1.1.2, hk_.1.1.1.2, hk_.1.1.2, hk_.1.2⟩ | simp [hk_])); have n8_ := Aside0.mk (blk_kept (by (with_reducible repeat (first | refine blk_drewN ?_ _ | refine blk_drew ?_ | refine blk_alloc ?_ _)); exact BK8043.out) hkp (fun hs_ => (fun e_ => (Kd.R_ne HO8030.out BK8043.out (by decide)) e_) hs_)); have n9_ := Aside0.mk (Kd.R_mono (ok' := fun k_ => some k_ ≠ (.slice Ao46 t8008.length co46 : Value).ownBlock ∧ some k_ ≠ (.slice Ao47 t8014.length co47 : Value).ownBlock ∧ some k_ ≠ (.slice Ao67 t8022.length co67 : Value).ownBlock ∧ some k_ ≠ (.slice Ao55 t8028.length co55 : Value).ownBlock ∧ some k_ ≠ (.slice Ao63 t8035.length co63 : Value).ownBlock ∧ some k_ ≠ (.slice Ao70 t8051.length co70 : Value).ownBlock ∧ some k_ ≠ (.slice Ao74 t8058.length co74 : Value).ownBlock) (Kd.R_keptB (HO8046.out) hkp (fun k_ hk_ hs_ => by first | exact (hk_.1.1.1.2) hs_ | exact absurd hs_ (by simp [hk_]))) (fun k_ hk_ => by first | exact ⟨hk_.1.1.1.1.1.1.1.2, hk_.1.1.1.1.1.1.2, hk_.1.1.1.1.1.2, hk_.1.1.1.1.2, hk_.1.1.1.2, hk_.1.1.2, hk_.1.2⟩ | simp [hk_])); have n10_ := Aside0.mk (Kd.R_mono (ok' := fun k_ => some k_ ≠ (.slice Ao46 t8008.length co46 : Value).ownBlock ∧ some k_ ≠ (.slice Ao47 t8014.length co47 : Value).ownBlock ∧ some k_ ≠ (.slice Ao67 t8022.length co67 : Value).ownBlock ∧ some k_ ≠ (.slice Ao55 t8028.length co55 : Value).ownBlock ∧ some k_ ≠ (.slice Ao63 t8035.length co63 : Value).ownBlock ∧ some k_ ≠ (.slice Ao66 t8044.length co66 : Value).ownBlock ∧ some k_ ≠ (.slice Ao74 t8058.length co74 : Value).ownBlock) (Kd.R_keptB (HO8053.out) hkp (fun k_ hk_ hs_ => by first | exact (hk_.1.1.1.2) hs_ | exact absurd hs_ (by simp [hk_]))) (fun k_ hk_ => by first | exact ⟨hk_.1.1.1.1.1.1.1.2, hk_.1.1.1.1.1.1.2, hk_.1.1.1.1.1.2, hk_.1.1.1.1.2, hk_.1.1.1.2, hk_.1.1.2, hk_.1.2⟩ | simp [hk_])); have n11_ := Aside0.mk (Kd.R_mono (ok' := fun k_ => some k_ ≠ (.slice Ao46 t8008.length co46 : Value).ownBlock ∧ some k_ ≠ (.slice Ao47 t8014.length co47 : Value).ownBlock ∧ some k_ ≠ (.slice Ao67 t8022.length co67 : Value).ownBlock ∧ some k_ ≠ (.slice Ao55 t8028.length co55 : Value).ownBlock ∧ some k_ ≠ (.slice Ao63 t8035.length co63 : Value).ownBlock ∧ some k_ ≠ (.slice Ao66 t8044.length co66 : Value).ownBlock ∧ some k_ ≠ (.slice Ao70 t8051.length co70 : Value).ownBlock) (Kd.R_keptB (HO8060.out) hkp (fun k_ hk_ hs_ => by first | exact (hk_.1.1.1.2) hs_ | exact absurd hs_ (by simp [hk_]))) (fun k_ hk_ => by first | exact ⟨hk_.1.1.1.1.1.1.1.2, hk_.1.1.1.1.1.1.2, hk_.1.1.1.1.1.2, hk_.1.1.1.1.2, hk_.1.1.1.2, hk_.1.1.2, hk_.1.2⟩ | simp [hk_])); have n12_ := Aside0.mk (hb); clear BK8001; clear BK8002; clear HO8010; clear HO8016; clear HO8024; clear HO8030; clear BK8031; clear HO8037; clear BK8043; clear HO8046; clear HO8053; clear HO8060; clear HB; have BK8001 := n0_; have BK8002 := n1_; have HO8010 := n2_; have HO8016 := n3_; have HO8024 := n4_; have HO8030 := n5_; have BK8031 := n6_; have HO8037 := n7_; have BK8043 := n8_; have HO8046 := n9_; have HO8053 := n10_; have HO8060 := n11_; have HB := n12_; clear n0_ n1_ n2_ n3_ n4_ n5_ n6_ n7_ n8_ n9_ n10_ n11_ n12_; (try clear hb); (try clear hkp); (try clear hy0); have hcz78_0 : w77.cell? ⟨gb8043, 0, none⟩ = some (.int .i64 t8032) := (blk_cell BK8043.out 0).trans rfl; have hcz78_1 : w77.cell? ⟨gb8043, 1, none⟩ = some (.int .i64 t8033) := (blk_cell BK8043.out 1).trans rfl; have hcz78_2 : w77.cell? ⟨gb8043, 2, none⟩ = some (.int .i64 t8034) := (blk_cell BK8043.out 2).trans rfl; have hcz78_3 : w77.cell? ⟨gb8043, 3, none⟩ = some (.slice Ao63 t8035.length co63) := (blk_cell BK8043.out 3).trans rfl; have hcz78_4 : w77.cell? ⟨gb8043, 4, none⟩ = some (.int .i64 t8038) := (blk_cell BK8043.out 4).trans rfl; have hcz78_5 : w77.cell? ⟨gb8043, 5, none⟩ = some (.int .i64 t8039) := (blk_cell BK8043.out 5).trans rfl; have hcz78_6 : w77.cell? ⟨gb8043, 6, none⟩ = some (.int .i64 t8040) := (blk_cell BK8043.out 6).trans rfl; have hcz78_7 : w77.cell? ⟨gb8043, 7, none⟩ = some (.int .i64 t8041) := (blk_cell BK8043.out 7).trans rfl; have hcz78_8 : w77.cell? ⟨gb8043, 8, none⟩ = some (.bool t8042) := (blk_cell BK8043.out 8).trans rfl; have hfz78_0 := blk_frozen BK8043.out 0; have hfz78_1 := blk_frozen BK8043.out 1; have hfz78_2 := blk_frozen BK8043.out 2; have hfz78_3 := blk_frozen BK8043.out 3; have hfz78_4 := blk_frozen BK8043.out 4; have hfz78_5 := blk_frozen BK8043.out 5; have hfz78_6 := blk_frozen BK8043.out 6; have hfz78_7 := blk_frozen BK8043.out 7; have hfz78_8 := blk_frozen BK8043.out 8) | ((with_reducible refine gate_callee (f := 45) rfl ?_); refine goesL_ (some 55) rfl rfl Try.func45 (by kernel_rfl) rfl #[.agg #[.int .i64 t8032, .int .i64 t8033, .int .i64 t8034, .slice Ao63 t8035.length co63, .int .i64 t8038, .int .i64 t8039, .int .i64 t8040, .int .i64 t8041, .bool t8042], .int .i64 t8067] rfl (by (try simp only [List.map_toArray, List.map_cons, List.map_nil]); first | done | rfl | (simp only [List.length_drop, List.length_take]; rfl)) ?_; (with_reducible refine (laws_markLayer.calls k t8032 t8033 t8034 (fun k_ => some k_ = (.slice Ao63 t8035.length co63 : Value).ownBlock) (.slice Ao63 t8035.length co63) t8035 t8038 t8039 t8040 t8041 t8042 t8067 t8069 t8070 w _ ?side1 ?side2 A34.out).mono ?_); (case side1 => repeat (first | (with_reducible first | exact HB.out | apply below_alloc | apply pw_below_drewN | apply below_drew1 | refine below_set ?_ GE8001.out | refine below_set ?_ GE8002.out | refine below_set ?_ GE8031.out | refine below_set ?_ GE8043.out) | exact HB.out)); (case side2 => exact Kd.R_tight rfl HO8037.out); rintro e w79 ⟨rfl, hy0, hb, hkp⟩; refine ⟨_, rfl, ?_⟩; have n0_ := Aside0.mk (blk_kept (by (with_reducible repeat (first | refine blk_drewN ?_ _ | refine blk_drew ?_ | refine blk_alloc ?_ _)); exact BK8001.out) hkp (fun hs_ => (fun e_ => (Kd.R_ne HO8037.out BK8001.out (by decide)) e_) hs_)); have n1_ := Aside0.mk (blk_kept (by (with_reducible repeat (first | refine blk_drewN ?_ _ | refine blk_drew ?_ | refine blk_alloc ?_ _)); exact BK8002.out) hkp (fun hs_ => (fun e_ => (Kd.R_ne HO8037.out BK8002.out (by decide)) e_) hs_)); have n2_ := Aside0.mk (Kd.R_mono (ok' := fun k_ => some k_ ≠ (.slice Ao47 t8014.length co47 : Value).ownBlock ∧ some k_ ≠ (.slice Ao67 t8022.length co67 : Value).ownBlock ∧ some k_ ≠ (.slice Ao55 t8028.length co55 : Value).ownBlock ∧ some k_ ≠ (.slice Ao63 t8035.length co63 : Value).ownBlock ∧ some k_ ≠ (.slice Ao66 t8044.length co66 : Value).ownBlock ∧ some k_ ≠ (.slice Ao70 t8051.length co70 : Value).ownBlock ∧ some k_ ≠ (.slice Ao74 t8058.length co74 : Value).ownBlock) (Kd.R_keptB (HO8010.out) hkp (fun k_ hk_ hs_ => by first | exact (hk_.2.2.2.1) hs_ | exact absurd hs_ (by simp [hk_]))) (fun k_ hk_ => by first | exact ⟨hk_.1.1, hk_.1.2.1, hk_.1.2.2.1, hk_.1.2.2.2.1, hk_.1.2.2.2.2.1, hk_.1.2.2.2.2.2.1, hk_.1.2.2.2.2.2.2⟩ | simp [hk_])); have n3_ := Aside0.mk (Kd.R_mono (ok' := fun k_ => some k_ ≠ (.slice Ao46 t8008.length co46 : Value).ownBlock ∧ some k_ ≠ (.slice Ao67 t8022.length co67 : Value).ownBlock ∧ some k_ ≠ (.slice Ao55 t8028.length co55 : Value).ownBlock ∧ some k_ ≠ (.slice Ao63 t8035.length co63 : Value).ownBlock ∧ some k_ ≠ (.slice Ao66 t8044.length co66 : Value).ownBlock ∧ some k_ ≠ (.slice Ao70 t8051.length co70 : Value).ownBlock ∧ some k_ ≠ (.slice Ao74 t8058.length co74 : Value).ownBlock) (Kd.R_keptB (HO8016.out) hkp (fun k_ hk_ hs_ => by first | exact (hk_.2.2.2.1) hs_ | exact absurd hs_ (by simp [hk_]))) (fun k_ hk_ => by first | exact ⟨hk_.1.1, hk_.1.2.1, hk_.1.2.2.1, hk_.1.2.2.2.1, hk_.1.2.2.2.2.1, hk_.1.2.2.2.2.2.1, hk_.1.2.2.2.2.2.2⟩ | simp [hk_])); have n4_ := Aside0.mk (Kd.R_mono (ok' := fun k_ => some k_ ≠ (.slice Ao46 t8008.length co46 : Value).ownBlock ∧ some k_ ≠ (.slice Ao47 t8014.length co47 : Value).ownBlock ∧ some k_ ≠ (.slice Ao55 t8028.length co55 : Value).ownBlock ∧ some k_ ≠ (.slice Ao63 t8035.length co63 : Value).ownBlock ∧ some k_ ≠ (.slice Ao66 t8044.length co66 : Value).ownBlock ∧ some k_ ≠ (.slice Ao70 t8051.length co70 : Value).ownBlock ∧ some k_ ≠ (.slice Ao74 t8058.length co74 : Value).ownBlock) (Kd.R_keptB (HO8024.out) hkp (fun k_ hk_ hs_ => by first | exact (hk_.2.2.2.1) hs_ | exact absurd hs_ (by simp [hk_]))) (fun k_ hk_ => by first | exact ⟨hk_.1.1, hk_.1.2.1, hk_.1.2.2.1, hk_.1.2.2.2.1, hk_.1.2.2.2.2.1, hk_.1.2.2.2.2.2.1, hk_.1.2.2.2.2.2.2⟩ | simp [hk_])); have n5_ := Aside0.mk (Kd.R_mono (ok' := fun k_ => some k_ ≠ (.slice Ao46 t8008.length co46 : Value).ownBlock ∧ some k_ ≠ (.slice Ao47 t8014.length co47 : Value).ownBlock ∧ some k_ ≠ (.slice Ao67 t8022.length co67 : Value).ownBlock ∧ some k_ ≠ (.slice Ao63 t8035.length co63 : Value).ownBlock ∧ some k_ ≠ (.slice Ao66 t8044.length co66 : Value).ownBlock ∧ some k_ ≠ (.slice Ao70 t8051.length co70 : Value).ownBlock ∧ some k_ ≠ (.slice Ao74 t8058.length co74 : Value).ownBlock) (Kd.R_keptB (HO8030.out) hkp (fun k_ hk_ hs_ => by first | exact (hk_.1.1.1.2) hs_ | exact absurd hs_ (by simp [hk_]))) (fun k_ hk_ => by first | exact ⟨hk_.1.1.1.1.1.1.1.2, hk_.1.1.1.1.1.1.2, hk_.1.1.1.1.1.2, hk_.1.1.1.1.2, hk_.1.1.1.2, hk_.1.1.2, hk_.1.2⟩ | simp [hk_])); have n6_ := Aside0.mk (blk_kept (by (with_reducible repeat (first | refine blk_drewN ?_ _ | refine blk_drew ?_ | refine blk_alloc ?_ _)); exact BK8031.out) hkp (fun hs_ => (fun e_ => (Kd.R_ne HO8037.out BK8031.out (by decide)) e_) hs_)); have n7_ := Aside0.mk (Kd.R_reok rfl hy0 (fun k_ e_ => HO8037.out.1 k_ e_)); have n8_ := Aside0.mk (blk_kept (by (with_reducible repeat (first | refine blk_drewN ?_ _ | refine blk_drew ?_ | refine blk_alloc ?_ _)); exact BK8043.out) hkp (fun hs_ => (fun e_ => (Kd.R_ne HO8037.out BK8043.out (by decide)) e_) hs_)); have n9_ := Aside0.mk (Kd.R_mono (ok' := fun k_ => some k_ ≠ (.slice Ao46 t8008.length co46 : Value).ownBlock ∧ some k_ ≠ (.slice Ao47 t8014.length co47 : Value).ownBlock ∧ some k_ ≠ (.slice Ao67 t8022.length co67 : Value).ownBlock ∧ some k_ ≠ (.slice Ao55 t8028.length co55 : Value).ownBlock ∧ some k_ ≠ (.slice Ao63 t8035.length co63 : Value).ownBlock ∧ some k_ ≠ (.slice Ao70 t8051.length co70 : Value).ownBlock ∧ some k_ ≠ (.slice Ao74 t8058.length co74 : Value).ownBlock) (Kd.R_keptB (HO8046.out) hkp (fun k_ hk_ hs_ => by first | exact (hk_.2.2.2.2.1) hs_ | exact absurd hs_ (by simp [hk_]))) (fun k_ hk_ => by first | exact ⟨hk_.1.1, hk_.1.2.1, hk_.1.2.2.1, hk_.1.2.2.2.1, hk_.1.2.2.2.2.1, hk_.1.2.2.2.2.2.1, hk_.1.2.2.2.2.2.2⟩ | simp [hk_])); have n10_ := Aside0.mk (Kd.R_mono (ok' := fun k_ => some k_ ≠ (.slice Ao46 t8008.length co46 : Value).ownBlock ∧ some k_ ≠ (.slice Ao47 t8014.length co47 : Value).ownBlock ∧ some k_ ≠ (.slice Ao67 t8022.length co67 : Value).ownBlock ∧ some k_ ≠ (.slice Ao55 t8028.length co55 : Value).ownBlock ∧ some k_ ≠ (.slice Ao63 t8035.length co63 : Value).ownBlock ∧ some k_ ≠ (.slice Ao66 t8044.length co66 : Value).ownBlock ∧ some k_ ≠ (.slice Ao74 t8058.length co74 : Value).ownBlock) (Kd.R_keptB (HO8053.out) hkp (fun k_ hk_ hs_ => by first | exact (hk_.2.2.2.2.1) hs_ | exact absurd hs_ (by simp [hk_]))) (fun k_ hk_ => by first | exact ⟨hk_.1.1, hk_.1.2.1, hk_.1.2.2.1, hk_.1.2.2.2.1, hk_.1.2.2.2.2.1, hk_.1.2.2.2.2.2.1, hk_.1.2.2.2.2.2.2⟩ | simp [hk_])); have n11_ := Aside0.mk (Kd.R_mono (ok' := fun k_ => some k_ ≠ (.slice Ao46 t8008.length co46 : Value).ownBlock ∧ some k_ ≠ (.slice Ao47 t8014.length co47 : Value).ownBlock ∧ some k_ ≠ (.slice Ao67 t8022.length co67 : Value).ownBlock ∧ some k_ ≠ (.slice Ao55 t8028.length co55 : Value).ownBlock ∧ some k_ ≠ (.slice Ao63 t8035.length co63 : Value).ownBlock ∧ some k_ ≠ (.slice Ao66 t8044.length co66 : Value).ownBlock ∧ some k_ ≠ (.slice Ao70 t8051.length co70 : Value).ownBlock) (Kd.R_keptB (HO8060.out) hkp (fun k_ hk_ hs_ => by first | exact (hk_.2.2.2.2.1) hs_ | exact absurd hs_ (by simp [hk_]))) (fun k_ hk_ => by first | exact ⟨hk_.1.1, hk_.1.2.1, hk_.1.2.2.1, hk_.1.2.2.2.1, hk_.1.2.2.2.2.1, hk_.1.2.2.2.2.2.1, hk_.1.2.2.2.2.2.2⟩ | simp [hk_])); have n12_ := Aside0.mk (hb); clear BK8001; clear BK8002; clear HO8010; clear HO8016; clear HO8024; clear HO8030; clear BK8031; clear HO8037; clear BK8043; clear HO8046; clear HO8053; clear HO8060; clear HB; have BK8001 := n0_; have BK8002 := n1_; have HO8010 := n2_; have HO8016 := n3_; have HO8024 := n4_; have HO8030 := n5_; have BK8031 := n6_; have HO8037 := n7_; have BK8043 := n8_; have HO8046 := n9_; have HO8053 := n10_; have HO8060 := n11_; have HB := n12_; clear n0_ n1_ n2_ n3_ n4_ n5_ n6_ n7_ n8_ n9_ n10_ n11_ n12_; (try clear hb); (try clear hkp); (try clear hy0)))
            (try simp only [Act.put, List.setIfInBounds_toArray, List.set_cons_zero, List.set_cons_succ])
            go_cut [63] (fun v63 wc => ∃ (kq : Nat) (x63_34 : Bool), v63 = .bool x63_34 ∧ Aside0 (laws_FnExactDirtyTiles.j0 kq t8022 t8044 x63_34 a0_0 a0_1 a0_2 l0_3 a1_0 a1_1 a1_2 l1_3 a1_4 a1_5 a1_6 a1_7 a1_8 = some r) ∧ Aside0 (kq ≤ k) ∧ Aside0 (Kd.R (Kd.int .i64) 3 wc w.heap.size (fun k_ => some k_ ≠ ((.slice Ao66 t8044.length co66) : Value).ownBlock ∧ some k_ ≠ ((.slice Ao55 t8028.length co55) : Value).ownBlock ∧ some k_ ≠ ((.slice Ao63 t8035.length co63) : Value).ownBlock) (.slice Ao67 t8022.length co67) t8022) ∧ Aside0 (Kd.R (Kd.int .i64) 3 wc w.heap.size (fun k_ => some k_ ≠ ((.slice Ao67 t8022.length co67) : Value).ownBlock ∧ some k_ ≠ ((.slice Ao55 t8028.length co55) : Value).ownBlock ∧ some k_ ≠ ((.slice Ao63 t8035.length co63) : Value).ownBlock) (.slice Ao66 t8044.length co66) t8044) ∧ Aside0 (Kd.R (Kd.int .i64) 3 wc w.heap.size (fun k_ => some k_ ≠ ((.slice Ao67 t8022.length co67) : Value).ownBlock ∧ some k_ ≠ ((.slice Ao66 t8044.length co66) : Value).ownBlock ∧ some k_ ≠ ((.slice Ao63 t8035.length co63) : Value).ownBlock) (.slice Ao55 t8028.length co55) t8068) ∧ Aside0 (Kd.R (Kd.int .i64) 3 wc w.heap.size (fun k_ => some k_ ≠ ((.slice Ao67 t8022.length co67) : Value).ownBlock ∧ some k_ ≠ ((.slice Ao66 t8044.length co66) : Value).ownBlock ∧ some k_ ≠ ((.slice Ao55 t8028.length co55) : Value).ownBlock) (.slice Ao63 t8035.length co63) t8070) ∧ Aside0 (wc.heap[gb8001]? = some (.cells #[.int .i64 a0_0, .int .i64 a0_1, .int .i64 a0_2, (.slice A0_3 l0_3.length c0_3)] 24 (0, 0))) ∧ Aside0 (wc.heap[gb8002]? = some (.cells #[.int .i64 a1_0, .int .i64 a1_1, .int .i64 a1_2, (.slice A1_3 l1_3.length c1_3), .int .i64 a1_4, .int .i64 a1_5, .int .i64 a1_6, .int .i64 a1_7, .bool a1_8] 51 (0, 0))) ∧ Aside0 (wc.heap[gb8031]? = some (.cells #[.int .i64 t8025, .int .i64 t8026, .int .i64 t8027, (.slice Ao55 t8028.length co55)] 27 (0, 0))) ∧ Aside0 (wc.heap[gb8043]? = some (.cells #[.int .i64 t8032, .int .i64 t8033, .int .i64 t8034, (.slice Ao63 t8035.length co63), .int .i64 t8038, .int .i64 t8039, .int .i64 t8040, .int .i64 t8041, .bool t8042] 55 (0, 0))) ∧ Aside0 (Below w.heap.size w wc))
            case first =>
              have H := HC35.out
              clear HC35
              by_cases c80 : t8069 < 0
              · rw [if_pos c80] at H
                have c80b0 : decide (t8069 < 0) = true := decide_eq_true c80
                clear c80
                (first | rw [c80b0] | (simp only [i64_w, i32_w]; rw [c80b0]) | skip)
                have H' := Aside0.mk H
                clear H
                go_wp2
                go_meet
                case rel => exact ⟨_, (true), (by first | rfl | (simp; done) | (simp [*]; done)), H', ⟨by first | omega | exact Nat.le_refl _⟩, ⟨by (with_reducible repeat (first | apply Kd.R_alloc | apply Kd.R_drewN | apply Kd.R_drew)); exact Kd.R_mono HO8024.out (fun _ hk => ⟨hk.2.2.2.2.1, ⟨hk.2.2.1, hk.2.2.2.1⟩⟩)⟩, ⟨by (with_reducible repeat (first | apply Kd.R_alloc | apply Kd.R_drewN | apply Kd.R_drew)); exact Kd.R_mono HO8046.out (fun _ hk => ⟨hk.2.2.1, ⟨hk.2.2.2.1, hk.2.2.2.2.1⟩⟩)⟩, ⟨by (with_reducible repeat (first | apply Kd.R_alloc | apply Kd.R_drewN | apply Kd.R_drew)); exact Kd.R_mono HO8030.out (fun _ hk => ⟨hk.2.2.1, ⟨hk.2.2.2.2.1, hk.2.2.2.1⟩⟩)⟩, ⟨by (with_reducible repeat (first | apply Kd.R_alloc | apply Kd.R_drewN | apply Kd.R_drew)); exact Kd.R_mono HO8037.out (fun _ hk => ⟨hk.2.2.1, ⟨hk.2.2.2.2.1, hk.2.2.2.1⟩⟩)⟩, ⟨by (with_reducible repeat (first | refine blk_drewN ?_ _ | refine blk_drew ?_ | refine blk_alloc ?_ _)); exact BK8001.out⟩, ⟨by (with_reducible repeat (first | refine blk_drewN ?_ _ | refine blk_drew ?_ | refine blk_alloc ?_ _)); exact BK8002.out⟩, ⟨by (with_reducible repeat (first | refine blk_drewN ?_ _ | refine blk_drew ?_ | refine blk_alloc ?_ _)); exact BK8031.out⟩, ⟨by (with_reducible repeat (first | refine blk_drewN ?_ _ | refine blk_drew ?_ | refine blk_alloc ?_ _)); exact BK8043.out⟩, ⟨by repeat (first | (with_reducible first | exact HB.out | apply below_alloc | apply pw_below_drewN | apply below_drew1 | refine below_set ?_ GE8001.out | refine below_set ?_ GE8002.out | refine below_set ?_ GE8031.out | refine below_set ?_ GE8043.out) | exact HB.out)⟩⟩
              · rw [if_neg c80] at H
                have c80b0 : decide (t8069 < 0) = false := decide_eq_false c80
                clear c80
                (first | rw [c80b0] | (simp only [i64_w, i32_w]; rw [c80b0]) | skip)
                replace H := Option.bind_eq_some_iff.mp H
                obtain ⟨t8071, A810, H⟩ := H
                replace H : (laws_FnExactDirtyTiles.j0 k t8022 t8044 (!t8071) a0_0 a0_1 a0_2 l0_3 a1_0 a1_1 a1_2 l1_3 a1_4 a1_5 a1_6 a1_7 a1_8) = some r := H
                have A81 := Aside0.mk A810
                clear A810
                have H' := Aside0.mk H
                clear H
                go_wp2_with (first | (go_at_call 43; (with_reducible refine (laws_eqIntS.calls k _ _ t8044 _ _ t8022 t8071 _ ?side1 ?side2 ?side3 ?side4 A81.out).mono ?_); (case side1 => repeat (first | exact (Kd.R_reads' HO8046.out).2.2 | (with_reducible refine Kd.C_alloc ?_ _) | (with_reducible refine Kd.C_drewN ?_ _) | (with_reducible refine Kd.C_drew ?_))); (case side2 => exact (Kd.R_reads' HO8046.out).2.1); (case side3 => repeat (first | exact (Kd.R_reads' HO8024.out).2.2 | (with_reducible refine Kd.C_alloc ?_ _) | (with_reducible refine Kd.C_drewN ?_ _) | (with_reducible refine Kd.C_drew ?_))); (case side4 => exact (Kd.R_reads' HO8024.out).2.1); rintro e w' ⟨rfl, ⟨nd, rfl⟩⟩))
                go_meet
                case rel => exact ⟨_, (!t8071), (by first | rfl | (simp; done) | (simp [*]; done)), H', ⟨by first | omega | exact Nat.le_refl _⟩, ⟨by (with_reducible repeat (first | apply Kd.R_alloc | apply Kd.R_drewN | apply Kd.R_drew)); exact Kd.R_mono HO8024.out (fun _ hk => ⟨hk.2.2.2.2.1, ⟨hk.2.2.1, hk.2.2.2.1⟩⟩)⟩, ⟨by (with_reducible repeat (first | apply Kd.R_alloc | apply Kd.R_drewN | apply Kd.R_drew)); exact Kd.R_mono HO8046.out (fun _ hk => ⟨hk.2.2.1, ⟨hk.2.2.2.1, hk.2.2.2.2.1⟩⟩)⟩, ⟨by (with_reducible repeat (first | apply Kd.R_alloc | apply Kd.R_drewN | apply Kd.R_drew)); exact Kd.R_mono HO8030.out (fun _ hk => ⟨hk.2.2.1, ⟨hk.2.2.2.2.1, hk.2.2.2.1⟩⟩)⟩, ⟨by (with_reducible repeat (first | apply Kd.R_alloc | apply Kd.R_drewN | apply Kd.R_drew)); exact Kd.R_mono HO8037.out (fun _ hk => ⟨hk.2.2.1, ⟨hk.2.2.2.2.1, hk.2.2.2.1⟩⟩)⟩, ⟨by (with_reducible repeat (first | refine blk_drewN ?_ _ | refine blk_drew ?_ | refine blk_alloc ?_ _)); exact BK8001.out⟩, ⟨by (with_reducible repeat (first | refine blk_drewN ?_ _ | refine blk_drew ?_ | refine blk_alloc ?_ _)); exact BK8002.out⟩, ⟨by (with_reducible repeat (first | refine blk_drewN ?_ _ | refine blk_drew ?_ | refine blk_alloc ?_ _)); exact BK8031.out⟩, ⟨by (with_reducible repeat (first | refine blk_drewN ?_ _ | refine blk_drew ?_ | refine blk_alloc ?_ _)); exact BK8043.out⟩, ⟨by repeat (first | (with_reducible first | exact HB.out | apply below_alloc | apply pw_below_drewN | apply below_drew1 | refine below_set ?_ GE8001.out | refine below_set ?_ GE8002.out | refine below_set ?_ GE8031.out | refine below_set ?_ GE8043.out) | exact HB.out)⟩⟩
            case rest =>
              clear HC35
              try clear c1
              try clear c2
              try clear p2
              try clear c3
              try clear c4
              try clear c5
              try clear c6
              try clear c7
              try clear c8
              try clear c20
              try clear c22
              try clear c24
              try clear c29
              try clear c31
              try clear c32
              try clear c38
              try clear c39
              try clear c40
              try clear c41
              try clear c42
              try clear c43
              try clear c44
              try clear c45
              try clear c52
              try clear c53
              try clear c59
              try clear c60
              try clear c61
              try clear c80
              try clear c80b0
              try clear hcz39_0
              try clear hcz39_1
              try clear hcz39_2
              try clear hcz39_3
              try clear hcz41_0
              try clear hcz41_1
              try clear hcz41_2
              try clear hcz41_3
              try clear hcz41_4
              try clear hcz41_5
              try clear hcz41_6
              try clear hcz41_7
              try clear hcz41_8
              try clear hcz49_0
              try clear hcz49_1
              try clear hcz49_2
              try clear hcz49_3
              try clear hcz54_0
              try clear hcz54_1
              try clear hcz54_2
              try clear hcz54_3
              try clear hcz56_0
              try clear hcz56_1
              try clear hcz56_2
              try clear hcz56_3
              try clear hcz56_4
              try clear hcz56_5
              try clear hcz56_6
              try clear hcz56_7
              try clear hcz56_8
              try clear hcz62_0
              try clear hcz62_1
              try clear hcz62_2
              try clear hcz62_3
              try clear hcz62_4
              try clear hcz62_5
              try clear hcz62_6
              try clear hcz62_7
              try clear hcz62_8
              try clear hcz64_0
              try clear hcz64_1
              try clear hcz64_2
              try clear hcz64_3
              try clear hcz76_0
              try clear hcz76_1
              try clear hcz76_2
              try clear hcz76_3
              try clear hcz78_0
              try clear hcz78_1
              try clear hcz78_2
              try clear hcz78_3
              try clear hcz78_4
              try clear hcz78_5
              try clear hcz78_6
              try clear hcz78_7
              try clear hcz78_8
              try clear hfz39_0
              try clear hfz39_1
              try clear hfz39_2
              try clear hfz39_3
              try clear hfz41_0
              try clear hfz41_1
              try clear hfz41_2
              try clear hfz41_3
              try clear hfz41_4
              try clear hfz41_5
              try clear hfz41_6
              try clear hfz41_7
              try clear hfz41_8
              try clear hfz49_0
              try clear hfz49_1
              try clear hfz49_2
              try clear hfz49_3
              try clear hfz54_0
              try clear hfz54_1
              try clear hfz54_2
              try clear hfz54_3
              try clear hfz56_0
              try clear hfz56_1
              try clear hfz56_2
              try clear hfz56_3
              try clear hfz56_4
              try clear hfz56_5
              try clear hfz56_6
              try clear hfz56_7
              try clear hfz56_8
              try clear hfz62_0
              try clear hfz62_1
              try clear hfz62_2
              try clear hfz62_3
              try clear hfz62_4
              try clear hfz62_5
              try clear hfz62_6
              try clear hfz62_7
              try clear hfz62_8
              try clear hfz64_0
              try clear hfz64_1
              try clear hfz64_2
              try clear hfz64_3
              try clear hfz76_0
              try clear hfz76_1
              try clear hfz76_2
              try clear hfz76_3
              try clear hfz78_0
              try clear hfz78_1
              try clear hfz78_2
              try clear hfz78_3
              try clear hfz78_4
              try clear hfz78_5
              try clear hfz78_6
              try clear hfz78_7
              try clear hfz78_8
              obtain ⟨kq, x63_34, rfl, HA, HJ34, HO_6, HO_9, HO_8032003, HO_8044003, BK8001, BK8002, BK8031, BK8043, HB⟩ := hcut
              have hl8032003_34 := (Kd.R_reads' HO_8032003.out).1
              rw [hl8032003_34] at HO_8032003
              (try simp only [hl8032003_34])
              (try simp only [hl8032003_34] at BK8001)
              (try simp only [hl8032003_34] at BK8002)
              (try simp only [hl8032003_34] at BK8031)
              (try simp only [hl8032003_34] at BK8043)
              (try simp only [hl8032003_34] at HO_6)
              (try simp only [hl8032003_34] at HO_9)
              (try simp only [hl8032003_34] at HO_8044003)
              have hl8044003_34 := (Kd.R_reads' HO_8044003.out).1
              rw [hl8044003_34] at HO_8044003
              (try simp only [hl8044003_34])
              (try simp only [hl8044003_34] at BK8001)
              (try simp only [hl8044003_34] at BK8002)
              (try simp only [hl8044003_34] at BK8031)
              (try simp only [hl8044003_34] at BK8043)
              (try simp only [hl8044003_34] at HO_6)
              (try simp only [hl8044003_34] at HO_9)
              (try simp only [hl8044003_34] at HO_8032003)
              cases kq with
              | zero => exact absurd HA.out (by simp [laws_FnExactDirtyTiles.j0])
              | succ kj34 =>
                have H := HA.out
                clear HA
                simp only [laws_FnExactDirtyTiles.j0] at H
                by_cases c82 : x63_34 = true
                · subst c82
                  have H1 : (some false) = some r := by rw [if_pos rfl] at H; exact H
                  clear H
                  have H := H1
                  clear H1
                  exact absurd ((Option.some.inj H).trans HRT.out) (by decide)
                · replace c82 := Bool.eq_false_iff.mpr c82
                  subst c82
                  have H1 : ((laws_markIntS.f kj34 t8044 1).bind fun bt8072 => ((laws_heldIntS.f kj34 bt8072.2 1).bind fun t8074 => (if t8074 < 0 then (some false) else (if t8074 = bt8072.1 then ((laws_toImage.f kj34 a0_0 a0_1 a0_2 l0_3).bind fun bt8075 => ((laws_toLayer.f kj34 a1_0 a1_1 a1_2 l1_3 a1_4 a1_5 a1_6 a1_7 a1_8).bind fun bt8081 => ((impl_DirtyTiles.f kj34 bt8075.1 bt8075.2.1 bt8075.2.2.1 bt8075.2.2.2 bt8081.1 bt8081.2.1 bt8081.2.2.1 bt8081.2.2.2.1 bt8081.2.2.2.2.1 bt8081.2.2.2.2.2.1 bt8081.2.2.2.2.2.2.1 bt8081.2.2.2.2.2.2.2.1 bt8081.2.2.2.2.2.2.2.2).bind fun t8092 => ((laws_eqIntS.f kj34 t8092 t8022).bind fun t8095 => (if t8095 = true then ((laws_heldIntS.f kj34 bt8072.2 1).bind fun t8096 => (if t8096 < 0 then (some false) else (if t8096 = bt8072.1 then (some true) else (some false)))) else (some false)))))) else (some false))))) = some r := by rw [if_neg (show ¬ (false = true) by decide)] at H; exact H
                  clear H
                  have H := H1
                  clear H1
                  replace H := Option.bind_eq_some_iff.mp H
                  obtain ⟨⟨t8072, t8073⟩, A830, H⟩ := H
                  replace H : ((laws_heldIntS.f kj34 t8073 1).bind fun t8074 => (if t8074 < 0 then (some false) else (if t8074 = t8072 then ((laws_toImage.f kj34 a0_0 a0_1 a0_2 l0_3).bind fun bt8075 => ((laws_toLayer.f kj34 a1_0 a1_1 a1_2 l1_3 a1_4 a1_5 a1_6 a1_7 a1_8).bind fun bt8081 => ((impl_DirtyTiles.f kj34 bt8075.1 bt8075.2.1 bt8075.2.2.1 bt8075.2.2.2 bt8081.1 bt8081.2.1 bt8081.2.2.1 bt8081.2.2.2.1 bt8081.2.2.2.2.1 bt8081.2.2.2.2.2.1 bt8081.2.2.2.2.2.2.1 bt8081.2.2.2.2.2.2.2.1 bt8081.2.2.2.2.2.2.2.2).bind fun t8092 => ((laws_eqIntS.f kj34 t8092 t8022).bind fun t8095 => (if t8095 = true then ((laws_heldIntS.f kj34 t8073 1).bind fun t8096 => (if t8096 < 0 then (some false) else (if t8096 = t8072 then (some true) else (some false)))) else (some false)))))) else (some false)))) = some r := H
                  have A83 := Aside0.mk A830
                  clear A830
                  replace H := Option.bind_eq_some_iff.mp H
                  obtain ⟨t8074, A840, H⟩ := H
                  replace H : (if t8074 < 0 then (some false) else (if t8074 = t8072 then ((laws_toImage.f kj34 a0_0 a0_1 a0_2 l0_3).bind fun bt8075 => ((laws_toLayer.f kj34 a1_0 a1_1 a1_2 l1_3 a1_4 a1_5 a1_6 a1_7 a1_8).bind fun bt8081 => ((impl_DirtyTiles.f kj34 bt8075.1 bt8075.2.1 bt8075.2.2.1 bt8075.2.2.2 bt8081.1 bt8081.2.1 bt8081.2.2.1 bt8081.2.2.2.1 bt8081.2.2.2.2.1 bt8081.2.2.2.2.2.1 bt8081.2.2.2.2.2.2.1 bt8081.2.2.2.2.2.2.2.1 bt8081.2.2.2.2.2.2.2.2).bind fun t8092 => ((laws_eqIntS.f kj34 t8092 t8022).bind fun t8095 => (if t8095 = true then ((laws_heldIntS.f kj34 t8073 1).bind fun t8096 => (if t8096 < 0 then (some false) else (if t8096 = t8072 then (some true) else (some false)))) else (some false)))))) else (some false))) = some r := H
                  have A84 := Aside0.mk A840
                  clear A840
                  by_cases c85 : t8074 < 0
                  · rw [if_pos c85] at H
                    have c85b0 : decide (t8074 < 0) = true := decide_eq_true c85
                    clear c85
                    exact absurd ((Option.some.inj H).trans HRT.out) (by decide)
                  · rw [if_neg c85] at H
                    have c85b0 : decide (t8074 < 0) = false := decide_eq_false c85
                    clear c85
                    by_cases c87 : t8074 = t8072
                    · rw [if_pos c87] at H
                      have c87b0 : (t8074 == t8072) = true := beq_iff_eq.mpr c87
                      have c87b1 : (t8074 != t8072) = false := bne_eq_false_iff_eq.mpr c87
                      clear c87
                      replace H := Option.bind_eq_some_iff.mp H
                      obtain ⟨⟨t8075, t8076, t8077, t8078⟩, A880, H⟩ := H
                      replace H : ((laws_toLayer.f kj34 a1_0 a1_1 a1_2 l1_3 a1_4 a1_5 a1_6 a1_7 a1_8).bind fun bt8081 => ((impl_DirtyTiles.f kj34 t8075 t8076 t8077 t8078 bt8081.1 bt8081.2.1 bt8081.2.2.1 bt8081.2.2.2.1 bt8081.2.2.2.2.1 bt8081.2.2.2.2.2.1 bt8081.2.2.2.2.2.2.1 bt8081.2.2.2.2.2.2.2.1 bt8081.2.2.2.2.2.2.2.2).bind fun t8092 => ((laws_eqIntS.f kj34 t8092 t8022).bind fun t8095 => (if t8095 = true then ((laws_heldIntS.f kj34 t8073 1).bind fun t8096 => (if t8096 < 0 then (some false) else (if t8096 = t8072 then (some true) else (some false)))) else (some false))))) = some r := H
                      have A88 := Aside0.mk A880
                      clear A880
                      replace H := Option.bind_eq_some_iff.mp H
                      obtain ⟨⟨t8081, t8082, t8083, t8084, t8087, t8088, t8089, t8090, t8091⟩, A890, H⟩ := H
                      replace H : ((impl_DirtyTiles.f kj34 t8075 t8076 t8077 t8078 t8081 t8082 t8083 t8084 t8087 t8088 t8089 t8090 t8091).bind fun t8092 => ((laws_eqIntS.f kj34 t8092 t8022).bind fun t8095 => (if t8095 = true then ((laws_heldIntS.f kj34 t8073 1).bind fun t8096 => (if t8096 < 0 then (some false) else (if t8096 = t8072 then (some true) else (some false)))) else (some false)))) = some r := H
                      have A89 := Aside0.mk A890
                      clear A890
                      replace H := Option.bind_eq_some_iff.mp H
                      obtain ⟨t8092, A900, H⟩ := H
                      replace H : ((laws_eqIntS.f kj34 t8092 t8022).bind fun t8095 => (if t8095 = true then ((laws_heldIntS.f kj34 t8073 1).bind fun t8096 => (if t8096 < 0 then (some false) else (if t8096 = t8072 then (some true) else (some false)))) else (some false))) = some r := H
                      have A90 := Aside0.mk A900
                      clear A900
                      replace H := Option.bind_eq_some_iff.mp H
                      obtain ⟨t8095, A910, H⟩ := H
                      replace H : (if t8095 = true then ((laws_heldIntS.f kj34 t8073 1).bind fun t8096 => (if t8096 < 0 then (some false) else (if t8096 = t8072 then (some true) else (some false)))) else (some false)) = some r := H
                      have A91 := Aside0.mk A910
                      clear A910
                      by_cases c92 : t8095 = true
                      · subst c92
                        have H1 : ((laws_heldIntS.f kj34 t8073 1).bind fun t8096 => (if t8096 < 0 then (some false) else (if t8096 = t8072 then (some true) else (some false)))) = some r := by rw [if_pos rfl] at H; exact H
                        clear H
                        have H := H1
                        clear H1
                        replace H := Option.bind_eq_some_iff.mp H
                        obtain ⟨t8096, A930, H⟩ := H
                        replace H : (if t8096 < 0 then (some false) else (if t8096 = t8072 then (some true) else (some false))) = some r := H
                        have A93 := Aside0.mk A930
                        clear A930
                        by_cases c94 : t8096 < 0
                        · rw [if_pos c94] at H
                          have c94b0 : decide (t8096 < 0) = true := decide_eq_true c94
                          clear c94
                          exact absurd ((Option.some.inj H).trans HRT.out) (by decide)
                        · rw [if_neg c94] at H
                          have c94b0 : decide (t8096 < 0) = false := decide_eq_false c94
                          clear c94
                          by_cases c103 : t8096 = t8072
                          · rw [if_pos c103] at H
                            have c103b0 : (t8096 == t8072) = true := beq_iff_eq.mpr c103
                            have c103b1 : (t8096 != t8072) = false := bne_eq_false_iff_eq.mpr c103
                            clear c103
                            obtain rfl := Option.some.inj H
                            try go_wp2_with (first | ((with_reducible refine gate_callee (f := 46) rfl ?_); refine goesL_ (some 66) rfl rfl Try.func46 (by kernel_rfl) rfl #[.slice Ao66 t8044.length co66, .int .i64 1] rfl (by (try simp only [List.map_toArray, List.map_cons, List.map_nil]); first | done | rfl | (simp only [List.length_drop, List.length_take]; rfl)) ?_; (with_reducible refine (laws_markIntS.calls kj34 (fun k_ => some k_ = (.slice Ao66 t8044.length co66 : Value).ownBlock) (.slice Ao66 t8044.length co66) t8044 1 t8072 t8073 w _ ?side1 ?side2 A83.out).mono ?_); (case side1 => repeat (first | (with_reducible first | exact HB.out | apply below_alloc | apply pw_below_drewN | apply below_drew1 | refine below_set ?_ GE8001.out | refine below_set ?_ GE8002.out | refine below_set ?_ GE8031.out | refine below_set ?_ GE8043.out) | exact HB.out)); (case side2 => exact Kd.R_tight rfl HO_9.out); rintro e w104 ⟨rfl, hy0, hb, hkp⟩; refine ⟨_, rfl, ?_⟩; have n0_ := Aside0.mk (Kd.R_mono (ok' := fun k_ => some k_ ≠ (.slice Ao66 t8044.length co66 : Value).ownBlock ∧ some k_ ≠ (.slice Ao55 t8068.length co55 : Value).ownBlock ∧ some k_ ≠ (.slice Ao63 t8070.length co63 : Value).ownBlock) (Kd.R_keptB (HO_6.out) hkp (fun k_ hk_ hs_ => by first | exact (hk_.1) hs_ | exact absurd hs_ (by simp [hk_]))) (fun k_ hk_ => by first | exact ⟨hk_.1.1, hk_.1.2.1, hk_.1.2.2⟩ | simp [hk_])); have n1_ := Aside0.mk (Kd.R_reok rfl hy0 (fun k_ e_ => HO_9.out.1 k_ e_)); have n2_ := Aside0.mk (Kd.R_mono (ok' := fun k_ => some k_ ≠ (.slice Ao67 t8022.length co67 : Value).ownBlock ∧ some k_ ≠ (.slice Ao66 t8044.length co66 : Value).ownBlock ∧ some k_ ≠ (.slice Ao63 t8070.length co63 : Value).ownBlock) (Kd.R_keptB (HO_8032003.out) hkp (fun k_ hk_ hs_ => by first | exact (hk_.2.1) hs_ | exact absurd hs_ (by simp [hk_]))) (fun k_ hk_ => by first | exact ⟨hk_.1.1, hk_.1.2.1, hk_.1.2.2⟩ | simp [hk_])); have n3_ := Aside0.mk (Kd.R_mono (ok' := fun k_ => some k_ ≠ (.slice Ao67 t8022.length co67 : Value).ownBlock ∧ some k_ ≠ (.slice Ao66 t8044.length co66 : Value).ownBlock ∧ some k_ ≠ (.slice Ao55 t8068.length co55 : Value).ownBlock) (Kd.R_keptB (HO_8044003.out) hkp (fun k_ hk_ hs_ => by first | exact (hk_.2.1) hs_ | exact absurd hs_ (by simp [hk_]))) (fun k_ hk_ => by first | exact ⟨hk_.1.1, hk_.1.2.1, hk_.1.2.2⟩ | simp [hk_])); have n4_ := Aside0.mk (blk_kept (by (with_reducible repeat (first | refine blk_drewN ?_ _ | refine blk_drew ?_ | refine blk_alloc ?_ _)); exact BK8001.out) hkp (fun hs_ => (fun e_ => (Kd.R_ne HO_9.out BK8001.out (by decide)) e_) hs_)); have n5_ := Aside0.mk (blk_kept (by (with_reducible repeat (first | refine blk_drewN ?_ _ | refine blk_drew ?_ | refine blk_alloc ?_ _)); exact BK8002.out) hkp (fun hs_ => (fun e_ => (Kd.R_ne HO_9.out BK8002.out (by decide)) e_) hs_)); have n6_ := Aside0.mk (blk_kept (by (with_reducible repeat (first | refine blk_drewN ?_ _ | refine blk_drew ?_ | refine blk_alloc ?_ _)); exact BK8031.out) hkp (fun hs_ => (fun e_ => (Kd.R_ne HO_9.out BK8031.out (by decide)) e_) hs_)); have n7_ := Aside0.mk (blk_kept (by (with_reducible repeat (first | refine blk_drewN ?_ _ | refine blk_drew ?_ | refine blk_alloc ?_ _)); exact BK8043.out) hkp (fun hs_ => (fun e_ => (Kd.R_ne HO_9.out BK8043.out (by decide)) e_) hs_)); have n8_ := Aside0.mk (hb); clear HO_6; clear HO_9; clear HO_8032003; clear HO_8044003; clear BK8001; clear BK8002; clear BK8031; clear BK8043; clear HB; have HO_6 := n0_; have HO_9 := n1_; have HO_8032003 := n2_; have HO_8044003 := n3_; have BK8001 := n4_; have BK8002 := n5_; have BK8031 := n6_; have BK8043 := n7_; have HB := n8_; clear n0_ n1_ n2_ n3_ n4_ n5_ n6_ n7_ n8_; (try clear hb); (try clear hkp); (try clear hy0)) | ((with_reducible refine gate_callee (f := 47) rfl ?_); refine goesL_ (some 69) rfl rfl Try.func47 (by kernel_rfl) rfl #[.slice Ao66 t8073.length co66, .int .i64 1] rfl (by (try simp only [List.map_toArray, List.map_cons, List.map_nil]); first | done | (rw [show t8073.length = t8044.length from (Kd.R_reads' HO_9.out).1.symm] <;> rfl) | rfl | (simp only [List.length_drop, List.length_take]; rfl)) ?_; (with_reducible refine (laws_heldIntS.calls kj34 _ _ t8073 1 t8074 _ ?side1 ?side2 A84.out).mono ?_); (case side1 => repeat (first | exact (Kd.R_reads' HO_9.out).2.2 | (with_reducible refine Kd.C_alloc ?_ _) | (with_reducible refine Kd.C_drewN ?_ _) | (with_reducible refine Kd.C_drew ?_))); (case side2 => rw [show t8073.length = t8044.length from (Kd.R_reads' HO_9.out).1.symm]; exact (Kd.R_reads' HO_9.out).2.1); rintro e w' ⟨rfl, ⟨nd, rfl⟩⟩; refine ⟨_, rfl, ?_⟩))
                            (try (rw [drewN_self w104]; generalize hq_ : World.drewN w104 _ = w104; have n0_ : Aside0 (Kd.R (Kd.int .i64) 3 w104 w.heap.size (fun k_ => some k_ ≠ (.slice Ao55 t8068.length co55 : Value).ownBlock ∧ some k_ ≠ (.slice Ao63 t8070.length co63 : Value).ownBlock ∧ some k_ ≠ (.slice Ao66 t8044.length co66 : Value).ownBlock) (.slice Ao67 t8022.length co67) t8022) := ⟨by rw [← hq_]; exact (by (with_reducible repeat (first | apply Kd.R_alloc | apply Kd.R_drewN | apply Kd.R_drew)); exact Kd.R_mono HO_6.out (fun _ hk => ⟨hk.2.1, ⟨hk.2.2, hk.1⟩⟩))⟩; have n1_ : Aside0 (Kd.R (Kd.int .i64) 3 w104 w.heap.size (fun k_ => some k_ ≠ (.slice Ao67 t8022.length co67 : Value).ownBlock ∧ some k_ ≠ (.slice Ao63 t8070.length co63 : Value).ownBlock ∧ some k_ ≠ (.slice Ao66 t8044.length co66 : Value).ownBlock) (.slice Ao55 t8068.length co55) t8068) := ⟨by rw [← hq_]; exact (by (with_reducible repeat (first | apply Kd.R_alloc | apply Kd.R_drewN | apply Kd.R_drew)); exact Kd.R_mono HO_8032003.out (fun _ hk => ⟨hk.1, ⟨hk.2.2, hk.2.1⟩⟩))⟩; have n2_ : Aside0 (Kd.R (Kd.int .i64) 3 w104 w.heap.size (fun k_ => some k_ ≠ (.slice Ao67 t8022.length co67 : Value).ownBlock ∧ some k_ ≠ (.slice Ao55 t8068.length co55 : Value).ownBlock ∧ some k_ ≠ (.slice Ao66 t8044.length co66 : Value).ownBlock) (.slice Ao63 t8070.length co63) t8070) := ⟨by rw [← hq_]; exact (by (with_reducible repeat (first | apply Kd.R_alloc | apply Kd.R_drewN | apply Kd.R_drew)); exact Kd.R_mono HO_8044003.out (fun _ hk => ⟨hk.1, ⟨hk.2.2, hk.2.1⟩⟩))⟩; have n3_ : Aside0 (Kd.R (Kd.int .i64) 3 w104 w.heap.size (fun k_ => some k_ ≠ (.slice Ao67 t8022.length co67 : Value).ownBlock ∧ some k_ ≠ (.slice Ao55 t8068.length co55 : Value).ownBlock ∧ some k_ ≠ (.slice Ao63 t8070.length co63 : Value).ownBlock) (.slice Ao66 t8044.length co66) t8073) := ⟨by rw [← hq_]; exact (by (with_reducible repeat (first | apply Kd.R_alloc | apply Kd.R_drewN | apply Kd.R_drew)); exact HO_9.out)⟩; have n4_ : Aside0 (w104.heap[gb8001]? = some (.cells #[.int .i64 a0_0, .int .i64 a0_1, .int .i64 a0_2, .slice A0_3 l0_3.length c0_3] 24 (0, 0))) := ⟨by rw [← hq_]; exact (by (with_reducible repeat (first | refine blk_drewN ?_ _ | refine blk_drew ?_ | refine blk_alloc ?_ _)); exact BK8001.out)⟩; have n5_ : Aside0 (w104.heap[gb8002]? = some (.cells #[.int .i64 a1_0, .int .i64 a1_1, .int .i64 a1_2, .slice A1_3 l1_3.length c1_3, .int .i64 a1_4, .int .i64 a1_5, .int .i64 a1_6, .int .i64 a1_7, .bool a1_8] 51 (0, 0))) := ⟨by rw [← hq_]; exact (by (with_reducible repeat (first | refine blk_drewN ?_ _ | refine blk_drew ?_ | refine blk_alloc ?_ _)); exact BK8002.out)⟩; have n6_ : Aside0 (w104.heap[gb8031]? = some (.cells #[.int .i64 t8025, .int .i64 t8026, .int .i64 t8027, .slice Ao55 t8068.length co55] 27 (0, 0))) := ⟨by rw [← hq_]; exact (by (with_reducible repeat (first | refine blk_drewN ?_ _ | refine blk_drew ?_ | refine blk_alloc ?_ _)); exact BK8031.out)⟩; have n7_ : Aside0 (w104.heap[gb8043]? = some (.cells #[.int .i64 t8032, .int .i64 t8033, .int .i64 t8034, .slice Ao63 t8070.length co63, .int .i64 t8038, .int .i64 t8039, .int .i64 t8040, .int .i64 t8041, .bool t8042] 55 (0, 0))) := ⟨by rw [← hq_]; exact (by (with_reducible repeat (first | refine blk_drewN ?_ _ | refine blk_drew ?_ | refine blk_alloc ?_ _)); exact BK8043.out)⟩; have n8_ : Aside0 (Below w.heap.size w w104) := ⟨by rw [← hq_]; exact (by repeat (first | (with_reducible first | exact HB.out | apply below_alloc | apply pw_below_drewN | apply below_drew1 | refine below_set ?_ GE8001.out | refine below_set ?_ GE8002.out | refine below_set ?_ GE8031.out | refine below_set ?_ GE8043.out) | exact HB.out))⟩; clear HO_6 HO_8032003 HO_8044003 HO_9 BK8001 BK8002 BK8031 BK8043 HB hq_; have HO_6 := n0_; have HO_8032003 := n1_; have HO_8044003 := n2_; have HO_9 := n3_; have BK8001 := n4_; have BK8002 := n5_; have BK8031 := n6_; have BK8043 := n7_; have HB := n8_; clear n0_ n1_ n2_ n3_ n4_ n5_ n6_ n7_ n8_))
                            have n0_ := Aside0.mk (Kd.R_drew HO_6.out)
                            have n1_ := Aside0.mk (Kd.R_drew HO_9.out)
                            have n2_ := Aside0.mk (Kd.R_drew HO_8032003.out)
                            have n3_ := Aside0.mk (Kd.R_drew HO_8044003.out)
                            have n4_ := Aside0.mk (blk_drew BK8001.out)
                            have n5_ := Aside0.mk (blk_drew BK8002.out)
                            have n6_ := Aside0.mk (blk_drew BK8031.out)
                            have n7_ := Aside0.mk (blk_drew BK8043.out)
                            have n8_ := Aside0.mk (below_drew1 HB.out)
                            clear HO_6
                            clear HO_9
                            clear HO_8032003
                            clear HO_8044003
                            clear BK8001
                            clear BK8002
                            clear BK8031
                            clear BK8043
                            clear HB
                            have HO_6 := n0_
                            have HO_9 := n1_
                            have HO_8032003 := n2_
                            have HO_8044003 := n3_
                            have BK8001 := n4_
                            have BK8002 := n5_
                            have BK8031 := n6_
                            have BK8043 := n7_
                            have HB := n8_
                            clear n0_ n1_ n2_ n3_ n4_ n5_ n6_ n7_ n8_
                            refine start_ (n := 6) (S := fun w' => w'.cell? ⟨gb8001, 0, none⟩ = some (.int .i64 a0_0) ∧ w'.cell? ⟨gb8001, 1, none⟩ = some (.int .i64 a0_1) ∧ w'.cell? ⟨gb8001, 2, none⟩ = some (.int .i64 a0_2) ∧ w'.cell? ⟨gb8001, 3, none⟩ = some (.slice A0_3 l0_3.length c0_3) ∧ w'.cell? ⟨gb8002, 0, none⟩ = some (.int .i64 a1_0) ∧ w'.cell? ⟨gb8002, 1, none⟩ = some (.int .i64 a1_1) ∧ w'.cell? ⟨gb8002, 2, none⟩ = some (.int .i64 a1_2) ∧ w'.cell? ⟨gb8002, 3, none⟩ = some (.slice A1_3 l1_3.length c1_3) ∧ w'.cell? ⟨gb8002, 4, none⟩ = some (.int .i64 a1_4) ∧ w'.cell? ⟨gb8002, 5, none⟩ = some (.int .i64 a1_5) ∧ w'.cell? ⟨gb8002, 6, none⟩ = some (.int .i64 a1_6) ∧ w'.cell? ⟨gb8002, 7, none⟩ = some (.int .i64 a1_7) ∧ w'.cell? ⟨gb8002, 8, none⟩ = some (.bool a1_8)) (ds := []) #[false, false, false, false, false, false] (by kernel_rfl) rfl rfl ⟨(blk_cell BK8001.out 0).trans rfl, (blk_cell BK8001.out 1).trans rfl, (blk_cell BK8001.out 2).trans rfl, (blk_cell BK8001.out 3).trans rfl, (blk_cell BK8002.out 0).trans rfl, (blk_cell BK8002.out 1).trans rfl, (blk_cell BK8002.out 2).trans rfl, (blk_cell BK8002.out 3).trans rfl, (blk_cell BK8002.out 4).trans rfl, (blk_cell BK8002.out 5).trans rfl, (blk_cell BK8002.out 6).trans rfl, (blk_cell BK8002.out 7).trans rfl, (blk_cell BK8002.out 8).trans rfl⟩ (fun hHeld => ?_)
                            generalize w104.drew = w105 at HO_6 HO_9 HO_8032003 HO_8044003 BK8001 BK8002 BK8031 BK8043 HB hHeld ⊢
                            refine take_ (i := 0) (N := some 75) (v := ?_) (a' := ?_) #[true, false, false, false, false, false] rfl rfl (by kernel_rfl) (fun _ _ _ h => h) (Or.inl ⟨by rfl, ?_⟩) hHeld ?_ ?_
                            rotate_left
                            · rintro w' ⟨s0, s1, s2, s3, s4, s5, s6, s7, s8, s9, s10, s11, s12⟩
                              go_simp
                              with_reducible rfl
                            rotate_left
                            · simp only [Act.put, List.setIfInBounds_toArray, List.set_cons_zero, List.set_cons_succ, i64_w, i32_w]
                              rfl
                            refine take_ (i := 2) (N := some 77) (v := ?_) (a' := ?_) #[true, false, true, false, false, false] rfl rfl (by kernel_rfl) (fun _ _ _ h => h) (Or.inl ⟨by rfl, ?_⟩) hHeld ?_ ?_
                            rotate_left
                            · rintro w' ⟨s0, s1, s2, s3, s4, s5, s6, s7, s8, s9, s10, s11, s12⟩
                              go_simp
                              with_reducible rfl
                            rotate_left
                            · simp only [Act.put, List.setIfInBounds_toArray, List.set_cons_zero, List.set_cons_succ, i64_w, i32_w]
                              rfl
                            refine one_ (i := 1) (N := some 76) #[true, true, true, false, false, false] rfl rfl (by kernel_rfl) (by decide) (fun K hK => ?_)
                            refine goes_ Try.func22 (by kernel_rfl) rfl #[.agg #[.int .i64 a0_0, .int .i64 a0_1, .int .i64 a0_2, .slice A0_3 l0_3.length c0_3]] (by rfl) rfl rfl (by (try simp only [List.map_toArray, List.map_cons, List.map_nil]); first | done | rfl | (simp only [List.length_drop, List.length_take]; rfl)) ?_
                            with_reducible refine (laws_toImage.calls kj34 a0_0 a0_1 a0_2 _ _ l0_3 t8075 t8076 t8077 t8078 _ ?side1 ?side2 A88.out).mono ?_
                            (case side1 => repeat (first | exact (Kd.C_below HR0_3.out HB.out) | (with_reducible refine Kd.C_alloc ?_ _) | (with_reducible refine Kd.C_drewN ?_ _) | (with_reducible refine Kd.C_drew ?_)))
                            (case side2 => exact HC0_3.out)
                            rintro e w106 ⟨v8079, rfl, ho0, hb⟩
                            refine ⟨_, rfl, ?_⟩
                            have n0_ := Aside0.mk (Kd.R_elder' (by (with_reducible repeat (first | apply Kd.R_alloc | apply Kd.R_drewN | apply Kd.R_drew)); exact HO_6.out) (Kd.R_base ho0) hb)
                            have n1_ := Aside0.mk (Kd.R_elder' (by (with_reducible repeat (first | apply Kd.R_alloc | apply Kd.R_drewN | apply Kd.R_drew)); exact HO_9.out) (Kd.R_base ho0) hb)
                            have n2_ := Aside0.mk (Kd.R_elder' (by (with_reducible repeat (first | apply Kd.R_alloc | apply Kd.R_drewN | apply Kd.R_drew)); exact HO_8032003.out) (Kd.R_base ho0) hb)
                            have n3_ := Aside0.mk (Kd.R_elder' (by (with_reducible repeat (first | apply Kd.R_alloc | apply Kd.R_drewN | apply Kd.R_drew)); exact HO_8044003.out) (Kd.R_base ho0) hb)
                            have n4_ := Aside0.mk (Kd.R_lower (Kd.R_new' (Kd.R_new' (Kd.R_new' (Kd.R_new' ho0 (Kd.R_lt (by (with_reducible repeat (first | apply Kd.R_alloc | apply Kd.R_drewN | apply Kd.R_drew)); exact HO_6.out))) (Kd.R_lt (by (with_reducible repeat (first | apply Kd.R_alloc | apply Kd.R_drewN | apply Kd.R_drew)); exact HO_9.out))) (Kd.R_lt (by (with_reducible repeat (first | apply Kd.R_alloc | apply Kd.R_drewN | apply Kd.R_drew)); exact HO_8032003.out))) (Kd.R_lt (by (with_reducible repeat (first | apply Kd.R_alloc | apply Kd.R_drewN | apply Kd.R_drew)); exact HO_8044003.out))) (below_size (by repeat (first | (with_reducible first | exact HB.out | apply below_alloc | apply pw_below_drewN | apply below_drew1 | refine below_set ?_ GE8001.out | refine below_set ?_ GE8002.out | refine below_set ?_ GE8031.out | refine below_set ?_ GE8043.out) | exact HB.out))))
                            have n5_ := Aside0.mk (blk_below (g := gb8001) (o := .cells #[.int .i64 a0_0, .int .i64 a0_1, .int .i64 a0_2, .slice A0_3 l0_3.length c0_3] 24 (0, 0)) (by (with_reducible repeat (first | refine blk_drewN ?_ _ | refine blk_drew ?_ | refine blk_alloc ?_ _)); exact BK8001.out) hb)
                            have n6_ := Aside0.mk (blk_below (g := gb8002) (o := .cells #[.int .i64 a1_0, .int .i64 a1_1, .int .i64 a1_2, .slice A1_3 l1_3.length c1_3, .int .i64 a1_4, .int .i64 a1_5, .int .i64 a1_6, .int .i64 a1_7, .bool a1_8] 51 (0, 0)) (by (with_reducible repeat (first | refine blk_drewN ?_ _ | refine blk_drew ?_ | refine blk_alloc ?_ _)); exact BK8002.out) hb)
                            have n7_ := Aside0.mk (blk_below (g := gb8031) (o := .cells #[.int .i64 t8025, .int .i64 t8026, .int .i64 t8027, .slice Ao55 t8068.length co55] 27 (0, 0)) (by (with_reducible repeat (first | refine blk_drewN ?_ _ | refine blk_drew ?_ | refine blk_alloc ?_ _)); exact BK8031.out) hb)
                            have n8_ := Aside0.mk (blk_below (g := gb8043) (o := .cells #[.int .i64 t8032, .int .i64 t8033, .int .i64 t8034, .slice Ao63 t8070.length co63, .int .i64 t8038, .int .i64 t8039, .int .i64 t8040, .int .i64 t8041, .bool t8042] 55 (0, 0)) (by (with_reducible repeat (first | refine blk_drewN ?_ _ | refine blk_drew ?_ | refine blk_alloc ?_ _)); exact BK8043.out) hb)
                            have n9_ := Aside0.mk (below_step (by repeat (first | (with_reducible first | exact HB.out | apply below_alloc | apply pw_below_drewN | apply below_drew1 | refine below_set ?_ GE8001.out | refine below_set ?_ GE8002.out | refine below_set ?_ GE8031.out | refine below_set ?_ GE8043.out) | exact HB.out)) hb)
                            clear HO_6
                            clear HO_9
                            clear HO_8032003
                            clear HO_8044003
                            clear BK8001
                            clear BK8002
                            clear BK8031
                            clear BK8043
                            clear HB
                            have HO_6 := n0_
                            have HO_9 := n1_
                            have HO_8032003 := n2_
                            have HO_8044003 := n3_
                            have HO8080 := n4_
                            have BK8001 := n5_
                            have BK8002 := n6_
                            have BK8031 := n7_
                            have BK8043 := n8_
                            have HB := n9_
                            clear n0_ n1_ n2_ n3_ n4_ n5_ n6_ n7_ n8_ n9_
                            (try clear hb)
                            (try clear hb2)
                            (try clear hk)
                            (try clear hi)
                            (try clear ho0)
                            refine hK.out _ _ ⟨(blk_cell BK8001.out 0).trans rfl, (blk_cell BK8001.out 1).trans rfl, (blk_cell BK8001.out 2).trans rfl, (blk_cell BK8001.out 3).trans rfl, (blk_cell BK8002.out 0).trans rfl, (blk_cell BK8002.out 1).trans rfl, (blk_cell BK8002.out 2).trans rfl, (blk_cell BK8002.out 3).trans rfl, (blk_cell BK8002.out 4).trans rfl, (blk_cell BK8002.out 5).trans rfl, (blk_cell BK8002.out 6).trans rfl, (blk_cell BK8002.out 7).trans rfl, (blk_cell BK8002.out 8).trans rfl⟩ (fun hHeld => ?_)
                            clear hK K
                            refine norm_ (a' := ?_) ?_ ?_
                            rotate_left
                            · show Act.put _ (some 76) _ = _
                              simp only [Act.put, List.setIfInBounds_toArray, List.set_cons_zero, List.set_cons_succ, i64_w, i32_w]
                              rfl
                            refine one_ (i := 3) (N := some 78) #[true, true, true, true, false, false] rfl rfl (by kernel_rfl) (by decide) (fun K hK => ?_)
                            refine goes_ Try.func41 (by kernel_rfl) rfl #[.agg #[.int .i64 a1_0, .int .i64 a1_1, .int .i64 a1_2, .slice A1_3 l1_3.length c1_3, .int .i64 a1_4, .int .i64 a1_5, .int .i64 a1_6, .int .i64 a1_7, .bool a1_8]] (by rfl) rfl rfl (by (try simp only [List.map_toArray, List.map_cons, List.map_nil]); first | done | rfl | (simp only [List.length_drop, List.length_take]; rfl)) ?_
                            with_reducible refine (laws_toLayer.calls kj34 a1_0 a1_1 a1_2 _ _ l1_3 a1_4 a1_5 a1_6 a1_7 a1_8 t8081 t8082 t8083 t8084 t8087 t8088 t8089 t8090 t8091 _ ?side1 ?side2 A89.out).mono ?_
                            (case side1 => repeat (first | exact (Kd.C_below HR1_3.out HB.out) | (with_reducible refine Kd.C_alloc ?_ _) | (with_reducible refine Kd.C_drewN ?_ _) | (with_reducible refine Kd.C_drew ?_)))
                            (case side2 => exact HC1_3.out)
                            rintro e w107 ⟨v8085, rfl, ho0, hb⟩
                            refine ⟨_, rfl, ?_⟩
                            have n0_ := Aside0.mk (Kd.R_elder' (by (with_reducible repeat (first | apply Kd.R_alloc | apply Kd.R_drewN | apply Kd.R_drew)); exact HO_6.out) (Kd.R_base ho0) hb)
                            have n1_ := Aside0.mk (Kd.R_elder' (by (with_reducible repeat (first | apply Kd.R_alloc | apply Kd.R_drewN | apply Kd.R_drew)); exact HO_9.out) (Kd.R_base ho0) hb)
                            have n2_ := Aside0.mk (Kd.R_elder' (by (with_reducible repeat (first | apply Kd.R_alloc | apply Kd.R_drewN | apply Kd.R_drew)); exact HO_8032003.out) (Kd.R_base ho0) hb)
                            have n3_ := Aside0.mk (Kd.R_elder' (by (with_reducible repeat (first | apply Kd.R_alloc | apply Kd.R_drewN | apply Kd.R_drew)); exact HO_8044003.out) (Kd.R_base ho0) hb)
                            have n4_ := Aside0.mk (Kd.R_elder' (by (with_reducible repeat (first | apply Kd.R_alloc | apply Kd.R_drewN | apply Kd.R_drew)); exact HO8080.out) (Kd.R_base ho0) hb)
                            have n5_ := Aside0.mk (Kd.R_lower (Kd.R_new' (Kd.R_new' (Kd.R_new' (Kd.R_new' (Kd.R_new' ho0 (Kd.R_lt (by (with_reducible repeat (first | apply Kd.R_alloc | apply Kd.R_drewN | apply Kd.R_drew)); exact HO_6.out))) (Kd.R_lt (by (with_reducible repeat (first | apply Kd.R_alloc | apply Kd.R_drewN | apply Kd.R_drew)); exact HO_9.out))) (Kd.R_lt (by (with_reducible repeat (first | apply Kd.R_alloc | apply Kd.R_drewN | apply Kd.R_drew)); exact HO_8032003.out))) (Kd.R_lt (by (with_reducible repeat (first | apply Kd.R_alloc | apply Kd.R_drewN | apply Kd.R_drew)); exact HO_8044003.out))) (Kd.R_lt (by (with_reducible repeat (first | apply Kd.R_alloc | apply Kd.R_drewN | apply Kd.R_drew)); exact HO8080.out))) (below_size (by repeat (first | (with_reducible first | exact HB.out | apply below_alloc | apply pw_below_drewN | apply below_drew1 | refine below_set ?_ GE8001.out | refine below_set ?_ GE8002.out | refine below_set ?_ GE8031.out | refine below_set ?_ GE8043.out) | exact HB.out))))
                            have n6_ := Aside0.mk (blk_below (g := gb8001) (o := .cells #[.int .i64 a0_0, .int .i64 a0_1, .int .i64 a0_2, .slice A0_3 l0_3.length c0_3] 24 (0, 0)) (by (with_reducible repeat (first | refine blk_drewN ?_ _ | refine blk_drew ?_ | refine blk_alloc ?_ _)); exact BK8001.out) hb)
                            have n7_ := Aside0.mk (blk_below (g := gb8002) (o := .cells #[.int .i64 a1_0, .int .i64 a1_1, .int .i64 a1_2, .slice A1_3 l1_3.length c1_3, .int .i64 a1_4, .int .i64 a1_5, .int .i64 a1_6, .int .i64 a1_7, .bool a1_8] 51 (0, 0)) (by (with_reducible repeat (first | refine blk_drewN ?_ _ | refine blk_drew ?_ | refine blk_alloc ?_ _)); exact BK8002.out) hb)
                            have n8_ := Aside0.mk (blk_below (g := gb8031) (o := .cells #[.int .i64 t8025, .int .i64 t8026, .int .i64 t8027, .slice Ao55 t8068.length co55] 27 (0, 0)) (by (with_reducible repeat (first | refine blk_drewN ?_ _ | refine blk_drew ?_ | refine blk_alloc ?_ _)); exact BK8031.out) hb)
                            have n9_ := Aside0.mk (blk_below (g := gb8043) (o := .cells #[.int .i64 t8032, .int .i64 t8033, .int .i64 t8034, .slice Ao63 t8070.length co63, .int .i64 t8038, .int .i64 t8039, .int .i64 t8040, .int .i64 t8041, .bool t8042] 55 (0, 0)) (by (with_reducible repeat (first | refine blk_drewN ?_ _ | refine blk_drew ?_ | refine blk_alloc ?_ _)); exact BK8043.out) hb)
                            have n10_ := Aside0.mk (below_step (by repeat (first | (with_reducible first | exact HB.out | apply below_alloc | apply pw_below_drewN | apply below_drew1 | refine below_set ?_ GE8001.out | refine below_set ?_ GE8002.out | refine below_set ?_ GE8031.out | refine below_set ?_ GE8043.out) | exact HB.out)) hb)
                            clear HO_6
                            clear HO_9
                            clear HO_8032003
                            clear HO_8044003
                            clear HO8080
                            clear BK8001
                            clear BK8002
                            clear BK8031
                            clear BK8043
                            clear HB
                            have HO_6 := n0_
                            have HO_9 := n1_
                            have HO_8032003 := n2_
                            have HO_8044003 := n3_
                            have HO8080 := n4_
                            have HO8086 := n5_
                            have BK8001 := n6_
                            have BK8002 := n7_
                            have BK8031 := n8_
                            have BK8043 := n9_
                            have HB := n10_
                            clear n0_ n1_ n2_ n3_ n4_ n5_ n6_ n7_ n8_ n9_ n10_
                            (try clear hb)
                            (try clear hb2)
                            (try clear hk)
                            (try clear hi)
                            (try clear ho0)
                            obtain ⟨Ao108, co108, eo108⟩ := Kd.R_slice HO8080.out
                            (first | subst eo108 | (injection eo108 with f1_ f2_ f3_; have f4_ := f1_.symm; have f5_ := f3_.symm; clear f1_ f2_ f3_; subst f4_; subst f5_))
                            obtain ⟨Ao109, co109, eo109⟩ := Kd.R_slice HO8086.out
                            (first | subst eo109 | (injection eo109 with f1_ f2_ f3_; have f4_ := f1_.symm; have f5_ := f3_.symm; clear f1_ f2_ f3_; subst f4_; subst f5_))
                            refine hK.out _ _ ⟨(blk_cell BK8001.out 0).trans rfl, (blk_cell BK8001.out 1).trans rfl, (blk_cell BK8001.out 2).trans rfl, (blk_cell BK8001.out 3).trans rfl, (blk_cell BK8002.out 0).trans rfl, (blk_cell BK8002.out 1).trans rfl, (blk_cell BK8002.out 2).trans rfl, (blk_cell BK8002.out 3).trans rfl, (blk_cell BK8002.out 4).trans rfl, (blk_cell BK8002.out 5).trans rfl, (blk_cell BK8002.out 6).trans rfl, (blk_cell BK8002.out 7).trans rfl, (blk_cell BK8002.out 8).trans rfl⟩ (fun hHeld => ?_)
                            clear hK K
                            refine norm_ (a' := ?_) ?_ ?_
                            rotate_left
                            · show Act.put _ (some 78) _ = _
                              simp only [Act.put, List.setIfInBounds_toArray, List.set_cons_zero, List.set_cons_succ, i64_w, i32_w]
                              rfl
                            refine one_ (i := 4) (N := some 79) #[true, true, true, true, true, false] rfl rfl (by kernel_rfl) (by decide) (fun K hK => ?_)
                            refine goes_ Try.func42 (by kernel_rfl) rfl #[.agg #[.int .i64 t8075, .int .i64 t8076, .int .i64 t8077, .slice Ao108 t8078.length co108], .agg #[.int .i64 t8081, .int .i64 t8082, .int .i64 t8083, .slice Ao109 t8084.length co109, .int .i64 t8087, .int .i64 t8088, .int .i64 t8089, .int .i64 t8090, .bool t8091]] (by rfl) rfl rfl (by (try simp only [List.map_toArray, List.map_cons, List.map_nil]); first | done | rfl | (simp only [List.length_drop, List.length_take]; rfl)) ?_
                            with_reducible refine (impl_DirtyTiles.calls kj34 t8075 t8076 t8077 _ _ t8078 t8081 t8082 t8083 _ _ t8084 t8087 t8088 t8089 t8090 t8091 t8092 _ ?side1 ?side2 ?side3 ?side4 A90.out).mono ?_
                            (case side1 => repeat (first | exact (Kd.R_reads' HO8080.out).2.2 | (with_reducible refine Kd.C_alloc ?_ _) | (with_reducible refine Kd.C_drewN ?_ _) | (with_reducible refine Kd.C_drew ?_)))
                            (case side2 => exact (Kd.R_reads' HO8080.out).2.1)
                            (case side3 => repeat (first | exact (Kd.R_reads' HO8086.out).2.2 | (with_reducible refine Kd.C_alloc ?_ _) | (with_reducible refine Kd.C_drewN ?_ _) | (with_reducible refine Kd.C_drew ?_)))
                            (case side4 => exact (Kd.R_reads' HO8086.out).2.1)
                            rintro e w110 ⟨v8093, rfl, ho0, hb⟩
                            refine ⟨_, rfl, ?_⟩
                            have n0_ := Aside0.mk (Kd.R_elder' (by (with_reducible repeat (first | apply Kd.R_alloc | apply Kd.R_drewN | apply Kd.R_drew)); exact HO_6.out) (Kd.R_base ho0) hb)
                            have n1_ := Aside0.mk (Kd.R_elder' (by (with_reducible repeat (first | apply Kd.R_alloc | apply Kd.R_drewN | apply Kd.R_drew)); exact HO_9.out) (Kd.R_base ho0) hb)
                            have n2_ := Aside0.mk (Kd.R_elder' (by (with_reducible repeat (first | apply Kd.R_alloc | apply Kd.R_drewN | apply Kd.R_drew)); exact HO_8032003.out) (Kd.R_base ho0) hb)
                            have n3_ := Aside0.mk (Kd.R_elder' (by (with_reducible repeat (first | apply Kd.R_alloc | apply Kd.R_drewN | apply Kd.R_drew)); exact HO_8044003.out) (Kd.R_base ho0) hb)
                            have n4_ := Aside0.mk (Kd.R_elder' (by (with_reducible repeat (first | apply Kd.R_alloc | apply Kd.R_drewN | apply Kd.R_drew)); exact HO8080.out) (Kd.R_base ho0) hb)
                            have n5_ := Aside0.mk (Kd.R_elder' (by (with_reducible repeat (first | apply Kd.R_alloc | apply Kd.R_drewN | apply Kd.R_drew)); exact HO8086.out) (Kd.R_base ho0) hb)
                            have n6_ := Aside0.mk (Kd.R_lower (Kd.R_new' (Kd.R_new' (Kd.R_new' (Kd.R_new' (Kd.R_new' (Kd.R_new' ho0 (Kd.R_lt (by (with_reducible repeat (first | apply Kd.R_alloc | apply Kd.R_drewN | apply Kd.R_drew)); exact HO_6.out))) (Kd.R_lt (by (with_reducible repeat (first | apply Kd.R_alloc | apply Kd.R_drewN | apply Kd.R_drew)); exact HO_9.out))) (Kd.R_lt (by (with_reducible repeat (first | apply Kd.R_alloc | apply Kd.R_drewN | apply Kd.R_drew)); exact HO_8032003.out))) (Kd.R_lt (by (with_reducible repeat (first | apply Kd.R_alloc | apply Kd.R_drewN | apply Kd.R_drew)); exact HO_8044003.out))) (Kd.R_lt (by (with_reducible repeat (first | apply Kd.R_alloc | apply Kd.R_drewN | apply Kd.R_drew)); exact HO8080.out))) (Kd.R_lt (by (with_reducible repeat (first | apply Kd.R_alloc | apply Kd.R_drewN | apply Kd.R_drew)); exact HO8086.out))) (below_size (by repeat (first | (with_reducible first | exact HB.out | apply below_alloc | apply pw_below_drewN | apply below_drew1 | refine below_set ?_ GE8001.out | refine below_set ?_ GE8002.out | refine below_set ?_ GE8031.out | refine below_set ?_ GE8043.out) | exact HB.out))))
                            have n7_ := Aside0.mk (blk_below (g := gb8001) (o := .cells #[.int .i64 a0_0, .int .i64 a0_1, .int .i64 a0_2, .slice A0_3 l0_3.length c0_3] 24 (0, 0)) (by (with_reducible repeat (first | refine blk_drewN ?_ _ | refine blk_drew ?_ | refine blk_alloc ?_ _)); exact BK8001.out) hb)
                            have n8_ := Aside0.mk (blk_below (g := gb8002) (o := .cells #[.int .i64 a1_0, .int .i64 a1_1, .int .i64 a1_2, .slice A1_3 l1_3.length c1_3, .int .i64 a1_4, .int .i64 a1_5, .int .i64 a1_6, .int .i64 a1_7, .bool a1_8] 51 (0, 0)) (by (with_reducible repeat (first | refine blk_drewN ?_ _ | refine blk_drew ?_ | refine blk_alloc ?_ _)); exact BK8002.out) hb)
                            have n9_ := Aside0.mk (blk_below (g := gb8031) (o := .cells #[.int .i64 t8025, .int .i64 t8026, .int .i64 t8027, .slice Ao55 t8068.length co55] 27 (0, 0)) (by (with_reducible repeat (first | refine blk_drewN ?_ _ | refine blk_drew ?_ | refine blk_alloc ?_ _)); exact BK8031.out) hb)
                            have n10_ := Aside0.mk (blk_below (g := gb8043) (o := .cells #[.int .i64 t8032, .int .i64 t8033, .int .i64 t8034, .slice Ao63 t8070.length co63, .int .i64 t8038, .int .i64 t8039, .int .i64 t8040, .int .i64 t8041, .bool t8042] 55 (0, 0)) (by (with_reducible repeat (first | refine blk_drewN ?_ _ | refine blk_drew ?_ | refine blk_alloc ?_ _)); exact BK8043.out) hb)
                            have n11_ := Aside0.mk (below_step (by repeat (first | (with_reducible first | exact HB.out | apply below_alloc | apply pw_below_drewN | apply below_drew1 | refine below_set ?_ GE8001.out | refine below_set ?_ GE8002.out | refine below_set ?_ GE8031.out | refine below_set ?_ GE8043.out) | exact HB.out)) hb)
                            clear HO_6
                            clear HO_9
                            clear HO_8032003
                            clear HO_8044003
                            clear HO8080
                            clear HO8086
                            clear BK8001
                            clear BK8002
                            clear BK8031
                            clear BK8043
                            clear HB
                            have HO_6 := n0_
                            have HO_9 := n1_
                            have HO_8032003 := n2_
                            have HO_8044003 := n3_
                            have HO8080 := n4_
                            have HO8086 := n5_
                            have HO8094 := n6_
                            have BK8001 := n7_
                            have BK8002 := n8_
                            have BK8031 := n9_
                            have BK8043 := n10_
                            have HB := n11_
                            clear n0_ n1_ n2_ n3_ n4_ n5_ n6_ n7_ n8_ n9_ n10_ n11_
                            (try clear hb)
                            (try clear hb2)
                            (try clear hk)
                            (try clear hi)
                            (try clear ho0)
                            refine hK.out _ _ ⟨(blk_cell BK8001.out 0).trans rfl, (blk_cell BK8001.out 1).trans rfl, (blk_cell BK8001.out 2).trans rfl, (blk_cell BK8001.out 3).trans rfl, (blk_cell BK8002.out 0).trans rfl, (blk_cell BK8002.out 1).trans rfl, (blk_cell BK8002.out 2).trans rfl, (blk_cell BK8002.out 3).trans rfl, (blk_cell BK8002.out 4).trans rfl, (blk_cell BK8002.out 5).trans rfl, (blk_cell BK8002.out 6).trans rfl, (blk_cell BK8002.out 7).trans rfl, (blk_cell BK8002.out 8).trans rfl⟩ (fun hHeld => ?_)
                            clear hK K
                            refine norm_ (a' := ?_) ?_ ?_
                            rotate_left
                            · show Act.put _ (some 79) _ = _
                              simp only [Act.put, List.setIfInBounds_toArray, List.set_cons_zero, List.set_cons_succ, i64_w, i32_w]
                              rfl
                            refine pure_ (i := 5) (N := some 13) (v := ?_) (a' := ?_) #[true, true, true, true, true, true] rfl rfl (by kernel_rfl) (fun _ _ _ h => h) (Or.inl ⟨by rfl, ?_⟩) ?_ ?_
                            rotate_left
                            · intro w'
                              go_simp
                              with_reducible rfl
                            rotate_left
                            · simp only [Act.put, List.setIfInBounds_toArray, List.set_cons_zero, List.set_cons_succ, i64_w, i32_w]
                              rfl
                            refine done_ (by kernel_rfl) ?_
                            obtain ⟨Ao111, co111, eo111⟩ := Kd.R_slice HO8094.out
                            subst eo111
                            try go_wp2_with (first | ((with_reducible refine gate_callee (f := 43) rfl ?_); refine goesL_ (some 82) rfl rfl Try.func43 (by kernel_rfl) rfl #[.slice Ao111 t8092.length co111, .slice Ao67 t8022.length co67] rfl (by (try simp only [List.map_toArray, List.map_cons, List.map_nil]); first | done | rfl | (simp only [List.length_drop, List.length_take]; rfl)) ?_; (with_reducible refine (laws_eqIntS.calls kj34 _ _ t8092 _ _ t8022 true _ ?side1 ?side2 ?side3 ?side4 A91.out).mono ?_); (case side1 => repeat (first | exact (Kd.R_reads' HO8094.out).2.2 | (with_reducible refine Kd.C_alloc ?_ _) | (with_reducible refine Kd.C_drewN ?_ _) | (with_reducible refine Kd.C_drew ?_))); (case side2 => exact (Kd.R_reads' HO8094.out).2.1); (case side3 => repeat (first | exact (Kd.R_reads' HO_6.out).2.2 | (with_reducible refine Kd.C_alloc ?_ _) | (with_reducible refine Kd.C_drewN ?_ _) | (with_reducible refine Kd.C_drew ?_))); (case side4 => exact (Kd.R_reads' HO_6.out).2.1); rintro e w' ⟨rfl, ⟨nd, rfl⟩⟩; refine ⟨_, rfl, ?_⟩) | ((with_reducible refine gate_callee (f := 47) rfl ?_); refine goesL_ (some 86) rfl rfl Try.func47 (by kernel_rfl) rfl #[.slice Ao66 t8073.length co66, .int .i64 1] rfl (by (try simp only [List.map_toArray, List.map_cons, List.map_nil]); first | done | (rw [show t8073.length = t8044.length from (Kd.R_reads' HO_9.out).1.symm] <;> rfl) | rfl | (simp only [List.length_drop, List.length_take]; rfl)) ?_; (with_reducible refine (laws_heldIntS.calls kj34 _ _ t8073 1 t8096 _ ?side1 ?side2 A93.out).mono ?_); (case side1 => repeat (first | exact (Kd.R_reads' HO_9.out).2.2 | (with_reducible refine Kd.C_alloc ?_ _) | (with_reducible refine Kd.C_drewN ?_ _) | (with_reducible refine Kd.C_drew ?_))); (case side2 => rw [show t8073.length = t8044.length from (Kd.R_reads' HO_9.out).1.symm]; exact (Kd.R_reads' HO_9.out).2.1); rintro e w' ⟨rfl, ⟨nd, rfl⟩⟩; refine ⟨_, rfl, ?_⟩))
                            go_ret
                            exact ⟨by first | rfl | (simp [errW_none, errW_some] <;> rfl) | (simp [*, errW_none, errW_some] <;> rfl), by repeat (first | (with_reducible first | exact HB.out | apply below_alloc | apply pw_below_drewN | apply below_drew1 | refine below_set ?_ GE8001.out | refine below_set ?_ GE8002.out | refine below_set ?_ GE8031.out | refine below_set ?_ GE8043.out) | exact HB.out)⟩
                          · rw [if_neg c103] at H
                            have c103b0 : (t8096 == t8072) = false := beq_eq_false_iff_ne.mpr c103
                            have c103b1 : (t8096 != t8072) = true := bne_iff_ne.mpr c103
                            exact absurd ((Option.some.inj H).trans HRT.out) (by decide)
                      · replace c92 := Bool.eq_false_iff.mpr c92
                        subst c92
                        have H1 : (some false) = some r := by rw [if_neg (show ¬ (false = true) by decide)] at H; exact H
                        clear H
                        have H := H1
                        clear H1
                        exact absurd ((Option.some.inj H).trans HRT.out) (by decide)
                    · rw [if_neg c87] at H
                      have c87b0 : (t8074 == t8072) = false := beq_eq_false_iff_ne.mpr c87
                      have c87b1 : (t8074 != t8072) = true := bne_iff_ne.mpr c87
                      exact absurd ((Option.some.inj H).trans HRT.out) (by decide)
          · replace c32 := Bool.eq_false_iff.mpr c32
            subst c32
            have H1 : (some false) = some r := by rw [if_neg (show ¬ (false = true) by decide)] at H; exact H
            clear H
            have H := H1
            clear H1
            exact absurd ((Option.some.inj H).trans HRT.out) (by decide)
        · replace c29 := Bool.eq_false_iff.mpr c29
          subst c29
          have H1 : (some false) = some r := by rw [if_neg (show ¬ (false = true) by decide)] at H; exact H
          clear H
          have H := H1
          clear H1
          exact absurd ((Option.some.inj H).trans HRT.out) (by decide)
      · replace c26 := Bool.eq_false_iff.mpr c26
        subst c26
        have H1 : (some false) = some r := by rw [if_neg (show ¬ (false = true) by decide)] at H; exact H
        clear H
        have H := H1
        clear H1
        exact absurd ((Option.some.inj H).trans HRT.out) (by decide)

end Go.Proofs.Ytnofkbbcbpjhfaa.Q

/- What an argument's reading as data tells: numbers, bools, slices and structs of them, by their kinds. -/
namespace Go.Proofs.Ytnofkbbcbpjhfaa.Q
open Go.RowKit Go.Proofs.YtnofkbbcbpjhfaaW.PrintWords Go.Proofs.YtnofkbbcbpjhfaaW.PrintLast Go.Proofs.YtnofkbbcbpjhfaaW.PrintMore
attribute [local go_sem] max2_int min2_int max_two min_two max_three min_three max_four min_four
set_option linter.unusedVariables false
set_option linter.unusedSimpArgs false
open Go.ChangeShapes Go.WideShapes Go.Deep

/-- A number of 64 bits. -/
def I64 (n : Int) : Prop := -9223372036854775808 ≤ n ∧ n ≤ 9223372036854775807
theorem i64_of (n : Int) (h : (Lit.int .i64 n).wf = true) : I64 n := by
  simp only [Lit.wf, Bool.and_eq_true, decide_eq_true_eq] at h
  have e1 : IntKind.min .i64 = -9223372036854775808 := by decide
  have e2 : IntKind.max .i64 = 9223372036854775807 := by decide
  unfold I64
  omega
/-- Whatever reads at type t as data is a y of this kind, of which Q holds. -/
def Opens {α : Type} (P : Program) (t : TypeId) (d : Kd α) (Q : α → Prop) : Prop :=
  ∀ (H : Type) (enc : TypeId × Value → H) (w : World) (fuel : Nat) (cs : List Value) (x : DataW H × List MemPlace),
    DataW.trod enc P w 0 (fun _ => true) true fuel t cs = some x → ∃ y : α, d.K w y cs ∧ Q y
section
variable {P : Program} {t : TypeId} {α β : Type}
theorem opens_i64 (ht : P.underlying t = some (.int .i64)) : Opens P t (Kd.int .i64) I64 := by
  intro H enc w fuel cs x h
  obtain ⟨n, rfl, _, hw⟩ := DataW.trod_int ht h
  exact ⟨n, rfl, i64_of n hw⟩
theorem opens_bool (ht : P.underlying t = some .bool) : Opens P t Kd.bool (fun _ => True) := by
  intro H enc w fuel cs x h
  obtain ⟨b, rfl, _⟩ := DataW.trod_bool ht h
  exact ⟨b, rfl, trivial⟩
theorem opens_slice {e : TypeId} {d : Kd α} {Q : α → Prop} (ht : P.underlying t = some (.slice e)) (hc : P.cellsOf e = d.sz) (ho : Opens P e d Q) :
    Opens P t (Kd.slice e d) (fun l => ∀ x ∈ l, Q x) := by
  intro H enc w fuel cs x h
  rcases open_slice ht h with ⟨rfl, _⟩ | ⟨a, len, cap, m, n, D, Pl, rfl, _, hl, hm, hmm, _, hi⟩
  · exact ⟨[], ⟨none, 0, rfl, Nat.le_refl _, rfl, by simp, fun h0 => absurd h0 (by simp)⟩, fun x hx => absurd hx (by simp)⟩
  · have hmc : m = cap := by simpa using hmm
    subst hmc
    have each : ∀ i, i < len → ∃ y : α, (∃ c, c.length = d.sz ∧ d.K w y c ∧ ∀ j u, c[j]? = some u → w.cell? (a.add (i * d.sz + j)) = some u) ∧ Q y := by
      intro i hil
      obtain ⟨cs', hcs, htr⟩ := hi i (by omega)
      rw [hc] at hcs
      obtain ⟨_, hcl, hat⟩ := World.cells?_some hcs
      obtain ⟨y, hK, hQ⟩ := ho H enc w n cs' _ htr
      refine ⟨y, ⟨cs', hcl, hK, fun j u hu => ?_⟩, hQ⟩
      have hj : j < d.sz := by rw [← hcl]; exact (List.getElem?_eq_some_iff.1 hu).1
      rw [← Go.Deep.add_add, hat j hj, hu]
    have hY : ∃ ys : List α, ys.length = len ∧ ∀ i, i < len → ∃ y, ys[i]? = some y ∧ (∃ c, c.length = d.sz ∧ d.K w y c ∧ ∀ j u, c[j]? = some u → w.cell? (a.add (i * d.sz + j)) = some u) ∧ Q y := by
      have key : ∀ q, q ≤ len → ∃ ys : List α, ys.length = q ∧ ∀ i, i < q → ∃ y, ys[i]? = some y ∧ (∃ c, c.length = d.sz ∧ d.K w y c ∧ ∀ j u, c[j]? = some u → w.cell? (a.add (i * d.sz + j)) = some u) ∧ Q y := by
        intro q
        induction q with
        | zero => intro _; exact ⟨[], rfl, fun i hi' => absurd hi' (by omega)⟩
        | succ q ih =>
          intro hq
          obtain ⟨ys, hyl, hys⟩ := ih (by omega)
          obtain ⟨y, hy⟩ := each q (by omega)
          refine ⟨ys ++ [y], by simp [hyl], fun i hi' => ?_⟩
          by_cases e : i = q
          · subst e
            exact ⟨y, by rw [List.getElem?_append_right (by omega)]; simp [hyl], hy⟩
          · obtain ⟨z, hz, hz2⟩ := hys i (by omega)
            exact ⟨z, by rw [List.getElem?_append_left (by omega)]; exact hz, hz2⟩
      exact key len (Nat.le_refl _)
    obtain ⟨ys, hyl, hys⟩ := hY
    refine ⟨ys, ⟨some a, m, by rw [hyl], by omega, rfl, by rw [hyl]; simp only [maxLen] at hm; omega, fun _ => ⟨a, rfl, fun j p hj => ?_⟩⟩, fun x hx => ?_⟩
    · have hjl : j < len := by rw [← hyl]; exact (List.getElem?_eq_some_iff.1 hj).1
      obtain ⟨y, hy, hc2, _⟩ := hys j hjl
      rw [hy] at hj
      obtain rfl := Option.some.inj hj
      exact hc2
    · obtain ⟨j, hj, rfl⟩ := List.getElem_of_mem hx
      obtain ⟨y, hy, _, hq⟩ := hys j (by omega)
      rw [List.getElem?_eq_getElem hj] at hy
      obtain rfl := Option.some.inj hy
      exact hq
/-- Fields in line, from the cell 'off' on. -/
def OpensF (P : Program) (fs : List Field) (off : Nat) (d : Kd α) (Q : α → Prop) : Prop :=
  ∀ (H : Type) (enc : TypeId × Value → H) (w : World) (n : Nat) (cs : List Value), cs.length = off + d.sz →
    (∀ f ∈ fs, ∃ x, DataW.trod enc P w 0 (fun _ => true) true n f.type ((cs.drop f.offset).take (P.cellsOf f.type)) = some x) → ∃ y : α, d.K w y (cs.drop off) ∧ Q y
theorem opensF_one {f : Field} {off : Nat} {d : Kd α} {Q : α → Prop} (ho : f.offset = off) (hc : P.cellsOf f.type = d.sz) (h : Opens P f.type d Q) : OpensF P [f] off d Q := by
  intro H enc w n cs hl hf
  obtain ⟨x, hx⟩ := hf f (by simp)
  rw [ho, hc, List.take_of_length_le (by rw [List.length_drop]; omega)] at hx
  exact h H enc w n _ _ hx
theorem opensF_cons {f : Field} {fs : List Field} {off : Nat} {d : Kd α} {Q : α → Prop} {d' : Kd β} {Q' : β → Prop} (ho : f.offset = off) (hc : P.cellsOf f.type = d.sz) (h : Opens P f.type d Q) (h' : OpensF P fs (off + d.sz) d' Q') :
    OpensF P (f :: fs) off (Kd.pair d d') (fun p => Q p.1 ∧ Q' p.2) := by
  intro H enc w n cs hl hf
  have hl' : cs.length = off + (d.sz + d'.sz) := hl
  obtain ⟨x, hx⟩ := hf f (by simp)
  rw [ho, hc] at hx
  obtain ⟨y, hK, hQ⟩ := h H enc w n _ _ hx
  obtain ⟨y', hK', hQ'⟩ := h' H enc w n cs (by omega) (fun g hg => hf g (by simp [hg]))
  refine ⟨(y, y'), ⟨(cs.drop off).take d.sz, cs.drop (off + d.sz), ?_, hK, hK'⟩, hQ, hQ'⟩
  rw [← List.drop_drop, List.take_append_drop]
theorem opens_struct {fs : Array Field} {d : Kd α} {Q : α → Prop} (ht : P.underlying t = some (.struct fs)) (hc : P.cellsOf t = d.sz) (h : OpensF P fs.toList 0 d Q) : Opens P t d Q := by
  intro H enc w fuel cs x hx
  obtain ⟨xs, n, _, _, hcl, hxl, hg⟩ := DataW.trod_struct ht hx
  obtain ⟨y, hK, hQ⟩ := h H enc w n cs (by omega) (fun f hf => by
    obtain ⟨i, hi, rfl⟩ := List.getElem_of_mem hf
    have hi' : i < fs.size := by simpa using hi
    have h1 := hg i (fs.toList[i]) (by simp [hi'])
    rw [List.getElem?_eq_getElem (by omega)] at h1
    exact ⟨_, h1⟩)
  exact ⟨y, by simpa using hK, hQ⟩
theorem opens_iso {d : Kd α} {Q : α → Prop} (f : β → α) (g : α → β) (hfg : ∀ a, f (g a) = a) (h : Opens P t d Q) : Opens P t (Kd.iso d f) (fun b => Q (f b)) := by
  intro H enc w fuel cs x hx
  obtain ⟨y, hK, hQ⟩ := h H enc w fuel cs x hx
  refine ⟨g y, ?_, ?_⟩
  · show d.K w (f (g y)) cs
    rw [hfg]; exact hK
  · show Q (f (g y))
    rw [hfg]; exact hQ
end
end Go.Proofs.Ytnofkbbcbpjhfaa.Q

/- What is known of structs that came in. -/
namespace Go.Proofs.Ytnofkbbcbpjhfaa.Q
open Go.RowKit Go.Proofs.YtnofkbbcbpjhfaaW.PrintWords Go.Proofs.YtnofkbbcbpjhfaaW.PrintLast Go.Proofs.YtnofkbbcbpjhfaaW.PrintMore
attribute [local go_sem] max2_int min2_int max_two min_two max_three min_three max_four min_four
set_option linter.unusedVariables false
set_option linter.unusedSimpArgs false
def wf24 (x : S24) : Prop := I64 x.f0 ∧ I64 x.f1 ∧ I64 x.f2 ∧ (∀ y ∈ x.f3, I64 y)
theorem o24 : Opens Try.prog 24 k24 wf24 :=
  opens_iso (fun x : S24 => (x.f0, x.f1, x.f2, x.f3)) (fun p => (⟨p.1, p.2.1, p.2.2.1, p.2.2.2⟩ : S24)) (fun _ => rfl) (opens_struct Try.underlying24 (by kernel_rfl) (opensF_cons rfl (by kernel_rfl) (opens_i64 Try.underlying3) (opensF_cons rfl (by kernel_rfl) (opens_i64 Try.underlying3) (opensF_cons rfl (by kernel_rfl) (opens_i64 Try.underlying3) (opensF_one rfl (by kernel_rfl) (opens_slice Try.underlying22 (by kernel_rfl) (opens_i64 Try.underlying3)))))))
def wf51 (x : S51) : Prop := wf24 x.f0 ∧ I64 x.f1 ∧ I64 x.f2 ∧ I64 x.f3 ∧ I64 x.f4 ∧ True
theorem o51 : Opens Try.prog 51 k51 wf51 :=
  opens_iso (fun x : S51 => (x.f0, x.f1, x.f2, x.f3, x.f4, x.f5)) (fun p => (⟨p.1, p.2.1, p.2.2.1, p.2.2.2.1, p.2.2.2.2.1, p.2.2.2.2.2⟩ : S51)) (fun _ => rfl) (opens_struct Try.underlying51 (by kernel_rfl) (opensF_cons rfl (by kernel_rfl) o24 (opensF_cons rfl (by kernel_rfl) (opens_i64 Try.underlying3) (opensF_cons rfl (by kernel_rfl) (opens_i64 Try.underlying3) (opensF_cons rfl (by kernel_rfl) (opens_i64 Try.underlying3) (opensF_cons rfl (by kernel_rfl) (opens_i64 Try.underlying3) (opensF_one rfl (by kernel_rfl) (opens_bool Try.underlying4))))))))
end Go.Proofs.Ytnofkbbcbpjhfaa.Q

/- The statement over plain lists and numbers that is left of the law FnExactDirtyTiles. -/
namespace Go.Proofs.Ytnofkbbcbpjhfaa.Q
open Go.RowKit Go.Proofs.YtnofkbbcbpjhfaaW.PrintWords Go.Proofs.YtnofkbbcbpjhfaaW.PrintLast Go.Proofs.YtnofkbbcbpjhfaaW.PrintMore
attribute [local go_sem] max2_int min2_int max_two min_two max_three min_three max_four min_four
set_option linter.unusedVariables false
set_option linter.unusedSimpArgs false
def laws_FnExactDirtyTiles.Pure : Prop := ∀ (a0_0 : Int) (a0_1 : Int) (a0_2 : Int) (l0_3 : List Int) (a1_0 : Int) (a1_1 : Int) (a1_2 : Int) (l1_3 : List Int) (a1_4 : Int) (a1_5 : Int) (a1_6 : Int) (a1_7 : Int) (a1_8 : Bool), I64 a0_0 → I64 a0_1 → I64 a0_2 → (∀ y ∈ l0_3, I64 y) → l0_3.length ≤ 9223372036854775807 → I64 a1_0 → I64 a1_1 → I64 a1_2 → (∀ y ∈ l1_3, I64 y) → l1_3.length ≤ 9223372036854775807 → I64 a1_4 → I64 a1_5 → I64 a1_6 → I64 a1_7 → ∃ k, laws_FnExactDirtyTiles.f k a0_0 a0_1 a0_2 l0_3 a1_0 a1_1 a1_2 l1_3 a1_4 a1_5 a1_6 a1_7 a1_8 = some true
end Go.Proofs.Ytnofkbbcbpjhfaa.Q

/- Plain words: numbers that do not wrap, elements of lists, rounds that are enough. -/
namespace Go.Proofs.Ytnofkbbcbpjhfaa.Pure
open Go.RowKit Go.Proofs.Ytnofkbbcbpjhfaa.Q Go.Proofs.YtnofkbbcbpjhfaaW.PrintWords Go.Proofs.YtnofkbbcbpjhfaaW.PrintLast Go.Proofs.YtnofkbbcbpjhfaaW.PrintMore
set_option linter.unusedVariables false
set_option linter.unusedSimpArgs false

theorem w64 {x : Int} (h1 : -9223372036854775808 ≤ x) (h2 : x ≤ 9223372036854775807) : wrap64 x = x := by unfold wrap64; omega
theorem w64n (n : Nat) (h : n < 9223372036854775807) : wrap64 ((n : Int) + 1) = ((n + 1 : Nat) : Int) := by unfold wrap64; omega
theorem rd_nat (l : List Int) (i : Nat) (h : i < l.length) : rd l (i : Int) = l[i] := by simp [rd, h]
theorem tdiv_nn (a b : Int) (h : 0 ≤ a) : Int.tdiv a b = a / b := Int.tdiv_eq_ediv_of_nonneg h
theorem tmod_nn (a b : Int) (h : 0 ≤ a) : Int.tmod a b = a % b := Int.tmod_eq_emod_of_nonneg h
theorem ev_const {α : Type} {o : Option α} {r : α} (h : o = some r) : Ev (fun _ => o) r := ⟨0, fun _ _ => h⟩
theorem ev_bind {α β : Type} {g : Nat → Option α} {f : Nat → α → Option β} {a : α} {r : β} (h : Ev g a) (k : Ev (fun n => f n a) r) : Ev (fun n => (g n).bind (f n)) r := Ev.bind h k
theorem ev_now {α β : Type} {o : Option α} {f : Nat → α → Option β} {a : α} {r : β} (h : o = some a) (k : Ev (fun n => f n a) r) : Ev (fun n => o.bind (f n)) r := Ev.bind (ev_const h) k
theorem ev_pos {α : Type} {c : Prop} [Decidable c] {f g : Nat → Option α} {r : α} (h : c) (k : Ev f r) : Ev (fun n => if c then f n else g n) r := by
  simpa [h] using k
theorem ev_neg {α : Type} {c : Prop} [Decidable c] {f g : Nat → Option α} {r : α} (h : ¬ c) (k : Ev g r) : Ev (fun n => if c then f n else g n) r := by
  simpa [h] using k
/-- The same, from some number of rounds on: for loops in loops. -/
theorem ev_up {σ ρ : Type} (n : Nat) (L : Nat → Nat → σ → Option ρ) (Inv : Nat → σ → Prop) (F : Nat → σ → ρ)
    (step : ∀ i s, i < n → Inv i s → Ev (fun k => L k i s) (F i s) ∨ ∃ s', (∀ k, L (k + 1) i s = L k (i + 1) s') ∧ Inv (i + 1) s' ∧ F (i + 1) s' = F i s)
    (last : ∀ s, Inv n s → Ev (fun k => L k n s) (F n s)) :
    ∀ d i s, i + d = n → Inv i s → Ev (fun k => L k i s) (F i s) := by
  intro d
  induction d with
  | zero =>
    intro i s hi hinv
    have : i = n := by omega
    subst this
    exact last s hinv
  | succ d ih =>
    intro i s hi hinv
    rcases step i s (by omega) hinv with h | ⟨s', h, hi', hF⟩
    · exact h
    · rw [← hF]
      exact Ev.step h (ih (i + 1) s' (by omega) hi')
theorem ev_up2 {σ ρ : Type} (n : Nat) (L : Nat → Nat → σ → Option ρ) (Inv : Nat → σ → Prop) (F : Nat → σ → ρ)
    (step : ∀ i s, i < n → Inv i s → Ev (fun k => L k i s) (F i s) ∨ ∃ s', (∀ r, Ev (fun k => L k (i + 1) s') r → Ev (fun k => L k i s) r) ∧ Inv (i + 1) s' ∧ F (i + 1) s' = F i s)
    (last : ∀ s, Inv n s → Ev (fun k => L k n s) (F n s)) :
    ∀ d i s, i + d = n → Inv i s → Ev (fun k => L k i s) (F i s) := by
  intro d
  induction d with
  | zero =>
    intro i s hi hinv
    have : i = n := by omega
    subst this
    exact last s hinv
  | succ d ih =>
    intro i s hi hinv
    rcases step i s (by omega) hinv with h | ⟨s', h, hi', hF⟩
    · exact h
    · rw [← hF]
      exact h _ (ih (i + 1) s' (by omega) hi')
theorem take_set {α : Type} (s : List α) (i : Nat) (c : α) (h : i < s.length) : (s.set i c).take (i + 1) = s.take i ++ [c] := by
  rw [List.take_succ_eq_append_getElem (by simpa using h), List.take_set_of_le (Nat.le_refl i)]
  simp
end Go.Proofs.Ytnofkbbcbpjhfaa.Pure

/- Images: valid ones, as the program and the reference have it; copies of lists of numbers. -/
namespace Go.Proofs.Ytnofkbbcbpjhfaa.Pure
open Go.RowKit Go.Proofs.Ytnofkbbcbpjhfaa.Q Go.Proofs.YtnofkbbcbpjhfaaW.PrintWords Go.Proofs.YtnofkbbcbpjhfaaW.PrintLast Go.Proofs.YtnofkbbcbpjhfaaW.PrintMore
set_option linter.unusedVariables false
set_option linter.unusedSimpArgs false

def byteI (n : Int) : Bool := decide (0 ≤ n) && decide (n ≤ 255)
def shapeI (w h p : Int) : Bool := decide (1 ≤ w ∧ w ≤ 16 ∧ 1 ≤ h ∧ h ≤ 16 ∧ 1 ≤ p ∧ p ≤ 4)
theorem shapeI_iff (w h p : Int) : shapeI w h p = true ↔ 1 ≤ w ∧ w ≤ 16 ∧ 1 ≤ h ∧ h ≤ 16 ∧ 1 ≤ p ∧ p ≤ 4 := by simp [shapeI]
def validI (w h p : Int) (d : List Int) : Bool := shapeI w h p && (decide ((d.length : Int) = w * h * p) && d.all byteI)
theorem validI_iff (w h p : Int) (d : List Int) : validI w h p d = true ↔ (1 ≤ w ∧ w ≤ 16 ∧ 1 ≤ h ∧ h ≤ 16 ∧ 1 ≤ p ∧ p ≤ 4) ∧ (d.length : Int) = w * h * p ∧ ∀ n ∈ d, 0 ≤ n ∧ n ≤ 255 := by
  simp [validI, shapeI_iff, byteI, and_assoc]
theorem shape_prod {w h p : Int} (hs : 1 ≤ w ∧ w ≤ 16 ∧ 1 ≤ h ∧ h ≤ 16 ∧ 1 ≤ p ∧ p ≤ 4) : 0 ≤ w * h ∧ w * h ≤ 256 ∧ 0 ≤ w * h * p ∧ w * h * p ≤ 1024 := by
  have h1 : 0 ≤ w * h := Int.mul_nonneg (by omega) (by omega)
  have h2 : w * h ≤ 16 * 16 := Int.mul_le_mul (by omega) (by omega) (by omega) (by omega)
  have h3 : 0 ≤ w * h * p := Int.mul_nonneg h1 (by omega)
  have h4 : w * h * p ≤ 256 * 4 := Int.mul_le_mul (by omega) (by omega) (by omega) (by omega)
  omega
theorem shape_wrap {w h p : Int} (hs : 1 ≤ w ∧ w ≤ 16 ∧ 1 ≤ h ∧ h ≤ 16 ∧ 1 ≤ p ∧ p ≤ 4) : wrap64 (wrap64 (w * h) * p) = w * h * p := by
  have := shape_prod hs
  rw [w64 (x := w * h) (by omega) (by omega), w64 (by omega) (by omega)]
theorem impl_isSide_eq (a : Int) : impl_isSide.f a = some (decide (1 ≤ a ∧ a ≤ 16)) := by
  unfold impl_isSide.f
  by_cases c : a ≥ 1
  · rw [if_pos c]; congr 1; rw [decide_eq_decide]; omega
  · rw [if_neg c, decide_eq_false (by omega)]
theorem impl_isShape_eq (w h p : Int) : impl_isShape.f w h p = some (shapeI w h p) := by
  unfold impl_isShape.f shapeI
  rw [impl_isSide_eq, impl_isSide_eq]
  simp only [Option.bind_some]
  by_cases c1 : 1 ≤ w ∧ w ≤ 16
  · rw [if_pos (by simpa using c1)]
    by_cases c2 : 1 ≤ h ∧ h ≤ 16
    · rw [if_pos (by simpa using c2)]
      by_cases c3 : p ≥ 1
      · rw [if_pos c3]; congr 1; rw [decide_eq_decide]; omega
      · rw [if_neg c3, decide_eq_false (by omega)]
    · rw [if_neg (by simpa using c2), decide_eq_false (by omega)]
  · rw [if_neg (by simpa using c1), decide_eq_false (by omega)]
theorem areBytesI_eq (l : List Int) : impl_areBytes.f l = some (l.all byteI) := by
  unfold impl_areBytes.f
  congr 1
  rw [List.not_any_eq_all_not]
  congr 1
  funext n
  unfold notByte byteI
  rw [Bool.eq_iff_iff]
  simp
theorem impl_isImage_eq (w h p : Int) (d : List Int) : impl_isImage.f w h p d = some (validI w h p d) := by
  unfold impl_isImage.f validI
  rw [impl_isShape_eq, areBytesI_eq]
  simp only [Option.bind_some]
  by_cases c : shapeI w h p = true
  · rw [if_pos c, shape_wrap ((shapeI_iff w h p).1 c), c]
    by_cases e : (d.length : Int) = w * h * p
    · rw [if_pos e, decide_eq_true e]; rfl
    · rw [if_neg e, decide_eq_false e]; rfl
  · rw [if_neg c, Bool.eq_false_iff.2 c]; rfl
theorem spec_inRangeI_eq (n a b : Int) : spec_inRange.f n a b = some (decide (a ≤ n) && decide (n ≤ b)) := by
  unfold spec_inRange.f
  by_cases c : a ≤ n
  · rw [if_pos c, decide_eq_true c, Bool.true_and]
  · rw [if_neg c, decide_eq_false c, Bool.false_and]
theorem spec_validShape_eq (w h p : Int) : spec_validShape.f w h p = some (shapeI w h p) := by
  unfold spec_validShape.f shapeI
  rw [spec_inRangeI_eq, spec_inRangeI_eq, spec_inRangeI_eq]
  simp only [Option.bind_some]
  by_cases c1 : 1 ≤ w ∧ w ≤ 16
  · rw [if_pos (by simpa using c1)]
    by_cases c2 : 1 ≤ h ∧ h ≤ 16
    · rw [if_pos (by simpa using c2)]; congr 1; rw [Bool.eq_iff_iff]; simp; omega
    · rw [if_neg (by simpa using c2), decide_eq_false (by omega)]
  · rw [if_neg (by simpa using c1), decide_eq_false (by omega)]
theorem spec_allInI_ev (l : List Int) (hl : l.length ≤ 1000000000000) : Ev (fun k => spec_allIn.f k l 0 255) (l.all byteI) := by
  have key := ev_up l.length (fun k i (_ : Unit) => spec_allIn.l0 k l 0 255 (i : Int)) (fun _ _ => True) (fun i _ => (l.drop i).all byteI)
    (by
      intro i s hi _
      have hd : (l.drop i).all byteI = (byteI l[i] && (l.drop (i + 1)).all byteI) := by rw [List.drop_eq_getElem_cons hi, List.all_cons]
      cases hb : byteI l[i] with
      | true =>
        right
        refine ⟨(), fun k => ?_, trivial, by rw [hd, hb, Bool.true_and]⟩
        simp only [spec_allIn.l0]
        rw [if_pos (by omega), if_pos (by omega), rd_nat l i hi, spec_inRangeI_eq]
        simp only [Option.bind_some]
        rw [if_pos (show (decide (0 ≤ l[i]) && decide (l[i] ≤ 255)) = true from hb), w64n i (by omega)]
      | false =>
        left
        rw [hd, hb, Bool.false_and]
        refine Ev.step (f := fun _ => some false) (fun k => ?_) (Ev.now false)
        simp only [spec_allIn.l0]
        rw [if_pos (by omega), if_pos (by omega), rd_nat l i hi, spec_inRangeI_eq]
        simp only [Option.bind_some]
        rw [if_neg (Bool.eq_false_iff.1 (show (decide (0 ≤ l[i]) && decide (l[i] ≤ 255)) = false from hb))])
    (by
      intro s _
      rw [List.drop_length]
      refine Ev.step (f := fun _ => some true) (fun k => ?_) (Ev.now true)
      simp only [spec_allIn.l0]
      rw [if_neg (by omega)])
    l.length 0 () (by omega) trivial
  unfold spec_allIn.f
  simpa using key
theorem spec_validImage_ev (w h p : Int) (d : List Int) (hl : d.length ≤ 1000000000000) : Ev (fun k => spec_validImage.f k w h p d) (validI w h p d) := by
  unfold spec_validImage.f validI
  refine ev_now (spec_validShape_eq w h p) ?_
  by_cases c : shapeI w h p = true
  · refine ev_pos c ?_
    rw [shape_wrap ((shapeI_iff w h p).1 c), c, Bool.true_and]
    by_cases e : (d.length : Int) = w * h * p
    · refine ev_pos e ?_
      rw [decide_eq_true e, Bool.true_and]
      exact ev_bind (spec_allInI_ev d hl) (Ev.now _)
    · refine ev_neg e ?_
      rw [decide_eq_false e]
      exact Ev.now _
  · refine ev_neg c ?_
    rw [Bool.eq_false_iff.2 c]
    exact Ev.now _
end Go.Proofs.Ytnofkbbcbpjhfaa.Pure

/- Copies of a list of Box: they are the list. -/
namespace Go.Proofs.Ytnofkbbcbpjhfaa.Pure
open Go.RowKit Go.Proofs.Ytnofkbbcbpjhfaa.Q Go.Proofs.YtnofkbbcbpjhfaaW.PrintWords Go.Proofs.YtnofkbbcbpjhfaaW.PrintLast Go.Proofs.YtnofkbbcbpjhfaaW.PrintMore
set_option linter.unusedVariables false
set_option linter.unusedSimpArgs false

abbrev Box := S47
theorem rdBox (l : List Box) (i : Nat) (h : i < l.length) : rd_T47 l (i : Int) = l[i] := by simp [rd_T47, h]
end Go.Proofs.Ytnofkbbcbpjhfaa.Pure

/- The boxes of an image's tiles, as the program and the reference have them. -/
namespace Go.Proofs.Ytnofkbbcbpjhfaa.Pure
open Go.RowKit Go.Proofs.Ytnofkbbcbpjhfaa.Q Go.Proofs.YtnofkbbcbpjhfaaW.PrintWords Go.Proofs.YtnofkbbcbpjhfaaW.PrintLast Go.Proofs.YtnofkbbcbpjhfaaW.PrintMore
set_option linter.unusedVariables false
set_option linter.unusedSimpArgs false

def colsOf (w : Nat) : Nat := (w + 3) / 4
def tileN (w h : Nat) (t : Nat) : Box := ⟨((t % colsOf w * 4 : Nat) : Int), ((t / colsOf w * 4 : Nat) : Int), mn 4 ((w : Int) - ((t % colsOf w * 4 : Nat) : Int)), mn 4 ((h : Int) - ((t / colsOf w * 4 : Nat) : Int))⟩
def tilesN (w h : Nat) (n : Nat) : List Box := (List.range n).map (tileN w h)
def tilesV (w h : Nat) : List Box := tilesN w h (colsOf w * colsOf h)
theorem tilesN_length (w h n : Nat) : (tilesN w h n).length = n := by simp [tilesN]
theorem tilesN_succ (w h n : Nat) : tilesN w h (n + 1) = tilesN w h n ++ [tileN w h n] := by simp [tilesN, List.range_succ]
theorem cols_bounds (w : Nat) (h1 : 1 ≤ w) (h2 : w ≤ 16) : 1 ≤ colsOf w ∧ colsOf w ≤ 4 := by unfold colsOf; omega
theorem tiles_count (w h : Nat) (h1 : 1 ≤ w) (h2 : w ≤ 16) (h3 : 1 ≤ h) (h4 : h ≤ 16) : 1 ≤ colsOf w * colsOf h ∧ colsOf w * colsOf h ≤ 16 := by
  have a := cols_bounds w h1 h2
  have b := cols_bounds h h3 h4
  have := Nat.mul_le_mul a.2 b.2
  have := Nat.mul_le_mul a.1 b.1
  omega
theorem tileN_at (w h r c : Nat) (hc : c < colsOf w) : tileN w h (r * colsOf w + c) = ⟨((c * 4 : Nat) : Int), ((r * 4 : Nat) : Int), mn 4 ((w : Int) - ((c * 4 : Nat) : Int)), mn 4 ((h : Int) - ((r * 4 : Nat) : Int))⟩ := by
  have e1 : (r * colsOf w + c) % colsOf w = c := by rw [Nat.mul_comm, Nat.mul_add_mod, Nat.mod_eq_of_lt hc]
  have e2 : (r * colsOf w + c) / colsOf w = r := by rw [Nat.mul_comm, Nat.mul_add_div (by omega), Nat.div_eq_of_lt hc, Nat.add_zero]
  unfold tileN
  rw [e1, e2]
theorem impl_tileBoxes_ev (w h : Nat) (p : Int) (d : List Int) (h1 : 1 ≤ w) (h2 : w ≤ 16) (h3 : 1 ≤ h) (h4 : h ≤ 16) : Ev (fun k => impl_tileBoxes.f k w h p d) (tilesV w h) := by
  have hc := cols_bounds w h1 h2
  have hr := cols_bounds h h3 h4
  have key := ev_up2 (colsOf h) (fun k r (s : List Box) => impl_tileBoxes.l0 k s ((r * 4 : Nat) : Int) w h p d) (fun r s => s = tilesN w h (r * colsOf w)) (fun _ _ => tilesV w h)
    (by
      intro r s hrr hs
      right
      refine ⟨tilesN w h ((r + 1) * colsOf w), fun R hR => ?_, rfl, rfl⟩
      have inner := ev_up2 (colsOf w) (fun k c (s : List Box) => impl_tileBoxes.l1 k s ((r * 4 : Nat) : Int) ((c * 4 : Nat) : Int) w h p d) (fun c s => s = tilesN w h (r * colsOf w + c)) (fun _ _ => R)
        (by
          intro c s hcc hs
          right
          refine ⟨tilesN w h (r * colsOf w + (c + 1)), fun R' hR' => ?_, rfl, rfl⟩
          refine Ev.step (fun k => ?_) hR'
          have hlen : s.length = r * colsOf w + c := by rw [hs, tilesN_length]
          have hm : r * colsOf w ≤ 4 * 4 := Nat.mul_le_mul (by omega) hc.2
          have hcw : c * 4 < w := by unfold colsOf at hcc; omega
          have hrh : r * 4 < h := by unfold colsOf at hrr; omega
          simp only [impl_tileBoxes.l1]
          rw [if_pos (by omega), if_pos (by omega), w64 (x := ((c * 4 : Nat) : Int) + 4) (by omega) (by omega), w64 (x := (w : Int) - ((c * 4 : Nat) : Int)) (by omega) (by omega), w64 (x := (h : Int) - ((r * 4 : Nat) : Int)) (by omega) (by omega), ← Nat.add_assoc, tilesN_succ, tileN_at w h r c hcc, ← hs, show ((c * 4 : Nat) : Int) + 4 = (((c + 1) * 4 : Nat) : Int) by omega])
        (by
          intro s hs
          refine Ev.step (fun k => ?_) (show Ev (fun k => impl_tileBoxes.l0 k s (((r + 1) * 4 : Nat) : Int) w h p d) R from by rw [hs, ← Nat.succ_mul]; exact hR)
          have hcw : ¬ colsOf w * 4 < w := by unfold colsOf; omega
          simp only [impl_tileBoxes.l1]
          rw [if_neg (by omega), w64 (x := ((r * 4 : Nat) : Int) + 4) (by omega) (by omega), show ((r * 4 : Nat) : Int) + 4 = (((r + 1) * 4 : Nat) : Int) by omega])
        (colsOf w) 0 s (by omega) (by rw [hs, Nat.add_zero])
      have inner' : Ev (fun k => impl_tileBoxes.l1 k s ((r * 4 : Nat) : Int) 0 w h p d) R := inner
      refine Ev.step (fun k => ?_) inner'
      have hrh : r * 4 < h := by unfold colsOf at hrr; omega
      simp only [impl_tileBoxes.l0]
      rw [if_pos (by omega)])
    (by
      intro s hs
      refine Ev.step (f := fun _ => some s) (fun k => ?_) (ev_const ?_)
      · have hrh : ¬ colsOf h * 4 < h := by unfold colsOf; omega
        simp only [impl_tileBoxes.l0]
        rw [if_neg (by omega)]
      · rw [hs, Nat.mul_comm]; rfl)
    (colsOf h) 0 [] (by omega) (by simp [tilesN])
  unfold impl_tileBoxes.f
  simpa using key
theorem colsI (w : Nat) (h2 : w ≤ 16) : wrap64 (Int.tdiv (wrap64 ((wrap64 ((w : Int) + 4)) - 1)) 4) = ((colsOf w : Nat) : Int) := by
  rw [w64 (x := (w : Int) + 4) (by omega) (by omega), w64 (x := (w : Int) + 4 - 1) (by omega) (by omega), tdiv_nn _ _ (by omega), w64 (by omega) (by omega)]
  unfold colsOf
  omega
theorem spec_tileCount_eq (w h : Nat) (p : Int) (d : List Int) (h1 : 1 ≤ w) (h2 : w ≤ 16) (h3 : 1 ≤ h) (h4 : h ≤ 16) : spec_tileCount.f w h p d = some ((colsOf w * colsOf h : Nat) : Int) := by
  have := tiles_count w h h1 h2 h3 h4
  unfold spec_tileCount.f
  rw [colsI w h2, colsI h h4, ← Int.natCast_mul, w64 (by omega) (by omega)]
theorem spec_tileBox_eq (w h : Nat) (p : Int) (d : List Int) (t : Nat) (h1 : 1 ≤ w) (h2 : w ≤ 16) (h3 : 1 ≤ h) (h4 : h ≤ 16) (ht : t < 1000) : spec_tileBox.f w h p d t = some ((tileN w h t).f0, (tileN w h t).f1, (tileN w h t).f2, (tileN w h t).f3) := by
  have hc := cols_bounds w h1 h2
  have hm : t % colsOf w < colsOf w := Nat.mod_lt _ (by omega)
  have hd : t / colsOf w ≤ t := Nat.div_le_self _ _
  have e1 : Int.tmod (t : Int) ((colsOf w : Nat) : Int) = ((t % colsOf w : Nat) : Int) := by rw [tmod_nn _ _ (by omega)]; rfl
  have e2 : Int.tdiv (t : Int) ((colsOf w : Nat) : Int) = ((t / colsOf w : Nat) : Int) := by rw [tdiv_nn _ _ (by omega)]; rfl
  unfold spec_tileBox.f tileN
  rw [colsI w h2, if_neg (by omega), e1, e2]
  generalize t % colsOf w = a at *
  generalize t / colsOf w = b at *
  rw [w64 (x := ((b : Nat) : Int)) (by omega) (by omega), w64 (x := ((b : Nat) : Int) * 4) (by omega) (by omega), w64 (x := ((a : Nat) : Int) * 4) (by omega) (by omega), w64 (x := (w : Int) - ((a : Nat) : Int) * 4) (by omega) (by omega), w64 (x := (h : Int) - ((b : Nat) : Int) * 4) (by omega) (by omega)]
  simp
end Go.Proofs.Ytnofkbbcbpjhfaa.Pure
