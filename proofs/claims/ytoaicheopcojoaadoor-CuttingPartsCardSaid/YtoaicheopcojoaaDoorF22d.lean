import Derived.Test.YtoaicheopcojoaaDoorSq
import Derived.Test.YtoaicheopcojoaaDoorF20
import Derived.Test.YtoaicheopcojoaaDoorF54
namespace Go.Proofs.YtoaicheopcojoaaDoor.P
open Go.RowKit Go.Proofs.YtoaicheopcojoaaDoorW.PrintWords Go.Proofs.YtoaicheopcojoaaDoorW.PrintLast Go.Proofs.YtoaicheopcojoaaDoorW.PrintMore
attribute [local go_sem] max2_int min2_int max_two min_two max_three min_three max_four min_four   -- for this text's walks alone
set_option linter.unusedVariables false
set_option linter.unusedSimpArgs false
/-! ### sawmillref17_Cuts: function 22 -/
mutual
def sawmillref17_Cuts.l0 : Nat → List (S69) → List (S49) → List (S49) → Int → Int → Int → Int → Int → List Int → List (List Int) → List Int → List Int → Option ((List (S49)) × (List (S49)) × Int)
  | 0, _, _, _, _, _, _, _, _, _, _, _, _ => none
  | k + 1, x1, x4, x5, x8, x9, x273000, x273001, x273002, x273003, x273004, x273005, x273006 => if x9 < (x1.length : Int) then (if 0 ≤ x9 then (if ((rd_T69 x1 x9).f0) < 0 then (sawmillref17_Cuts.j1 k x1 x4 x5 x8 x9 true x273000 x273001 x273002 x273003 x273004 x273005 x273006 ((rd_T69 x1 x9).f0) ((rd_T69 x1 x9).f1)) else (sawmillref17_Cuts.j1 k x1 x4 x5 x8 x9 (decide (((rd_T69 x1 x9).f0) ≥ (x273003.length : Int))) x273000 x273001 x273002 x273003 x273004 x273005 x273006 ((rd_T69 x1 x9).f0) ((rd_T69 x1 x9).f1))) else (none)) else (if x8 ≥ 0 then ((sawmillref17_add.f x5 x8 x273000).bind fun t274 => (some (x4, t274, 0))) else (some (x4, x5, 0)))
def sawmillref17_Cuts.j1 : Nat → List (S69) → List (S49) → List (S49) → Int → Int → Bool → Int → Int → Int → List Int → List (List Int) → List Int → List Int → Int → Int → Option ((List (S49)) × (List (S49)) × Int)
  | 0, _, _, _, _, _, _, _, _, _, _, _, _, _, _, _ => none
  | k + 1, x1, x4, x5, x8, x9, x39, x273000, x273001, x273002, x273003, x273004, x273005, x273006, x279000, x279001 => if x39 = true then (some (([] : List (S49)), ([] : List (S49)), 9)) else (if 0 ≤ x279000 then (if x279000 < (x273003.length : Int) then (if x279001 < 0 then (sawmillref17_Cuts.j2 k x1 x4 x5 x8 x9 (rd x273003 x279000) true x273000 x273001 x273002 x273003 x273004 x273005 x273006 x279000 x279001) else (sawmillref17_Cuts.j2 k x1 x4 x5 x8 x9 (rd x273003 x279000) (decide (x279001 > (wrap64 (x273000 - (rd x273003 x279000))))) x273000 x273001 x273002 x273003 x273004 x273005 x273006 x279000 x279001)) else (none)) else (none))
def sawmillref17_Cuts.j2 : Nat → List (S69) → List (S49) → List (S49) → Int → Int → Int → Bool → Int → Int → Int → List Int → List (List Int) → List Int → List Int → Int → Int → Option ((List (S49)) × (List (S49)) × Int)
  | 0, _, _, _, _, _, _, _, _, _, _, _, _, _, _, _, _ => none
  | k + 1, x1, x4, x5, x8, x9, x11, x57, x273000, x273001, x273002, x273003, x273004, x273005, x273006, x279000, x279001 => if x57 = true then (some (([] : List (S49)), ([] : List (S49)), 20)) else (if x8 < 0 then (sawmillref17_Cuts.j3 k x1 x4 x5 x8 x9 x11 (wrap64 ((wrap64 (x279001 - x273001)) - x8)) true x273000 x273001 x273002 x273003 x273004 x273005 x273006 x279000 x279001) else (if x279001 = x8 then (sawmillref17_Cuts.j3 k x1 x4 x5 x8 x9 x11 (wrap64 ((wrap64 (x279001 - x273001)) - x8)) false x273000 x273001 x273002 x273003 x273004 x273005 x273006 x279000 x279001) else (if (wrap64 ((wrap64 (x279001 - x273001)) - x8)) < 1 then (sawmillref17_Cuts.j3 k x1 x4 x5 x8 x9 x11 (wrap64 ((wrap64 (x279001 - x273001)) - x8)) true x273000 x273001 x273002 x273003 x273004 x273005 x273006 x279000 x279001) else (if x273002 = 0 then (none) else (sawmillref17_Cuts.j3 k x1 x4 x5 x8 x9 x11 (wrap64 ((wrap64 (x279001 - x273001)) - x8)) ((Int.tmod (wrap64 ((wrap64 (x279001 - x273001)) - x8)) x273002) != 0) x273000 x273001 x273002 x273003 x273004 x273005 x273006 x279000 x279001)))))
def sawmillref17_Cuts.j3 : Nat → List (S69) → List (S49) → List (S49) → Int → Int → Int → Int → Bool → Int → Int → Int → List Int → List (List Int) → List Int → List Int → Int → Int → Option ((List (S49)) × (List (S49)) × Int)
  | 0, _, _, _, _, _, _, _, _, _, _, _, _, _, _, _, _, _ => none
  | k + 1, x1, x4, x5, x8, x9, x11, x12, x83, x273000, x273001, x273002, x273003, x273004, x273005, x273006, x279000, x279001 => if x83 = true then (some (([] : List (S49)), ([] : List (S49)), 11)) else (if 0 ≤ x279000 then (if x279000 < (x273004.length : Int) then (if 0 ≤ x279001 then (if x279001 < ((rd_L1 x273004 x279000).length : Int) then (if (rd (rd_L1 x273004 x279000) x279001) < 0 then (some (([] : List (S49)), ([] : List (S49)), 14)) else (if x279001 > x8 then ((sawmillref17_add.f x5 x8 (wrap64 (x8 + x12))).bind fun t282 => ((sawmillref17_add.f x4 (wrap64 (x8 + x12)) x279001).bind fun t285 => (if (wrap64 (x279001 + x11)) = x273000 then (sawmillref17_Cuts.l0 k x1 t285 t282 (-1) (wrap64 (x9 + 1)) x273000 x273001 x273002 x273003 x273004 x273005 x273006) else ((sawmillref17_add.f t285 (wrap64 (x279001 + x11)) (mn (wrap64 ((wrap64 (x279001 + x11)) + x273001)) x273000)).bind fun t288 => (sawmillref17_Cuts.l0 k x1 t288 t282 (mn (wrap64 ((wrap64 (x279001 + x11)) + x273001)) x273000) (wrap64 (x9 + 1)) x273000 x273001 x273002 x273003 x273004 x273005 x273006))))) else (if (wrap64 (x279001 + x11)) = x273000 then (sawmillref17_Cuts.l0 k x1 x4 x5 (-1) (wrap64 (x9 + 1)) x273000 x273001 x273002 x273003 x273004 x273005 x273006) else ((sawmillref17_add.f x4 (wrap64 (x279001 + x11)) (mn (wrap64 ((wrap64 (x279001 + x11)) + x273001)) x273000)).bind fun t291 => (sawmillref17_Cuts.l0 k x1 t291 x5 (mn (wrap64 ((wrap64 (x279001 + x11)) + x273001)) x273000) (wrap64 (x9 + 1)) x273000 x273001 x273002 x273003 x273004 x273005 x273006))))) else (none)) else (none)) else (none)) else (none))
end
def sawmillref17_Cuts.f (k : Nat) (a0_0 : Int) (a0_1 : Int) (a0_2 : Int) (l0_3 : List Int) (l0_4 : List (List Int)) (l0_5 : List Int) (l0_6 : List Int) (l1 : List (S69)) : Option ((List (S49)) × (List (S49)) × Int) := (sawmillref17_Check.f k a0_0 a0_1 a0_2 l0_3 l0_4 l0_5 l0_6).bind fun t273 => (if t273 = 0 then (sawmillref17_Cuts.l0 k l1 ([] : List (S49)) ([] : List (S49)) 0 0 a0_0 a0_1 a0_2 l0_3 l0_4 l0_5 l0_6) else (some (([] : List (S49)), ([] : List (S49)), t273)))
theorem sawmillref17_Cuts.mono_l : ∀ k, (∀ y0 y1 y2 y3 y4 y5 y6 y7 y8 y9 y10 y11, LeO (sawmillref17_Cuts.l0 k y0 y1 y2 y3 y4 y5 y6 y7 y8 y9 y10 y11) (sawmillref17_Cuts.l0 (k + 1) y0 y1 y2 y3 y4 y5 y6 y7 y8 y9 y10 y11)) ∧ (∀ y0 y1 y2 y3 y4 y5 y6 y7 y8 y9 y10 y11 y12 y13 y14, LeO (sawmillref17_Cuts.j1 k y0 y1 y2 y3 y4 y5 y6 y7 y8 y9 y10 y11 y12 y13 y14) (sawmillref17_Cuts.j1 (k + 1) y0 y1 y2 y3 y4 y5 y6 y7 y8 y9 y10 y11 y12 y13 y14)) ∧ (∀ y0 y1 y2 y3 y4 y5 y6 y7 y8 y9 y10 y11 y12 y13 y14 y15, LeO (sawmillref17_Cuts.j2 k y0 y1 y2 y3 y4 y5 y6 y7 y8 y9 y10 y11 y12 y13 y14 y15) (sawmillref17_Cuts.j2 (k + 1) y0 y1 y2 y3 y4 y5 y6 y7 y8 y9 y10 y11 y12 y13 y14 y15)) ∧ (∀ y0 y1 y2 y3 y4 y5 y6 y7 y8 y9 y10 y11 y12 y13 y14 y15 y16, LeO (sawmillref17_Cuts.j3 k y0 y1 y2 y3 y4 y5 y6 y7 y8 y9 y10 y11 y12 y13 y14 y15 y16) (sawmillref17_Cuts.j3 (k + 1) y0 y1 y2 y3 y4 y5 y6 y7 y8 y9 y10 y11 y12 y13 y14 y15 y16))
  | 0 => ⟨fun _ _ _ _ _ _ _ _ _ _ _ _ r h => by simp [sawmillref17_Cuts.l0] at h, fun _ _ _ _ _ _ _ _ _ _ _ _ _ _ _ r h => by simp [sawmillref17_Cuts.j1] at h, fun _ _ _ _ _ _ _ _ _ _ _ _ _ _ _ _ r h => by simp [sawmillref17_Cuts.j2] at h, fun _ _ _ _ _ _ _ _ _ _ _ _ _ _ _ _ _ r h => by simp [sawmillref17_Cuts.j3] at h⟩
  | k + 1 => by
    obtain ⟨ih0, ih1, ih2, ih3⟩ := sawmillref17_Cuts.mono_l k
    refine ⟨?_, ?_, ?_, ?_⟩
    · intro y0 y1 y2 y3 y4 y5 y6 y7 y8 y9 y10 y11
      unfold sawmillref17_Cuts.l0
      repeat' first
      | (with_reducible exact ih0 _ _ _ _ _ _ _ _ _ _ _ _)
      | (with_reducible exact ih1 _ _ _ _ _ _ _ _ _ _ _ _ _ _ _)
      | (with_reducible exact ih2 _ _ _ _ _ _ _ _ _ _ _ _ _ _ _ _)
      | (with_reducible exact ih3 _ _ _ _ _ _ _ _ _ _ _ _ _ _ _ _ _)
      | (with_reducible exact sawmillref17_Check.mono _ _ _ _ _ _ _ _)
      | (with_reducible exact LeO.refl _)
      | (with_reducible exact LeO.none _)
      | (with_reducible refine LeO.ite ?_ ?_)
      | (with_reducible refine LeO.bind ?_ (fun _ => ?_))
      | exact ih0 _ _ _ _ _ _ _ _ _ _ _ _
      | exact ih1 _ _ _ _ _ _ _ _ _ _ _ _ _ _ _
      | exact ih2 _ _ _ _ _ _ _ _ _ _ _ _ _ _ _ _
      | exact ih3 _ _ _ _ _ _ _ _ _ _ _ _ _ _ _ _ _
      | exact sawmillref17_Check.mono _ _ _ _ _ _ _ _
      | exact LeO.none _
      | refine LeO.ite ?_ ?_
      | refine LeO.bind ?_ (fun _ => ?_)
    · intro y0 y1 y2 y3 y4 y5 y6 y7 y8 y9 y10 y11 y12 y13 y14
      unfold sawmillref17_Cuts.j1
      repeat' first
      | (with_reducible exact ih0 _ _ _ _ _ _ _ _ _ _ _ _)
      | (with_reducible exact ih1 _ _ _ _ _ _ _ _ _ _ _ _ _ _ _)
      | (with_reducible exact ih2 _ _ _ _ _ _ _ _ _ _ _ _ _ _ _ _)
      | (with_reducible exact ih3 _ _ _ _ _ _ _ _ _ _ _ _ _ _ _ _ _)
      | (with_reducible exact sawmillref17_Check.mono _ _ _ _ _ _ _ _)
      | (with_reducible exact LeO.refl _)
      | (with_reducible exact LeO.none _)
      | (with_reducible refine LeO.ite ?_ ?_)
      | (with_reducible refine LeO.bind ?_ (fun _ => ?_))
      | exact ih0 _ _ _ _ _ _ _ _ _ _ _ _
      | exact ih1 _ _ _ _ _ _ _ _ _ _ _ _ _ _ _
      | exact ih2 _ _ _ _ _ _ _ _ _ _ _ _ _ _ _ _
      | exact ih3 _ _ _ _ _ _ _ _ _ _ _ _ _ _ _ _ _
      | exact sawmillref17_Check.mono _ _ _ _ _ _ _ _
      | exact LeO.none _
      | refine LeO.ite ?_ ?_
      | refine LeO.bind ?_ (fun _ => ?_)
    · intro y0 y1 y2 y3 y4 y5 y6 y7 y8 y9 y10 y11 y12 y13 y14 y15
      unfold sawmillref17_Cuts.j2
      repeat' first
      | (with_reducible exact ih0 _ _ _ _ _ _ _ _ _ _ _ _)
      | (with_reducible exact ih1 _ _ _ _ _ _ _ _ _ _ _ _ _ _ _)
      | (with_reducible exact ih2 _ _ _ _ _ _ _ _ _ _ _ _ _ _ _ _)
      | (with_reducible exact ih3 _ _ _ _ _ _ _ _ _ _ _ _ _ _ _ _ _)
      | (with_reducible exact sawmillref17_Check.mono _ _ _ _ _ _ _ _)
      | (with_reducible exact LeO.refl _)
      | (with_reducible exact LeO.none _)
      | (with_reducible refine LeO.ite ?_ ?_)
      | (with_reducible refine LeO.bind ?_ (fun _ => ?_))
      | exact ih0 _ _ _ _ _ _ _ _ _ _ _ _
      | exact ih1 _ _ _ _ _ _ _ _ _ _ _ _ _ _ _
      | exact ih2 _ _ _ _ _ _ _ _ _ _ _ _ _ _ _ _
      | exact ih3 _ _ _ _ _ _ _ _ _ _ _ _ _ _ _ _ _
      | exact sawmillref17_Check.mono _ _ _ _ _ _ _ _
      | exact LeO.none _
      | refine LeO.ite ?_ ?_
      | refine LeO.bind ?_ (fun _ => ?_)
    · intro y0 y1 y2 y3 y4 y5 y6 y7 y8 y9 y10 y11 y12 y13 y14 y15 y16
      unfold sawmillref17_Cuts.j3
      repeat' first
      | (with_reducible exact ih0 _ _ _ _ _ _ _ _ _ _ _ _)
      | (with_reducible exact ih1 _ _ _ _ _ _ _ _ _ _ _ _ _ _ _)
      | (with_reducible exact ih2 _ _ _ _ _ _ _ _ _ _ _ _ _ _ _ _)
      | (with_reducible exact ih3 _ _ _ _ _ _ _ _ _ _ _ _ _ _ _ _ _)
      | (with_reducible exact sawmillref17_Check.mono _ _ _ _ _ _ _ _)
      | (with_reducible exact LeO.refl _)
      | (with_reducible exact LeO.none _)
      | (with_reducible refine LeO.ite ?_ ?_)
      | (with_reducible refine LeO.bind ?_ (fun _ => ?_))
      | exact ih0 _ _ _ _ _ _ _ _ _ _ _ _
      | exact ih1 _ _ _ _ _ _ _ _ _ _ _ _ _ _ _
      | exact ih2 _ _ _ _ _ _ _ _ _ _ _ _ _ _ _ _
      | exact ih3 _ _ _ _ _ _ _ _ _ _ _ _ _ _ _ _ _
      | exact sawmillref17_Check.mono _ _ _ _ _ _ _ _
      | exact LeO.none _
      | refine LeO.ite ?_ ?_
      | refine LeO.bind ?_ (fun _ => ?_)
theorem sawmillref17_Cuts.mono : ∀ a0 a1 a2 a3 a4 a5 a6 a7 k, LeO (sawmillref17_Cuts.f k a0 a1 a2 a3 a4 a5 a6 a7) (sawmillref17_Cuts.f (k + 1) a0 a1 a2 a3 a4 a5 a6 a7) := by
  intro a0 a1 a2 a3 a4 a5 a6 a7 k
  obtain ⟨ih0, ih1, ih2, ih3⟩ := sawmillref17_Cuts.mono_l k
  unfold sawmillref17_Cuts.f
  repeat' first
      | (with_reducible exact ih0 _ _ _ _ _ _ _ _ _ _ _ _)
      | (with_reducible exact ih1 _ _ _ _ _ _ _ _ _ _ _ _ _ _ _)
      | (with_reducible exact ih2 _ _ _ _ _ _ _ _ _ _ _ _ _ _ _ _)
      | (with_reducible exact ih3 _ _ _ _ _ _ _ _ _ _ _ _ _ _ _ _ _)
      | (with_reducible exact sawmillref17_Check.mono _ _ _ _ _ _ _ _)
      | (with_reducible exact LeO.refl _)
      | (with_reducible exact LeO.none _)
      | (with_reducible refine LeO.ite ?_ ?_)
      | (with_reducible refine LeO.bind ?_ (fun _ => ?_))
      | exact ih0 _ _ _ _ _ _ _ _ _ _ _ _
      | exact ih1 _ _ _ _ _ _ _ _ _ _ _ _ _ _ _
      | exact ih2 _ _ _ _ _ _ _ _ _ _ _ _ _ _ _ _
      | exact ih3 _ _ _ _ _ _ _ _ _ _ _ _ _ _ _ _ _
      | exact sawmillref17_Check.mono _ _ _ _ _ _ _ _
      | exact LeO.none _
      | refine LeO.ite ?_ ?_
      | refine LeO.bind ?_ (fun _ => ?_)
end Go.Proofs.YtoaicheopcojoaaDoor.P
