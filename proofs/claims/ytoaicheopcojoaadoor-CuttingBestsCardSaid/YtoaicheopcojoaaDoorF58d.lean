import Derived.Test.YtoaicheopcojoaaDoorSq
import Derived.Test.YtoaicheopcojoaaDoorF84
namespace Go.Proofs.YtoaicheopcojoaaDoor.P
open Go.RowKit Go.Proofs.YtoaicheopcojoaaDoorW.PrintWords Go.Proofs.YtoaicheopcojoaaDoorW.PrintLast Go.Proofs.YtoaicheopcojoaaDoorW.PrintMore
attribute [local go_sem] max2_int min2_int max_two min_two max_three min_three max_four min_four   -- for this text's walks alone
set_option linter.unusedVariables false
set_option linter.unusedSimpArgs false
/-! ### sawmillref17_from: function 58 -/
mutual
def sawmillref17_from.l0 : Nat → Int → List Int → List Int → List (S100) → Int → Int → Int → Int → List Int → List (List Int) → List Int → List Int → Int → Int → Int → Option (Int × Int × Int)
  | 0, _, _, _, _, _, _, _, _, _, _, _, _, _, _, _ => none
  | k + 1, x1, x2, x3, x4, x12, x357000, x357001, x357002, x357003, x357004, x357005, x357006, x361000, x361001, x361002 => if (wrap64 (x1 + x12)) ≤ x357000 then (if x12 > 0 then (if (wrap64 ((wrap64 (x1 + x12)) + x357001)) > x357000 then (some (x361000, x361001, x361002)) else (if 0 ≤ (wrap64 (x1 + x12)) then (if (wrap64 (x1 + x12)) < (x2.length : Int) then (if 0 ≤ x1 then (if x1 < (x2.length : Int) then (if 0 ≤ (wrap64 ((wrap64 (x1 + x12)) + x357001)) then (if (wrap64 ((wrap64 (x1 + x12)) + x357001)) < (x3.length : Int) then (if (wrap64 (x1 + x12)) < (x3.length : Int) then (sawmillref17_from.j1 k x1 x2 x3 x4 x12 (wrap64 ((wrap64 (x1 + x12)) + x357001)) (wrap64 ((wrap64 ((wrap64 ((rd x2 (wrap64 (x1 + x12))) - (rd x2 x1))) + (rd x3 (wrap64 ((wrap64 (x1 + x12)) + x357001))))) - (rd x3 (wrap64 (x1 + x12))))) x357000 x357001 x357002 x357003 x357004 x357005 x357006 x361000 x361001 x361002) else (none)) else (none)) else (none)) else (none)) else (none)) else (none)) else (none))) else (sawmillref17_from.j1 k x1 x2 x3 x4 x12 x1 0 x357000 x357001 x357002 x357003 x357004 x357005 x357006 x361000 x361001 x361002)) else (some (x361000, x361001, x361002))
def sawmillref17_from.j1 : Nat → Int → List Int → List Int → List (S100) → Int → Int → Int → Int → Int → Int → List Int → List (List Int) → List Int → List Int → Int → Int → Int → Option (Int × Int × Int)
  | 0, _, _, _, _, _, _, _, _, _, _, _, _, _, _, _, _, _ => none
  | k + 1, x1, x2, x3, x4, x12, x13, x14, x357000, x357001, x357002, x357003, x357004, x357005, x357006, x361000, x361001, x361002 => sawmillref17_from.l1 k x1 x2 x3 x4 x12 x13 x14 0 x357000 x357001 x357002 x357003 x357004 x357005 x357006 x361000 x361001 x361002
def sawmillref17_from.l1 : Nat → Int → List Int → List Int → List (S100) → Int → Int → Int → Int → Int → Int → Int → List Int → List (List Int) → List Int → List Int → Int → Int → Int → Option (Int × Int × Int)
  | 0, _, _, _, _, _, _, _, _, _, _, _, _, _, _, _, _, _, _ => none
  | k + 1, x1, x2, x3, x4, x12, x13, x14, x15, x357000, x357001, x357002, x357003, x357004, x357005, x357006, x361000, x361001, x361002 => if x15 < (x357003.length : Int) then (if 0 ≤ x15 then (if x13 > (wrap64 (x357000 - (rd x357003 x15))) then (sawmillref17_from.j3 k x1 x2 x3 x4 x12 x13 x14 x15 true x357000 x357001 x357002 x357003 x357004 x357005 x357006 x361000 x361001 x361002) else (if x15 < (x357004.length : Int) then (if 0 ≤ x13 then (if x13 < ((rd_L1 x357004 x15).length : Int) then (sawmillref17_from.j3 k x1 x2 x3 x4 x12 x13 x14 x15 (decide ((rd (rd_L1 x357004 x15) x13) < 0)) x357000 x357001 x357002 x357003 x357004 x357005 x357006 x361000 x361001 x361002) else (none)) else (none)) else (none))) else (none)) else (sawmillref17_from.l0 k x1 x2 x3 x4 (wrap64 (x12 + x357002)) x357000 x357001 x357002 x357003 x357004 x357005 x357006 x361000 x361001 x361002)
def sawmillref17_from.j3 : Nat → Int → List Int → List Int → List (S100) → Int → Int → Int → Int → Bool → Int → Int → Int → List Int → List (List Int) → List Int → List Int → Int → Int → Int → Option (Int × Int × Int)
  | 0, _, _, _, _, _, _, _, _, _, _, _, _, _, _, _, _, _, _, _ => none
  | k + 1, x1, x2, x3, x4, x12, x13, x14, x15, x103, x357000, x357001, x357002, x357003, x357004, x357005, x357006, x361000, x361001, x361002 => if x103 = true then (sawmillref17_from.l1 k x1 x2 x3 x4 x12 x13 x14 (wrap64 (x15 + 1)) x357000 x357001 x357002 x357003 x357004 x357005 x357006 x361000 x361001 x361002) else ((sawmillref17_after.f x357000 x357001 x357002 x357003 x357004 x357005 x357006 x15 x13 x3 x4).bind fun t369 => (if (wrap64 (x14 + t369)) > x361000 then (sawmillref17_from.l1 k x1 x2 x3 x4 x12 x13 x14 (wrap64 (x15 + 1)) x357000 x357001 x357002 x357003 x357004 x357005 x357006 (wrap64 (x14 + t369)) x15 x13) else (sawmillref17_from.l1 k x1 x2 x3 x4 x12 x13 x14 (wrap64 (x15 + 1)) x357000 x357001 x357002 x357003 x357004 x357005 x357006 x361000 x361001 x361002)))
end
def sawmillref17_from.f (k : Nat) (a0_0 : Int) (a0_1 : Int) (a0_2 : Int) (l0_3 : List Int) (l0_4 : List (List Int)) (l0_5 : List Int) (l0_6 : List Int) (a1 : Int) (l2 : List Int) (l3 : List Int) (l4 : List (S100)) : Option (Int × Int × Int) := if 0 ≤ a0_0 then (if a0_0 < (l2.length : Int) then (if 0 ≤ a1 then (if a1 < (l2.length : Int) then (sawmillref17_from.l0 k a1 l2 l3 l4 0 a0_0 a0_1 a0_2 l0_3 l0_4 l0_5 l0_6 (wrap64 ((rd l2 a0_0) - (rd l2 a1))) (-1) 0) else (none)) else (none)) else (none)) else (none)
theorem sawmillref17_from.mono_l : ∀ k, (∀ y0 y1 y2 y3 y4 y5 y6 y7 y8 y9 y10 y11 y12 y13 y14, LeO (sawmillref17_from.l0 k y0 y1 y2 y3 y4 y5 y6 y7 y8 y9 y10 y11 y12 y13 y14) (sawmillref17_from.l0 (k + 1) y0 y1 y2 y3 y4 y5 y6 y7 y8 y9 y10 y11 y12 y13 y14)) ∧ (∀ y0 y1 y2 y3 y4 y5 y6 y7 y8 y9 y10 y11 y12 y13 y14 y15 y16, LeO (sawmillref17_from.j1 k y0 y1 y2 y3 y4 y5 y6 y7 y8 y9 y10 y11 y12 y13 y14 y15 y16) (sawmillref17_from.j1 (k + 1) y0 y1 y2 y3 y4 y5 y6 y7 y8 y9 y10 y11 y12 y13 y14 y15 y16)) ∧ (∀ y0 y1 y2 y3 y4 y5 y6 y7 y8 y9 y10 y11 y12 y13 y14 y15 y16 y17, LeO (sawmillref17_from.l1 k y0 y1 y2 y3 y4 y5 y6 y7 y8 y9 y10 y11 y12 y13 y14 y15 y16 y17) (sawmillref17_from.l1 (k + 1) y0 y1 y2 y3 y4 y5 y6 y7 y8 y9 y10 y11 y12 y13 y14 y15 y16 y17)) ∧ (∀ y0 y1 y2 y3 y4 y5 y6 y7 y8 y9 y10 y11 y12 y13 y14 y15 y16 y17 y18, LeO (sawmillref17_from.j3 k y0 y1 y2 y3 y4 y5 y6 y7 y8 y9 y10 y11 y12 y13 y14 y15 y16 y17 y18) (sawmillref17_from.j3 (k + 1) y0 y1 y2 y3 y4 y5 y6 y7 y8 y9 y10 y11 y12 y13 y14 y15 y16 y17 y18))
  | 0 => ⟨fun _ _ _ _ _ _ _ _ _ _ _ _ _ _ _ r h => by simp [sawmillref17_from.l0] at h, fun _ _ _ _ _ _ _ _ _ _ _ _ _ _ _ _ _ r h => by simp [sawmillref17_from.j1] at h, fun _ _ _ _ _ _ _ _ _ _ _ _ _ _ _ _ _ _ r h => by simp [sawmillref17_from.l1] at h, fun _ _ _ _ _ _ _ _ _ _ _ _ _ _ _ _ _ _ _ r h => by simp [sawmillref17_from.j3] at h⟩
  | k + 1 => by
    obtain ⟨ih0, ih1, ih2, ih3⟩ := sawmillref17_from.mono_l k
    refine ⟨?_, ?_, ?_, ?_⟩
    · intro y0 y1 y2 y3 y4 y5 y6 y7 y8 y9 y10 y11 y12 y13 y14
      unfold sawmillref17_from.l0
      repeat' first
      | (with_reducible exact ih0 _ _ _ _ _ _ _ _ _ _ _ _ _ _ _)
      | (with_reducible exact ih1 _ _ _ _ _ _ _ _ _ _ _ _ _ _ _ _ _)
      | (with_reducible exact ih2 _ _ _ _ _ _ _ _ _ _ _ _ _ _ _ _ _ _)
      | (with_reducible exact ih3 _ _ _ _ _ _ _ _ _ _ _ _ _ _ _ _ _ _ _)
      | (with_reducible exact LeO.refl _)
      | (with_reducible exact LeO.none _)
      | (with_reducible refine LeO.ite ?_ ?_)
      | (with_reducible refine LeO.bind ?_ (fun _ => ?_))
      | exact ih0 _ _ _ _ _ _ _ _ _ _ _ _ _ _ _
      | exact ih1 _ _ _ _ _ _ _ _ _ _ _ _ _ _ _ _ _
      | exact ih2 _ _ _ _ _ _ _ _ _ _ _ _ _ _ _ _ _ _
      | exact ih3 _ _ _ _ _ _ _ _ _ _ _ _ _ _ _ _ _ _ _
      | exact LeO.none _
      | refine LeO.ite ?_ ?_
      | refine LeO.bind ?_ (fun _ => ?_)
    · intro y0 y1 y2 y3 y4 y5 y6 y7 y8 y9 y10 y11 y12 y13 y14 y15 y16
      unfold sawmillref17_from.j1
      repeat' first
      | (with_reducible exact ih0 _ _ _ _ _ _ _ _ _ _ _ _ _ _ _)
      | (with_reducible exact ih1 _ _ _ _ _ _ _ _ _ _ _ _ _ _ _ _ _)
      | (with_reducible exact ih2 _ _ _ _ _ _ _ _ _ _ _ _ _ _ _ _ _ _)
      | (with_reducible exact ih3 _ _ _ _ _ _ _ _ _ _ _ _ _ _ _ _ _ _ _)
      | (with_reducible exact LeO.refl _)
      | (with_reducible exact LeO.none _)
      | (with_reducible refine LeO.ite ?_ ?_)
      | (with_reducible refine LeO.bind ?_ (fun _ => ?_))
      | exact ih0 _ _ _ _ _ _ _ _ _ _ _ _ _ _ _
      | exact ih1 _ _ _ _ _ _ _ _ _ _ _ _ _ _ _ _ _
      | exact ih2 _ _ _ _ _ _ _ _ _ _ _ _ _ _ _ _ _ _
      | exact ih3 _ _ _ _ _ _ _ _ _ _ _ _ _ _ _ _ _ _ _
      | exact LeO.none _
      | refine LeO.ite ?_ ?_
      | refine LeO.bind ?_ (fun _ => ?_)
    · intro y0 y1 y2 y3 y4 y5 y6 y7 y8 y9 y10 y11 y12 y13 y14 y15 y16 y17
      unfold sawmillref17_from.l1
      repeat' first
      | (with_reducible exact ih0 _ _ _ _ _ _ _ _ _ _ _ _ _ _ _)
      | (with_reducible exact ih1 _ _ _ _ _ _ _ _ _ _ _ _ _ _ _ _ _)
      | (with_reducible exact ih2 _ _ _ _ _ _ _ _ _ _ _ _ _ _ _ _ _ _)
      | (with_reducible exact ih3 _ _ _ _ _ _ _ _ _ _ _ _ _ _ _ _ _ _ _)
      | (with_reducible exact LeO.refl _)
      | (with_reducible exact LeO.none _)
      | (with_reducible refine LeO.ite ?_ ?_)
      | (with_reducible refine LeO.bind ?_ (fun _ => ?_))
      | exact ih0 _ _ _ _ _ _ _ _ _ _ _ _ _ _ _
      | exact ih1 _ _ _ _ _ _ _ _ _ _ _ _ _ _ _ _ _
      | exact ih2 _ _ _ _ _ _ _ _ _ _ _ _ _ _ _ _ _ _
      | exact ih3 _ _ _ _ _ _ _ _ _ _ _ _ _ _ _ _ _ _ _
      | exact LeO.none _
      | refine LeO.ite ?_ ?_
      | refine LeO.bind ?_ (fun _ => ?_)
    · intro y0 y1 y2 y3 y4 y5 y6 y7 y8 y9 y10 y11 y12 y13 y14 y15 y16 y17 y18
      unfold sawmillref17_from.j3
      repeat' first
      | (with_reducible exact ih0 _ _ _ _ _ _ _ _ _ _ _ _ _ _ _)
      | (with_reducible exact ih1 _ _ _ _ _ _ _ _ _ _ _ _ _ _ _ _ _)
      | (with_reducible exact ih2 _ _ _ _ _ _ _ _ _ _ _ _ _ _ _ _ _ _)
      | (with_reducible exact ih3 _ _ _ _ _ _ _ _ _ _ _ _ _ _ _ _ _ _ _)
      | (with_reducible exact LeO.refl _)
      | (with_reducible exact LeO.none _)
      | (with_reducible refine LeO.ite ?_ ?_)
      | (with_reducible refine LeO.bind ?_ (fun _ => ?_))
      | exact ih0 _ _ _ _ _ _ _ _ _ _ _ _ _ _ _
      | exact ih1 _ _ _ _ _ _ _ _ _ _ _ _ _ _ _ _ _
      | exact ih2 _ _ _ _ _ _ _ _ _ _ _ _ _ _ _ _ _ _
      | exact ih3 _ _ _ _ _ _ _ _ _ _ _ _ _ _ _ _ _ _ _
      | exact LeO.none _
      | refine LeO.ite ?_ ?_
      | refine LeO.bind ?_ (fun _ => ?_)
theorem sawmillref17_from.mono : ∀ a0 a1 a2 a3 a4 a5 a6 a7 a8 a9 a10 k, LeO (sawmillref17_from.f k a0 a1 a2 a3 a4 a5 a6 a7 a8 a9 a10) (sawmillref17_from.f (k + 1) a0 a1 a2 a3 a4 a5 a6 a7 a8 a9 a10) := by
  intro a0 a1 a2 a3 a4 a5 a6 a7 a8 a9 a10 k
  obtain ⟨ih0, ih1, ih2, ih3⟩ := sawmillref17_from.mono_l k
  unfold sawmillref17_from.f
  repeat' first
      | (with_reducible exact ih0 _ _ _ _ _ _ _ _ _ _ _ _ _ _ _)
      | (with_reducible exact ih1 _ _ _ _ _ _ _ _ _ _ _ _ _ _ _ _ _)
      | (with_reducible exact ih2 _ _ _ _ _ _ _ _ _ _ _ _ _ _ _ _ _ _)
      | (with_reducible exact ih3 _ _ _ _ _ _ _ _ _ _ _ _ _ _ _ _ _ _ _)
      | (with_reducible exact LeO.refl _)
      | (with_reducible exact LeO.none _)
      | (with_reducible refine LeO.ite ?_ ?_)
      | (with_reducible refine LeO.bind ?_ (fun _ => ?_))
      | exact ih0 _ _ _ _ _ _ _ _ _ _ _ _ _ _ _
      | exact ih1 _ _ _ _ _ _ _ _ _ _ _ _ _ _ _ _ _
      | exact ih2 _ _ _ _ _ _ _ _ _ _ _ _ _ _ _ _ _ _
      | exact ih3 _ _ _ _ _ _ _ _ _ _ _ _ _ _ _ _ _ _ _
      | exact LeO.none _
      | refine LeO.ite ?_ ?_
      | refine LeO.bind ?_ (fun _ => ?_)
end Go.Proofs.YtoaicheopcojoaaDoor.P
