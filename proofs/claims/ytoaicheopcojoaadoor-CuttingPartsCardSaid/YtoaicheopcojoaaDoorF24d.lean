import Derived.Test.YtoaicheopcojoaaDoorSq
import Derived.Test.YtoaicheopcojoaaDoorF22d
import Derived.Test.YtoaicheopcojoaaDoorF55
namespace Go.Proofs.YtoaicheopcojoaaDoor.P
open Go.RowKit Go.Proofs.YtoaicheopcojoaaDoorW.PrintWords Go.Proofs.YtoaicheopcojoaaDoorW.PrintLast Go.Proofs.YtoaicheopcojoaaDoorW.PrintMore
attribute [local go_sem] max2_int min2_int max_two min_two max_three min_three max_four min_four   -- for this text's walks alone
set_option linter.unusedVariables false
set_option linter.unusedSimpArgs false
/-! ### sawmillref17_Value: function 24 -/
def sawmillref17_Value.l0 : Nat → List (S69) → Int → Int → Int → Int → Int → List Int → List (List Int) → List Int → List Int → Option (Int × Int)
  | 0, _, _, _, _, _, _, _, _, _, _ => none
  | k + 1, x1, x9, x10, x298000, x298001, x298002, x298003, x298004, x298005, x298006 => if x10 < (x1.length : Int) then (if 0 ≤ x10 then (if 0 ≤ ((rd_T69 x1 x10).f0) then (if ((rd_T69 x1 x10).f0) < (x298004.length : Int) then (if 0 ≤ ((rd_T69 x1 x10).f1) then (if ((rd_T69 x1 x10).f1) < ((rd_L1 x298004 ((rd_T69 x1 x10).f0)).length : Int) then (sawmillref17_Value.l0 k x1 (wrap64 (x9 + (rd (rd_L1 x298004 ((rd_T69 x1 x10).f0)) ((rd_T69 x1 x10).f1)))) (wrap64 (x10 + 1)) x298000 x298001 x298002 x298003 x298004 x298005 x298006) else (none)) else (none)) else (none)) else (none)) else (none)) else (some (x9, 0))
def sawmillref17_Value.f (k : Nat) (a0_0 : Int) (a0_1 : Int) (a0_2 : Int) (l0_3 : List Int) (l0_4 : List (List Int)) (l0_5 : List Int) (l0_6 : List Int) (l1 : List (S69)) : Option (Int × Int) := (sawmillref17_Cuts.f k a0_0 a0_1 a0_2 l0_3 l0_4 l0_5 l0_6 l1).bind fun bt298 => (if bt298.2.2 = 0 then ((sawmillref17_sum.f k l0_6 bt298.1).bind fun t305 => ((sawmillref17_sum.f k l0_5 bt298.2.1).bind fun t306 => (sawmillref17_Value.l0 k l1 (wrap64 (t305 + t306)) 0 a0_0 a0_1 a0_2 l0_3 l0_4 l0_5 l0_6))) else (some (0, bt298.2.2)))
theorem sawmillref17_Value.mono_l : ∀ k, (∀ y0 y1 y2 y3 y4 y5 y6 y7 y8 y9, LeO (sawmillref17_Value.l0 k y0 y1 y2 y3 y4 y5 y6 y7 y8 y9) (sawmillref17_Value.l0 (k + 1) y0 y1 y2 y3 y4 y5 y6 y7 y8 y9))
  | 0 => fun _ _ _ _ _ _ _ _ _ _ r h => by simp [sawmillref17_Value.l0] at h
  | k + 1 => by
    have ih0 := sawmillref17_Value.mono_l k
    · intro y0 y1 y2 y3 y4 y5 y6 y7 y8 y9
      unfold sawmillref17_Value.l0
      repeat' first
      | (with_reducible exact ih0 _ _ _ _ _ _ _ _ _ _)
      | (with_reducible exact sawmillref17_Cuts.mono _ _ _ _ _ _ _ _ _)
      | (with_reducible exact sawmillref17_sum.mono _ _ _)
      | (with_reducible exact LeO.refl _)
      | (with_reducible exact LeO.none _)
      | (with_reducible refine LeO.ite ?_ ?_)
      | (with_reducible refine LeO.bind ?_ (fun _ => ?_))
      | exact ih0 _ _ _ _ _ _ _ _ _ _
      | exact sawmillref17_Cuts.mono _ _ _ _ _ _ _ _ _
      | exact sawmillref17_sum.mono _ _ _
      | exact LeO.none _
      | refine LeO.ite ?_ ?_
      | refine LeO.bind ?_ (fun _ => ?_)
theorem sawmillref17_Value.mono : ∀ a0 a1 a2 a3 a4 a5 a6 a7 k, LeO (sawmillref17_Value.f k a0 a1 a2 a3 a4 a5 a6 a7) (sawmillref17_Value.f (k + 1) a0 a1 a2 a3 a4 a5 a6 a7) := by
  intro a0 a1 a2 a3 a4 a5 a6 a7 k
  have ih0 := sawmillref17_Value.mono_l k
  unfold sawmillref17_Value.f
  repeat' first
      | (with_reducible exact ih0 _ _ _ _ _ _ _ _ _ _)
      | (with_reducible exact sawmillref17_Cuts.mono _ _ _ _ _ _ _ _ _)
      | (with_reducible exact sawmillref17_sum.mono _ _ _)
      | (with_reducible exact LeO.refl _)
      | (with_reducible exact LeO.none _)
      | (with_reducible refine LeO.ite ?_ ?_)
      | (with_reducible refine LeO.bind ?_ (fun _ => ?_))
      | exact ih0 _ _ _ _ _ _ _ _ _ _
      | exact sawmillref17_Cuts.mono _ _ _ _ _ _ _ _ _
      | exact sawmillref17_sum.mono _ _ _
      | exact LeO.none _
      | refine LeO.ite ?_ ?_
      | refine LeO.bind ?_ (fun _ => ?_)
end Go.Proofs.YtoaicheopcojoaaDoor.P
