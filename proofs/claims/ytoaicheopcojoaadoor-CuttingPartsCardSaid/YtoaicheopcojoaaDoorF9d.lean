import Derived.Test.YtoaicheopcojoaaDoorSq
import Derived.Test.YtoaicheopcojoaaDoorF17
import Derived.Test.YtoaicheopcojoaaDoorF21
import Derived.Test.YtoaicheopcojoaaDoorF23
import Derived.Test.YtoaicheopcojoaaDoorF39
import Derived.Test.YtoaicheopcojoaaDoorHAwake
namespace Go.Proofs.YtoaicheopcojoaaDoor.P
open Go.RowKit Go.Proofs.YtoaicheopcojoaaDoorW.PrintWords Go.Proofs.YtoaicheopcojoaaDoorW.PrintLast Go.Proofs.YtoaicheopcojoaaDoorW.PrintMore
attribute [local go_sem] max2_int min2_int max_two min_two max_three min_three max_four min_four   -- for this text's walks alone
set_option linter.unusedVariables false
set_option linter.unusedSimpArgs false
/-! ### sawmilllaw17_CuttingParts: function 9 -/
mutual
noncomputable def sawmilllaw17_CuttingParts.j0 : Nat → List (S69) → Bool → Int → Int → Int → List Int → List (List Int) → List Int → List Int → Option (Bool)
  | 0, _, _, _, _, _, _, _, _, _ => none
  | k + 1, x1, x27, x525000, x525001, x525002, x525003, x525004, x525005, x525006 => if x27 = true then ((sawmilllaw17_awake.f).bind fun t526 => (some t526)) else ((cutting_Cuts.f k x525000 x525001 x525002 x525003 x525004 x525005 x525006 x1).bind fun bt527 => ((cutting_Value.f k x525000 x525001 x525002 x525003 x525004 x525005 x525006 x1).bind fun bt534 => (if bt527.2.2 = bt534.2 then (if bt527.2.2 = 0 then (if x525000 < 0 then (sawmilllaw17_CuttingParts.j1 k x1 bt527.1 bt527.2.1 bt534.1 true x525000 x525001 x525002 x525003 x525004 x525005 x525006) else (if x525000 > 2000 then (sawmilllaw17_CuttingParts.j1 k x1 bt527.1 bt527.2.1 bt534.1 true x525000 x525001 x525002 x525003 x525004 x525005 x525006) else (if (x525005.length : Int) = x525000 then (sawmilllaw17_CuttingParts.j1 k x1 bt527.1 bt527.2.1 bt534.1 ((x525006.length : Int) != x525000) x525000 x525001 x525002 x525003 x525004 x525005 x525006) else (sawmilllaw17_CuttingParts.j1 k x1 bt527.1 bt527.2.1 bt534.1 true x525000 x525001 x525002 x525003 x525004 x525005 x525006)))) else (if (bt527.1.length : Int) = 0 then (if (bt527.2.1.length : Int) = 0 then (if bt534.1 = 0 then ((sawmilllaw17_awake.f).bind fun t536 => (some t536)) else (some false)) else (some false)) else (some false))) else (some false))))
noncomputable def sawmilllaw17_CuttingParts.j1 : Nat → List (S69) → List (S49) → List (S49) → Int → Bool → Int → Int → Int → List Int → List (List Int) → List Int → List Int → Option (Bool)
  | 0, _, _, _, _, _, _, _, _, _, _, _, _ => none
  | k + 1, x1, x5, x6, x8, x85, x525000, x525001, x525002, x525003, x525004, x525005, x525006 => if x85 = true then (some false) else (if 0 ≤ x525000 then (if (x525000 : Int).toNat ≤ 35184372088832 then ((sawmilllaw17_mark.f k (List.replicate (x525000 : Int).toNat 0) x5).bind fun bt540 => (if bt540.1 = true then ((sawmilllaw17_mark.f k bt540.2 x6).bind fun bt542 => (sawmilllaw17_CuttingParts.j2 k x1 x5 x6 x8 bt542.2 (!bt542.1) x525000 x525001 x525002 x525003 x525004 x525005 x525006)) else (sawmilllaw17_CuttingParts.j2 k x1 x5 x6 x8 bt540.2 true x525000 x525001 x525002 x525003 x525004 x525005 x525006))) else (none)) else (none))
noncomputable def sawmilllaw17_CuttingParts.j2 : Nat → List (S69) → List (S49) → List (S49) → Int → List Int → Bool → Int → Int → Int → List Int → List (List Int) → List Int → List Int → Option (Bool)
  | 0, _, _, _, _, _, _, _, _, _, _, _, _, _ => none
  | k + 1, x1, x5, x6, x8, x10, x98, x525000, x525001, x525002, x525003, x525004, x525005, x525006 => if x98 = true then (some false) else (sawmilllaw17_CuttingParts.l0 k x1 x5 x6 x8 x10 0 0 x525000 x525001 x525002 x525003 x525004 x525005 x525006)
noncomputable def sawmilllaw17_CuttingParts.l0 : Nat → List (S69) → List (S49) → List (S49) → Int → List Int → Int → Int → Int → Int → Int → List Int → List (List Int) → List Int → List Int → Option (Bool)
  | 0, _, _, _, _, _, _, _, _, _, _, _, _, _, _ => none
  | k + 1, x1, x5, x6, x8, x10, x11, x12, x525000, x525001, x525002, x525003, x525004, x525005, x525006 => if x12 < (x5.length : Int) then (if 0 ≤ x12 then (sawmilllaw17_CuttingParts.l1 k x1 x5 x6 x8 x10 x11 x12 ((rd_T49 x5 x12).f0) x525000 x525001 x525002 x525003 x525004 x525005 x525006) else (none)) else (sawmilllaw17_CuttingParts.l2 k x1 x6 x8 x10 x11 0 x525000 x525001 x525002 x525003 x525004 x525005 x525006)
noncomputable def sawmilllaw17_CuttingParts.l1 : Nat → List (S69) → List (S49) → List (S49) → Int → List Int → Int → Int → Int → Int → Int → Int → List Int → List (List Int) → List Int → List Int → Option (Bool)
  | 0, _, _, _, _, _, _, _, _, _, _, _, _, _, _, _ => none
  | k + 1, x1, x5, x6, x8, x10, x11, x12, x13, x525000, x525001, x525002, x525003, x525004, x525005, x525006 => if 0 ≤ x12 then (if x12 < (x5.length : Int) then (if x13 < ((rd_T49 x5 x12).f1) then (if 0 ≤ x13 then (if x13 < (x525006.length : Int) then (sawmilllaw17_CuttingParts.l1 k x1 x5 x6 x8 x10 (wrap64 (x11 + (rd x525006 x13))) x12 (wrap64 (x13 + 1)) x525000 x525001 x525002 x525003 x525004 x525005 x525006) else (none)) else (none)) else (sawmilllaw17_CuttingParts.l0 k x1 x5 x6 x8 x10 x11 (wrap64 (x12 + 1)) x525000 x525001 x525002 x525003 x525004 x525005 x525006)) else (none)) else (none)
noncomputable def sawmilllaw17_CuttingParts.l2 : Nat → List (S69) → List (S49) → Int → List Int → Int → Int → Int → Int → Int → List Int → List (List Int) → List Int → List Int → Option (Bool)
  | 0, _, _, _, _, _, _, _, _, _, _, _, _, _ => none
  | k + 1, x1, x6, x8, x10, x11, x14, x525000, x525001, x525002, x525003, x525004, x525005, x525006 => if x14 < (x6.length : Int) then (if 0 ≤ x14 then (sawmilllaw17_CuttingParts.l3 k x1 x6 x8 x10 x11 x14 ((rd_T49 x6 x14).f0) x525000 x525001 x525002 x525003 x525004 x525005 x525006) else (none)) else (sawmilllaw17_CuttingParts.l4 k x1 x8 x10 x11 0 x525000 x525001 x525002 x525003 x525004 x525005 x525006)
noncomputable def sawmilllaw17_CuttingParts.l3 : Nat → List (S69) → List (S49) → Int → List Int → Int → Int → Int → Int → Int → Int → List Int → List (List Int) → List Int → List Int → Option (Bool)
  | 0, _, _, _, _, _, _, _, _, _, _, _, _, _, _ => none
  | k + 1, x1, x6, x8, x10, x11, x14, x15, x525000, x525001, x525002, x525003, x525004, x525005, x525006 => if 0 ≤ x14 then (if x14 < (x6.length : Int) then (if x15 < ((rd_T49 x6 x14).f1) then (if 0 ≤ x15 then (if x15 < (x525005.length : Int) then (sawmilllaw17_CuttingParts.l3 k x1 x6 x8 x10 (wrap64 (x11 + (rd x525005 x15))) x14 (wrap64 (x15 + 1)) x525000 x525001 x525002 x525003 x525004 x525005 x525006) else (none)) else (none)) else (sawmilllaw17_CuttingParts.l2 k x1 x6 x8 x10 x11 (wrap64 (x14 + 1)) x525000 x525001 x525002 x525003 x525004 x525005 x525006)) else (none)) else (none)
noncomputable def sawmilllaw17_CuttingParts.l4 : Nat → List (S69) → Int → List Int → Int → Int → Int → Int → Int → List Int → List (List Int) → List Int → List Int → Option (Bool)
  | 0, _, _, _, _, _, _, _, _, _, _, _, _ => none
  | k + 1, x1, x8, x10, x11, x16, x525000, x525001, x525002, x525003, x525004, x525005, x525006 => if x16 < (x1.length : Int) then (if 0 ≤ x16 then (if ((rd_T69 x1 x16).f0) < 0 then (sawmilllaw17_CuttingParts.j8 k x1 x8 x10 x11 x16 true x525000 x525001 x525002 x525003 x525004 x525005 x525006) else (if ((rd_T69 x1 x16).f0) ≥ (x525003.length : Int) then (sawmilllaw17_CuttingParts.j8 k x1 x8 x10 x11 x16 true x525000 x525001 x525002 x525003 x525004 x525005 x525006) else (if ((rd_T69 x1 x16).f0) ≥ (x525004.length : Int) then (sawmilllaw17_CuttingParts.j8 k x1 x8 x10 x11 x16 true x525000 x525001 x525002 x525003 x525004 x525005 x525006) else (if ((rd_T69 x1 x16).f1) < 0 then (sawmilllaw17_CuttingParts.j8 k x1 x8 x10 x11 x16 true x525000 x525001 x525002 x525003 x525004 x525005 x525006) else (if 0 ≤ ((rd_T69 x1 x16).f0) then (if ((rd_T69 x1 x16).f0) < (x525004.length : Int) then (sawmilllaw17_CuttingParts.j8 k x1 x8 x10 x11 x16 (decide (((rd_T69 x1 x16).f1) ≥ ((rd_L1 x525004 ((rd_T69 x1 x16).f0)).length : Int))) x525000 x525001 x525002 x525003 x525004 x525005 x525006) else (none)) else (none)))))) else (none)) else (sawmilllaw17_CuttingParts.l6 k x8 x10 x11 0)
noncomputable def sawmilllaw17_CuttingParts.j8 : Nat → List (S69) → Int → List Int → Int → Int → Bool → Int → Int → Int → List Int → List (List Int) → List Int → List Int → Option (Bool)
  | 0, _, _, _, _, _, _, _, _, _, _, _, _, _ => none
  | k + 1, x1, x8, x10, x11, x16, x212, x525000, x525001, x525002, x525003, x525004, x525005, x525006 => if x212 = true then (some false) else (if 0 ≤ x16 then (if x16 < (x1.length : Int) then (if 0 ≤ ((rd_T69 x1 x16).f0) then (if ((rd_T69 x1 x16).f0) < (x525003.length : Int) then (if (wrap64 (((rd_T69 x1 x16).f1) + (rd x525003 ((rd_T69 x1 x16).f0)))) > x525000 then (some false) else (sawmilllaw17_CuttingParts.l5 k x1 x8 x10 x11 x16 (wrap64 (((rd_T69 x1 x16).f1) + (rd x525003 ((rd_T69 x1 x16).f0)))) ((rd_T69 x1 x16).f1) x525000 x525001 x525002 x525003 x525004 x525005 x525006)) else (none)) else (none)) else (none)) else (none))
noncomputable def sawmilllaw17_CuttingParts.l5 : Nat → List (S69) → Int → List Int → Int → Int → Int → Int → Int → Int → Int → List Int → List (List Int) → List Int → List Int → Option (Bool)
  | 0, _, _, _, _, _, _, _, _, _, _, _, _, _, _ => none
  | k + 1, x1, x8, x10, x11, x16, x17, x18, x525000, x525001, x525002, x525003, x525004, x525005, x525006 => if x18 < x17 then (if 0 ≤ x18 then (if x18 < (x10.length : Int) then (sawmilllaw17_CuttingParts.l5 k x1 x8 (x10.set (x18 : Int).toNat (wrap64 ((rd x10 x18) + 1))) x11 x16 x17 (wrap64 (x18 + 1)) x525000 x525001 x525002 x525003 x525004 x525005 x525006) else (none)) else (none)) else (if 0 ≤ x16 then (if x16 < (x1.length : Int) then (if 0 ≤ ((rd_T69 x1 x16).f0) then (if ((rd_T69 x1 x16).f0) < (x525004.length : Int) then (if 0 ≤ ((rd_T69 x1 x16).f1) then (if ((rd_T69 x1 x16).f1) < ((rd_L1 x525004 ((rd_T69 x1 x16).f0)).length : Int) then (sawmilllaw17_CuttingParts.l4 k x1 x8 x10 (wrap64 (x11 + (rd (rd_L1 x525004 ((rd_T69 x1 x16).f0)) ((rd_T69 x1 x16).f1)))) (wrap64 (x16 + 1)) x525000 x525001 x525002 x525003 x525004 x525005 x525006) else (none)) else (none)) else (none)) else (none)) else (none)) else (none))
noncomputable def sawmilllaw17_CuttingParts.l6 : Nat → Int → List Int → Int → Int → Option (Bool)
  | 0, _, _, _, _ => none
  | k + 1, x8, x10, x11, x19 => if x19 < (x10.length : Int) then (if 0 ≤ x19 then (if (rd x10 x19) = 1 then (sawmilllaw17_CuttingParts.l6 k x8 x10 x11 (wrap64 (x19 + 1))) else (some false)) else (none)) else (if x11 = x8 then ((sawmilllaw17_awake.f).bind fun t568 => (some t568)) else (some false))
end
noncomputable def sawmilllaw17_CuttingParts.f (k : Nat) (a0_0 : Int) (a0_1 : Int) (a0_2 : Int) (l0_3 : List Int) (l0_4 : List (List Int)) (l0_5 : List Int) (l0_6 : List Int) (l1 : List (S69)) : Option (Bool) := (sawmilllaw17_few.f k a0_0 a0_1 a0_2 l0_3 l0_4 l0_5 l0_6).bind fun t525 => (if t525 = true then (sawmilllaw17_CuttingParts.j0 k l1 (decide ((l1.length : Int) > 300)) a0_0 a0_1 a0_2 l0_3 l0_4 l0_5 l0_6) else (sawmilllaw17_CuttingParts.j0 k l1 true a0_0 a0_1 a0_2 l0_3 l0_4 l0_5 l0_6))
theorem sawmilllaw17_CuttingParts.mono_l : ∀ k, (∀ y0 y1 y2 y3 y4 y5 y6 y7 y8, LeO (sawmilllaw17_CuttingParts.j0 k y0 y1 y2 y3 y4 y5 y6 y7 y8) (sawmilllaw17_CuttingParts.j0 (k + 1) y0 y1 y2 y3 y4 y5 y6 y7 y8)) ∧ (∀ y0 y1 y2 y3 y4 y5 y6 y7 y8 y9 y10 y11, LeO (sawmilllaw17_CuttingParts.j1 k y0 y1 y2 y3 y4 y5 y6 y7 y8 y9 y10 y11) (sawmilllaw17_CuttingParts.j1 (k + 1) y0 y1 y2 y3 y4 y5 y6 y7 y8 y9 y10 y11)) ∧ (∀ y0 y1 y2 y3 y4 y5 y6 y7 y8 y9 y10 y11 y12, LeO (sawmilllaw17_CuttingParts.j2 k y0 y1 y2 y3 y4 y5 y6 y7 y8 y9 y10 y11 y12) (sawmilllaw17_CuttingParts.j2 (k + 1) y0 y1 y2 y3 y4 y5 y6 y7 y8 y9 y10 y11 y12)) ∧ (∀ y0 y1 y2 y3 y4 y5 y6 y7 y8 y9 y10 y11 y12 y13, LeO (sawmilllaw17_CuttingParts.l0 k y0 y1 y2 y3 y4 y5 y6 y7 y8 y9 y10 y11 y12 y13) (sawmilllaw17_CuttingParts.l0 (k + 1) y0 y1 y2 y3 y4 y5 y6 y7 y8 y9 y10 y11 y12 y13)) ∧ (∀ y0 y1 y2 y3 y4 y5 y6 y7 y8 y9 y10 y11 y12 y13 y14, LeO (sawmilllaw17_CuttingParts.l1 k y0 y1 y2 y3 y4 y5 y6 y7 y8 y9 y10 y11 y12 y13 y14) (sawmilllaw17_CuttingParts.l1 (k + 1) y0 y1 y2 y3 y4 y5 y6 y7 y8 y9 y10 y11 y12 y13 y14)) ∧ (∀ y0 y1 y2 y3 y4 y5 y6 y7 y8 y9 y10 y11 y12, LeO (sawmilllaw17_CuttingParts.l2 k y0 y1 y2 y3 y4 y5 y6 y7 y8 y9 y10 y11 y12) (sawmilllaw17_CuttingParts.l2 (k + 1) y0 y1 y2 y3 y4 y5 y6 y7 y8 y9 y10 y11 y12)) ∧ (∀ y0 y1 y2 y3 y4 y5 y6 y7 y8 y9 y10 y11 y12 y13, LeO (sawmilllaw17_CuttingParts.l3 k y0 y1 y2 y3 y4 y5 y6 y7 y8 y9 y10 y11 y12 y13) (sawmilllaw17_CuttingParts.l3 (k + 1) y0 y1 y2 y3 y4 y5 y6 y7 y8 y9 y10 y11 y12 y13)) ∧ (∀ y0 y1 y2 y3 y4 y5 y6 y7 y8 y9 y10 y11, LeO (sawmilllaw17_CuttingParts.l4 k y0 y1 y2 y3 y4 y5 y6 y7 y8 y9 y10 y11) (sawmilllaw17_CuttingParts.l4 (k + 1) y0 y1 y2 y3 y4 y5 y6 y7 y8 y9 y10 y11)) ∧ (∀ y0 y1 y2 y3 y4 y5 y6 y7 y8 y9 y10 y11 y12, LeO (sawmilllaw17_CuttingParts.j8 k y0 y1 y2 y3 y4 y5 y6 y7 y8 y9 y10 y11 y12) (sawmilllaw17_CuttingParts.j8 (k + 1) y0 y1 y2 y3 y4 y5 y6 y7 y8 y9 y10 y11 y12)) ∧ (∀ y0 y1 y2 y3 y4 y5 y6 y7 y8 y9 y10 y11 y12 y13, LeO (sawmilllaw17_CuttingParts.l5 k y0 y1 y2 y3 y4 y5 y6 y7 y8 y9 y10 y11 y12 y13) (sawmilllaw17_CuttingParts.l5 (k + 1) y0 y1 y2 y3 y4 y5 y6 y7 y8 y9 y10 y11 y12 y13)) ∧ (∀ y0 y1 y2 y3, LeO (sawmilllaw17_CuttingParts.l6 k y0 y1 y2 y3) (sawmilllaw17_CuttingParts.l6 (k + 1) y0 y1 y2 y3))
  | 0 => ⟨fun _ _ _ _ _ _ _ _ _ r h => by simp [sawmilllaw17_CuttingParts.j0] at h, fun _ _ _ _ _ _ _ _ _ _ _ _ r h => by simp [sawmilllaw17_CuttingParts.j1] at h, fun _ _ _ _ _ _ _ _ _ _ _ _ _ r h => by simp [sawmilllaw17_CuttingParts.j2] at h, fun _ _ _ _ _ _ _ _ _ _ _ _ _ _ r h => by simp [sawmilllaw17_CuttingParts.l0] at h, fun _ _ _ _ _ _ _ _ _ _ _ _ _ _ _ r h => by simp [sawmilllaw17_CuttingParts.l1] at h, fun _ _ _ _ _ _ _ _ _ _ _ _ _ r h => by simp [sawmilllaw17_CuttingParts.l2] at h, fun _ _ _ _ _ _ _ _ _ _ _ _ _ _ r h => by simp [sawmilllaw17_CuttingParts.l3] at h, fun _ _ _ _ _ _ _ _ _ _ _ _ r h => by simp [sawmilllaw17_CuttingParts.l4] at h, fun _ _ _ _ _ _ _ _ _ _ _ _ _ r h => by simp [sawmilllaw17_CuttingParts.j8] at h, fun _ _ _ _ _ _ _ _ _ _ _ _ _ _ r h => by simp [sawmilllaw17_CuttingParts.l5] at h, fun _ _ _ _ r h => by simp [sawmilllaw17_CuttingParts.l6] at h⟩
  | k + 1 => by
    obtain ⟨ih0, ih1, ih2, ih3, ih4, ih5, ih6, ih7, ih8, ih9, ih10⟩ := sawmilllaw17_CuttingParts.mono_l k
    refine ⟨?_, ?_, ?_, ?_, ?_, ?_, ?_, ?_, ?_, ?_, ?_⟩
    · intro y0 y1 y2 y3 y4 y5 y6 y7 y8
      unfold sawmilllaw17_CuttingParts.j0
      repeat' first
      | (with_reducible exact ih0 _ _ _ _ _ _ _ _ _)
      | (with_reducible exact ih1 _ _ _ _ _ _ _ _ _ _ _ _)
      | (with_reducible exact ih2 _ _ _ _ _ _ _ _ _ _ _ _ _)
      | (with_reducible exact ih3 _ _ _ _ _ _ _ _ _ _ _ _ _ _)
      | (with_reducible exact ih4 _ _ _ _ _ _ _ _ _ _ _ _ _ _ _)
      | (with_reducible exact ih5 _ _ _ _ _ _ _ _ _ _ _ _ _)
      | (with_reducible exact ih6 _ _ _ _ _ _ _ _ _ _ _ _ _ _)
      | (with_reducible exact ih7 _ _ _ _ _ _ _ _ _ _ _ _)
      | (with_reducible exact ih8 _ _ _ _ _ _ _ _ _ _ _ _ _)
      | (with_reducible exact ih9 _ _ _ _ _ _ _ _ _ _ _ _ _ _)
      | (with_reducible exact ih10 _ _ _ _)
      | (with_reducible exact cutting_Cuts.mono _ _ _ _ _ _ _ _ _)
      | (with_reducible exact cutting_Value.mono _ _ _ _ _ _ _ _ _)
      | (with_reducible exact sawmilllaw17_few.mono _ _ _ _ _ _ _ _)
      | (with_reducible exact sawmilllaw17_mark.mono _ _ _)
      | (with_reducible exact LeO.refl _)
      | (with_reducible exact LeO.none _)
      | (with_reducible refine LeO.ite ?_ ?_)
      | (with_reducible refine LeO.bind ?_ (fun _ => ?_))
      | exact ih0 _ _ _ _ _ _ _ _ _
      | exact ih1 _ _ _ _ _ _ _ _ _ _ _ _
      | exact ih2 _ _ _ _ _ _ _ _ _ _ _ _ _
      | exact ih3 _ _ _ _ _ _ _ _ _ _ _ _ _ _
      | exact ih4 _ _ _ _ _ _ _ _ _ _ _ _ _ _ _
      | exact ih5 _ _ _ _ _ _ _ _ _ _ _ _ _
      | exact ih6 _ _ _ _ _ _ _ _ _ _ _ _ _ _
      | exact ih7 _ _ _ _ _ _ _ _ _ _ _ _
      | exact ih8 _ _ _ _ _ _ _ _ _ _ _ _ _
      | exact ih9 _ _ _ _ _ _ _ _ _ _ _ _ _ _
      | exact ih10 _ _ _ _
      | exact cutting_Cuts.mono _ _ _ _ _ _ _ _ _
      | exact cutting_Value.mono _ _ _ _ _ _ _ _ _
      | exact sawmilllaw17_few.mono _ _ _ _ _ _ _ _
      | exact sawmilllaw17_mark.mono _ _ _
      | exact LeO.none _
      | refine LeO.ite ?_ ?_
      | refine LeO.bind ?_ (fun _ => ?_)
    · intro y0 y1 y2 y3 y4 y5 y6 y7 y8 y9 y10 y11
      unfold sawmilllaw17_CuttingParts.j1
      repeat' first
      | (with_reducible exact ih0 _ _ _ _ _ _ _ _ _)
      | (with_reducible exact ih1 _ _ _ _ _ _ _ _ _ _ _ _)
      | (with_reducible exact ih2 _ _ _ _ _ _ _ _ _ _ _ _ _)
      | (with_reducible exact ih3 _ _ _ _ _ _ _ _ _ _ _ _ _ _)
      | (with_reducible exact ih4 _ _ _ _ _ _ _ _ _ _ _ _ _ _ _)
      | (with_reducible exact ih5 _ _ _ _ _ _ _ _ _ _ _ _ _)
      | (with_reducible exact ih6 _ _ _ _ _ _ _ _ _ _ _ _ _ _)
      | (with_reducible exact ih7 _ _ _ _ _ _ _ _ _ _ _ _)
      | (with_reducible exact ih8 _ _ _ _ _ _ _ _ _ _ _ _ _)
      | (with_reducible exact ih9 _ _ _ _ _ _ _ _ _ _ _ _ _ _)
      | (with_reducible exact ih10 _ _ _ _)
      | (with_reducible exact cutting_Cuts.mono _ _ _ _ _ _ _ _ _)
      | (with_reducible exact cutting_Value.mono _ _ _ _ _ _ _ _ _)
      | (with_reducible exact sawmilllaw17_few.mono _ _ _ _ _ _ _ _)
      | (with_reducible exact sawmilllaw17_mark.mono _ _ _)
      | (with_reducible exact LeO.refl _)
      | (with_reducible exact LeO.none _)
      | (with_reducible refine LeO.ite ?_ ?_)
      | (with_reducible refine LeO.bind ?_ (fun _ => ?_))
      | exact ih0 _ _ _ _ _ _ _ _ _
      | exact ih1 _ _ _ _ _ _ _ _ _ _ _ _
      | exact ih2 _ _ _ _ _ _ _ _ _ _ _ _ _
      | exact ih3 _ _ _ _ _ _ _ _ _ _ _ _ _ _
      | exact ih4 _ _ _ _ _ _ _ _ _ _ _ _ _ _ _
      | exact ih5 _ _ _ _ _ _ _ _ _ _ _ _ _
      | exact ih6 _ _ _ _ _ _ _ _ _ _ _ _ _ _
      | exact ih7 _ _ _ _ _ _ _ _ _ _ _ _
      | exact ih8 _ _ _ _ _ _ _ _ _ _ _ _ _
      | exact ih9 _ _ _ _ _ _ _ _ _ _ _ _ _ _
      | exact ih10 _ _ _ _
      | exact cutting_Cuts.mono _ _ _ _ _ _ _ _ _
      | exact cutting_Value.mono _ _ _ _ _ _ _ _ _
      | exact sawmilllaw17_few.mono _ _ _ _ _ _ _ _
      | exact sawmilllaw17_mark.mono _ _ _
      | exact LeO.none _
      | refine LeO.ite ?_ ?_
      | refine LeO.bind ?_ (fun _ => ?_)
    · intro y0 y1 y2 y3 y4 y5 y6 y7 y8 y9 y10 y11 y12
      unfold sawmilllaw17_CuttingParts.j2
      repeat' first
      | (with_reducible exact ih0 _ _ _ _ _ _ _ _ _)
      | (with_reducible exact ih1 _ _ _ _ _ _ _ _ _ _ _ _)
      | (with_reducible exact ih2 _ _ _ _ _ _ _ _ _ _ _ _ _)
      | (with_reducible exact ih3 _ _ _ _ _ _ _ _ _ _ _ _ _ _)
      | (with_reducible exact ih4 _ _ _ _ _ _ _ _ _ _ _ _ _ _ _)
      | (with_reducible exact ih5 _ _ _ _ _ _ _ _ _ _ _ _ _)
      | (with_reducible exact ih6 _ _ _ _ _ _ _ _ _ _ _ _ _ _)
      | (with_reducible exact ih7 _ _ _ _ _ _ _ _ _ _ _ _)
      | (with_reducible exact ih8 _ _ _ _ _ _ _ _ _ _ _ _ _)
      | (with_reducible exact ih9 _ _ _ _ _ _ _ _ _ _ _ _ _ _)
      | (with_reducible exact ih10 _ _ _ _)
      | (with_reducible exact cutting_Cuts.mono _ _ _ _ _ _ _ _ _)
      | (with_reducible exact cutting_Value.mono _ _ _ _ _ _ _ _ _)
      | (with_reducible exact sawmilllaw17_few.mono _ _ _ _ _ _ _ _)
      | (with_reducible exact sawmilllaw17_mark.mono _ _ _)
      | (with_reducible exact LeO.refl _)
      | (with_reducible exact LeO.none _)
      | (with_reducible refine LeO.ite ?_ ?_)
      | (with_reducible refine LeO.bind ?_ (fun _ => ?_))
      | exact ih0 _ _ _ _ _ _ _ _ _
      | exact ih1 _ _ _ _ _ _ _ _ _ _ _ _
      | exact ih2 _ _ _ _ _ _ _ _ _ _ _ _ _
      | exact ih3 _ _ _ _ _ _ _ _ _ _ _ _ _ _
      | exact ih4 _ _ _ _ _ _ _ _ _ _ _ _ _ _ _
      | exact ih5 _ _ _ _ _ _ _ _ _ _ _ _ _
      | exact ih6 _ _ _ _ _ _ _ _ _ _ _ _ _ _
      | exact ih7 _ _ _ _ _ _ _ _ _ _ _ _
      | exact ih8 _ _ _ _ _ _ _ _ _ _ _ _ _
      | exact ih9 _ _ _ _ _ _ _ _ _ _ _ _ _ _
      | exact ih10 _ _ _ _
      | exact cutting_Cuts.mono _ _ _ _ _ _ _ _ _
      | exact cutting_Value.mono _ _ _ _ _ _ _ _ _
      | exact sawmilllaw17_few.mono _ _ _ _ _ _ _ _
      | exact sawmilllaw17_mark.mono _ _ _
      | exact LeO.none _
      | refine LeO.ite ?_ ?_
      | refine LeO.bind ?_ (fun _ => ?_)
    · intro y0 y1 y2 y3 y4 y5 y6 y7 y8 y9 y10 y11 y12 y13
      unfold sawmilllaw17_CuttingParts.l0
      repeat' first
      | (with_reducible exact ih0 _ _ _ _ _ _ _ _ _)
      | (with_reducible exact ih1 _ _ _ _ _ _ _ _ _ _ _ _)
      | (with_reducible exact ih2 _ _ _ _ _ _ _ _ _ _ _ _ _)
      | (with_reducible exact ih3 _ _ _ _ _ _ _ _ _ _ _ _ _ _)
      | (with_reducible exact ih4 _ _ _ _ _ _ _ _ _ _ _ _ _ _ _)
      | (with_reducible exact ih5 _ _ _ _ _ _ _ _ _ _ _ _ _)
      | (with_reducible exact ih6 _ _ _ _ _ _ _ _ _ _ _ _ _ _)
      | (with_reducible exact ih7 _ _ _ _ _ _ _ _ _ _ _ _)
      | (with_reducible exact ih8 _ _ _ _ _ _ _ _ _ _ _ _ _)
      | (with_reducible exact ih9 _ _ _ _ _ _ _ _ _ _ _ _ _ _)
      | (with_reducible exact ih10 _ _ _ _)
      | (with_reducible exact cutting_Cuts.mono _ _ _ _ _ _ _ _ _)
      | (with_reducible exact cutting_Value.mono _ _ _ _ _ _ _ _ _)
      | (with_reducible exact sawmilllaw17_few.mono _ _ _ _ _ _ _ _)
      | (with_reducible exact sawmilllaw17_mark.mono _ _ _)
      | (with_reducible exact LeO.refl _)
      | (with_reducible exact LeO.none _)
      | (with_reducible refine LeO.ite ?_ ?_)
      | (with_reducible refine LeO.bind ?_ (fun _ => ?_))
      | exact ih0 _ _ _ _ _ _ _ _ _
      | exact ih1 _ _ _ _ _ _ _ _ _ _ _ _
      | exact ih2 _ _ _ _ _ _ _ _ _ _ _ _ _
      | exact ih3 _ _ _ _ _ _ _ _ _ _ _ _ _ _
      | exact ih4 _ _ _ _ _ _ _ _ _ _ _ _ _ _ _
      | exact ih5 _ _ _ _ _ _ _ _ _ _ _ _ _
      | exact ih6 _ _ _ _ _ _ _ _ _ _ _ _ _ _
      | exact ih7 _ _ _ _ _ _ _ _ _ _ _ _
      | exact ih8 _ _ _ _ _ _ _ _ _ _ _ _ _
      | exact ih9 _ _ _ _ _ _ _ _ _ _ _ _ _ _
      | exact ih10 _ _ _ _
      | exact cutting_Cuts.mono _ _ _ _ _ _ _ _ _
      | exact cutting_Value.mono _ _ _ _ _ _ _ _ _
      | exact sawmilllaw17_few.mono _ _ _ _ _ _ _ _
      | exact sawmilllaw17_mark.mono _ _ _
      | exact LeO.none _
      | refine LeO.ite ?_ ?_
      | refine LeO.bind ?_ (fun _ => ?_)
    · intro y0 y1 y2 y3 y4 y5 y6 y7 y8 y9 y10 y11 y12 y13 y14
      unfold sawmilllaw17_CuttingParts.l1
      repeat' first
      | (with_reducible exact ih0 _ _ _ _ _ _ _ _ _)
      | (with_reducible exact ih1 _ _ _ _ _ _ _ _ _ _ _ _)
      | (with_reducible exact ih2 _ _ _ _ _ _ _ _ _ _ _ _ _)
      | (with_reducible exact ih3 _ _ _ _ _ _ _ _ _ _ _ _ _ _)
      | (with_reducible exact ih4 _ _ _ _ _ _ _ _ _ _ _ _ _ _ _)
      | (with_reducible exact ih5 _ _ _ _ _ _ _ _ _ _ _ _ _)
      | (with_reducible exact ih6 _ _ _ _ _ _ _ _ _ _ _ _ _ _)
      | (with_reducible exact ih7 _ _ _ _ _ _ _ _ _ _ _ _)
      | (with_reducible exact ih8 _ _ _ _ _ _ _ _ _ _ _ _ _)
      | (with_reducible exact ih9 _ _ _ _ _ _ _ _ _ _ _ _ _ _)
      | (with_reducible exact ih10 _ _ _ _)
      | (with_reducible exact cutting_Cuts.mono _ _ _ _ _ _ _ _ _)
      | (with_reducible exact cutting_Value.mono _ _ _ _ _ _ _ _ _)
      | (with_reducible exact sawmilllaw17_few.mono _ _ _ _ _ _ _ _)
      | (with_reducible exact sawmilllaw17_mark.mono _ _ _)
      | (with_reducible exact LeO.refl _)
      | (with_reducible exact LeO.none _)
      | (with_reducible refine LeO.ite ?_ ?_)
      | (with_reducible refine LeO.bind ?_ (fun _ => ?_))
      | exact ih0 _ _ _ _ _ _ _ _ _
      | exact ih1 _ _ _ _ _ _ _ _ _ _ _ _
      | exact ih2 _ _ _ _ _ _ _ _ _ _ _ _ _
      | exact ih3 _ _ _ _ _ _ _ _ _ _ _ _ _ _
      | exact ih4 _ _ _ _ _ _ _ _ _ _ _ _ _ _ _
      | exact ih5 _ _ _ _ _ _ _ _ _ _ _ _ _
      | exact ih6 _ _ _ _ _ _ _ _ _ _ _ _ _ _
      | exact ih7 _ _ _ _ _ _ _ _ _ _ _ _
      | exact ih8 _ _ _ _ _ _ _ _ _ _ _ _ _
      | exact ih9 _ _ _ _ _ _ _ _ _ _ _ _ _ _
      | exact ih10 _ _ _ _
      | exact cutting_Cuts.mono _ _ _ _ _ _ _ _ _
      | exact cutting_Value.mono _ _ _ _ _ _ _ _ _
      | exact sawmilllaw17_few.mono _ _ _ _ _ _ _ _
      | exact sawmilllaw17_mark.mono _ _ _
      | exact LeO.none _
      | refine LeO.ite ?_ ?_
      | refine LeO.bind ?_ (fun _ => ?_)
    · intro y0 y1 y2 y3 y4 y5 y6 y7 y8 y9 y10 y11 y12
      unfold sawmilllaw17_CuttingParts.l2
      repeat' first
      | (with_reducible exact ih0 _ _ _ _ _ _ _ _ _)
      | (with_reducible exact ih1 _ _ _ _ _ _ _ _ _ _ _ _)
      | (with_reducible exact ih2 _ _ _ _ _ _ _ _ _ _ _ _ _)
      | (with_reducible exact ih3 _ _ _ _ _ _ _ _ _ _ _ _ _ _)
      | (with_reducible exact ih4 _ _ _ _ _ _ _ _ _ _ _ _ _ _ _)
      | (with_reducible exact ih5 _ _ _ _ _ _ _ _ _ _ _ _ _)
      | (with_reducible exact ih6 _ _ _ _ _ _ _ _ _ _ _ _ _ _)
      | (with_reducible exact ih7 _ _ _ _ _ _ _ _ _ _ _ _)
      | (with_reducible exact ih8 _ _ _ _ _ _ _ _ _ _ _ _ _)
      | (with_reducible exact ih9 _ _ _ _ _ _ _ _ _ _ _ _ _ _)
      | (with_reducible exact ih10 _ _ _ _)
      | (with_reducible exact cutting_Cuts.mono _ _ _ _ _ _ _ _ _)
      | (with_reducible exact cutting_Value.mono _ _ _ _ _ _ _ _ _)
      | (with_reducible exact sawmilllaw17_few.mono _ _ _ _ _ _ _ _)
      | (with_reducible exact sawmilllaw17_mark.mono _ _ _)
      | (with_reducible exact LeO.refl _)
      | (with_reducible exact LeO.none _)
      | (with_reducible refine LeO.ite ?_ ?_)
      | (with_reducible refine LeO.bind ?_ (fun _ => ?_))
      | exact ih0 _ _ _ _ _ _ _ _ _
      | exact ih1 _ _ _ _ _ _ _ _ _ _ _ _
      | exact ih2 _ _ _ _ _ _ _ _ _ _ _ _ _
      | exact ih3 _ _ _ _ _ _ _ _ _ _ _ _ _ _
      | exact ih4 _ _ _ _ _ _ _ _ _ _ _ _ _ _ _
      | exact ih5 _ _ _ _ _ _ _ _ _ _ _ _ _
      | exact ih6 _ _ _ _ _ _ _ _ _ _ _ _ _ _
      | exact ih7 _ _ _ _ _ _ _ _ _ _ _ _
      | exact ih8 _ _ _ _ _ _ _ _ _ _ _ _ _
      | exact ih9 _ _ _ _ _ _ _ _ _ _ _ _ _ _
      | exact ih10 _ _ _ _
      | exact cutting_Cuts.mono _ _ _ _ _ _ _ _ _
      | exact cutting_Value.mono _ _ _ _ _ _ _ _ _
      | exact sawmilllaw17_few.mono _ _ _ _ _ _ _ _
      | exact sawmilllaw17_mark.mono _ _ _
      | exact LeO.none _
      | refine LeO.ite ?_ ?_
      | refine LeO.bind ?_ (fun _ => ?_)
    · intro y0 y1 y2 y3 y4 y5 y6 y7 y8 y9 y10 y11 y12 y13
      unfold sawmilllaw17_CuttingParts.l3
      repeat' first
      | (with_reducible exact ih0 _ _ _ _ _ _ _ _ _)
      | (with_reducible exact ih1 _ _ _ _ _ _ _ _ _ _ _ _)
      | (with_reducible exact ih2 _ _ _ _ _ _ _ _ _ _ _ _ _)
      | (with_reducible exact ih3 _ _ _ _ _ _ _ _ _ _ _ _ _ _)
      | (with_reducible exact ih4 _ _ _ _ _ _ _ _ _ _ _ _ _ _ _)
      | (with_reducible exact ih5 _ _ _ _ _ _ _ _ _ _ _ _ _)
      | (with_reducible exact ih6 _ _ _ _ _ _ _ _ _ _ _ _ _ _)
      | (with_reducible exact ih7 _ _ _ _ _ _ _ _ _ _ _ _)
      | (with_reducible exact ih8 _ _ _ _ _ _ _ _ _ _ _ _ _)
      | (with_reducible exact ih9 _ _ _ _ _ _ _ _ _ _ _ _ _ _)
      | (with_reducible exact ih10 _ _ _ _)
      | (with_reducible exact cutting_Cuts.mono _ _ _ _ _ _ _ _ _)
      | (with_reducible exact cutting_Value.mono _ _ _ _ _ _ _ _ _)
      | (with_reducible exact sawmilllaw17_few.mono _ _ _ _ _ _ _ _)
      | (with_reducible exact sawmilllaw17_mark.mono _ _ _)
      | (with_reducible exact LeO.refl _)
      | (with_reducible exact LeO.none _)
      | (with_reducible refine LeO.ite ?_ ?_)
      | (with_reducible refine LeO.bind ?_ (fun _ => ?_))
      | exact ih0 _ _ _ _ _ _ _ _ _
      | exact ih1 _ _ _ _ _ _ _ _ _ _ _ _
      | exact ih2 _ _ _ _ _ _ _ _ _ _ _ _ _
      | exact ih3 _ _ _ _ _ _ _ _ _ _ _ _ _ _
      | exact ih4 _ _ _ _ _ _ _ _ _ _ _ _ _ _ _
      | exact ih5 _ _ _ _ _ _ _ _ _ _ _ _ _
      | exact ih6 _ _ _ _ _ _ _ _ _ _ _ _ _ _
      | exact ih7 _ _ _ _ _ _ _ _ _ _ _ _
      | exact ih8 _ _ _ _ _ _ _ _ _ _ _ _ _
      | exact ih9 _ _ _ _ _ _ _ _ _ _ _ _ _ _
      | exact ih10 _ _ _ _
      | exact cutting_Cuts.mono _ _ _ _ _ _ _ _ _
      | exact cutting_Value.mono _ _ _ _ _ _ _ _ _
      | exact sawmilllaw17_few.mono _ _ _ _ _ _ _ _
      | exact sawmilllaw17_mark.mono _ _ _
      | exact LeO.none _
      | refine LeO.ite ?_ ?_
      | refine LeO.bind ?_ (fun _ => ?_)
    · intro y0 y1 y2 y3 y4 y5 y6 y7 y8 y9 y10 y11
      unfold sawmilllaw17_CuttingParts.l4
      repeat' first
      | (with_reducible exact ih0 _ _ _ _ _ _ _ _ _)
      | (with_reducible exact ih1 _ _ _ _ _ _ _ _ _ _ _ _)
      | (with_reducible exact ih2 _ _ _ _ _ _ _ _ _ _ _ _ _)
      | (with_reducible exact ih3 _ _ _ _ _ _ _ _ _ _ _ _ _ _)
      | (with_reducible exact ih4 _ _ _ _ _ _ _ _ _ _ _ _ _ _ _)
      | (with_reducible exact ih5 _ _ _ _ _ _ _ _ _ _ _ _ _)
      | (with_reducible exact ih6 _ _ _ _ _ _ _ _ _ _ _ _ _ _)
      | (with_reducible exact ih7 _ _ _ _ _ _ _ _ _ _ _ _)
      | (with_reducible exact ih8 _ _ _ _ _ _ _ _ _ _ _ _ _)
      | (with_reducible exact ih9 _ _ _ _ _ _ _ _ _ _ _ _ _ _)
      | (with_reducible exact ih10 _ _ _ _)
      | (with_reducible exact cutting_Cuts.mono _ _ _ _ _ _ _ _ _)
      | (with_reducible exact cutting_Value.mono _ _ _ _ _ _ _ _ _)
      | (with_reducible exact sawmilllaw17_few.mono _ _ _ _ _ _ _ _)
      | (with_reducible exact sawmilllaw17_mark.mono _ _ _)
      | (with_reducible exact LeO.refl _)
      | (with_reducible exact LeO.none _)
      | (with_reducible refine LeO.ite ?_ ?_)
      | (with_reducible refine LeO.bind ?_ (fun _ => ?_))
      | exact ih0 _ _ _ _ _ _ _ _ _
      | exact ih1 _ _ _ _ _ _ _ _ _ _ _ _
      | exact ih2 _ _ _ _ _ _ _ _ _ _ _ _ _
      | exact ih3 _ _ _ _ _ _ _ _ _ _ _ _ _ _
      | exact ih4 _ _ _ _ _ _ _ _ _ _ _ _ _ _ _
      | exact ih5 _ _ _ _ _ _ _ _ _ _ _ _ _
      | exact ih6 _ _ _ _ _ _ _ _ _ _ _ _ _ _
      | exact ih7 _ _ _ _ _ _ _ _ _ _ _ _
      | exact ih8 _ _ _ _ _ _ _ _ _ _ _ _ _
      | exact ih9 _ _ _ _ _ _ _ _ _ _ _ _ _ _
      | exact ih10 _ _ _ _
      | exact cutting_Cuts.mono _ _ _ _ _ _ _ _ _
      | exact cutting_Value.mono _ _ _ _ _ _ _ _ _
      | exact sawmilllaw17_few.mono _ _ _ _ _ _ _ _
      | exact sawmilllaw17_mark.mono _ _ _
      | exact LeO.none _
      | refine LeO.ite ?_ ?_
      | refine LeO.bind ?_ (fun _ => ?_)
    · intro y0 y1 y2 y3 y4 y5 y6 y7 y8 y9 y10 y11 y12
      unfold sawmilllaw17_CuttingParts.j8
      repeat' first
      | (with_reducible exact ih0 _ _ _ _ _ _ _ _ _)
      | (with_reducible exact ih1 _ _ _ _ _ _ _ _ _ _ _ _)
      | (with_reducible exact ih2 _ _ _ _ _ _ _ _ _ _ _ _ _)
      | (with_reducible exact ih3 _ _ _ _ _ _ _ _ _ _ _ _ _ _)
      | (with_reducible exact ih4 _ _ _ _ _ _ _ _ _ _ _ _ _ _ _)
      | (with_reducible exact ih5 _ _ _ _ _ _ _ _ _ _ _ _ _)
      | (with_reducible exact ih6 _ _ _ _ _ _ _ _ _ _ _ _ _ _)
      | (with_reducible exact ih7 _ _ _ _ _ _ _ _ _ _ _ _)
      | (with_reducible exact ih8 _ _ _ _ _ _ _ _ _ _ _ _ _)
      | (with_reducible exact ih9 _ _ _ _ _ _ _ _ _ _ _ _ _ _)
      | (with_reducible exact ih10 _ _ _ _)
      | (with_reducible exact cutting_Cuts.mono _ _ _ _ _ _ _ _ _)
      | (with_reducible exact cutting_Value.mono _ _ _ _ _ _ _ _ _)
      | (with_reducible exact sawmilllaw17_few.mono _ _ _ _ _ _ _ _)
      | (with_reducible exact sawmilllaw17_mark.mono _ _ _)
      | (with_reducible exact LeO.refl _)
      | (with_reducible exact LeO.none _)
      | (with_reducible refine LeO.ite ?_ ?_)
      | (with_reducible refine LeO.bind ?_ (fun _ => ?_))
      | exact ih0 _ _ _ _ _ _ _ _ _
      | exact ih1 _ _ _ _ _ _ _ _ _ _ _ _
      | exact ih2 _ _ _ _ _ _ _ _ _ _ _ _ _
      | exact ih3 _ _ _ _ _ _ _ _ _ _ _ _ _ _
      | exact ih4 _ _ _ _ _ _ _ _ _ _ _ _ _ _ _
      | exact ih5 _ _ _ _ _ _ _ _ _ _ _ _ _
      | exact ih6 _ _ _ _ _ _ _ _ _ _ _ _ _ _
      | exact ih7 _ _ _ _ _ _ _ _ _ _ _ _
      | exact ih8 _ _ _ _ _ _ _ _ _ _ _ _ _
      | exact ih9 _ _ _ _ _ _ _ _ _ _ _ _ _ _
      | exact ih10 _ _ _ _
      | exact cutting_Cuts.mono _ _ _ _ _ _ _ _ _
      | exact cutting_Value.mono _ _ _ _ _ _ _ _ _
      | exact sawmilllaw17_few.mono _ _ _ _ _ _ _ _
      | exact sawmilllaw17_mark.mono _ _ _
      | exact LeO.none _
      | refine LeO.ite ?_ ?_
      | refine LeO.bind ?_ (fun _ => ?_)
    · intro y0 y1 y2 y3 y4 y5 y6 y7 y8 y9 y10 y11 y12 y13
      unfold sawmilllaw17_CuttingParts.l5
      repeat' first
      | (with_reducible exact ih0 _ _ _ _ _ _ _ _ _)
      | (with_reducible exact ih1 _ _ _ _ _ _ _ _ _ _ _ _)
      | (with_reducible exact ih2 _ _ _ _ _ _ _ _ _ _ _ _ _)
      | (with_reducible exact ih3 _ _ _ _ _ _ _ _ _ _ _ _ _ _)
      | (with_reducible exact ih4 _ _ _ _ _ _ _ _ _ _ _ _ _ _ _)
      | (with_reducible exact ih5 _ _ _ _ _ _ _ _ _ _ _ _ _)
      | (with_reducible exact ih6 _ _ _ _ _ _ _ _ _ _ _ _ _ _)
      | (with_reducible exact ih7 _ _ _ _ _ _ _ _ _ _ _ _)
      | (with_reducible exact ih8 _ _ _ _ _ _ _ _ _ _ _ _ _)
      | (with_reducible exact ih9 _ _ _ _ _ _ _ _ _ _ _ _ _ _)
      | (with_reducible exact ih10 _ _ _ _)
      | (with_reducible exact cutting_Cuts.mono _ _ _ _ _ _ _ _ _)
      | (with_reducible exact cutting_Value.mono _ _ _ _ _ _ _ _ _)
      | (with_reducible exact sawmilllaw17_few.mono _ _ _ _ _ _ _ _)
      | (with_reducible exact sawmilllaw17_mark.mono _ _ _)
      | (with_reducible exact LeO.refl _)
      | (with_reducible exact LeO.none _)
      | (with_reducible refine LeO.ite ?_ ?_)
      | (with_reducible refine LeO.bind ?_ (fun _ => ?_))
      | exact ih0 _ _ _ _ _ _ _ _ _
      | exact ih1 _ _ _ _ _ _ _ _ _ _ _ _
      | exact ih2 _ _ _ _ _ _ _ _ _ _ _ _ _
      | exact ih3 _ _ _ _ _ _ _ _ _ _ _ _ _ _
      | exact ih4 _ _ _ _ _ _ _ _ _ _ _ _ _ _ _
      | exact ih5 _ _ _ _ _ _ _ _ _ _ _ _ _
      | exact ih6 _ _ _ _ _ _ _ _ _ _ _ _ _ _
      | exact ih7 _ _ _ _ _ _ _ _ _ _ _ _
      | exact ih8 _ _ _ _ _ _ _ _ _ _ _ _ _
      | exact ih9 _ _ _ _ _ _ _ _ _ _ _ _ _ _
      | exact ih10 _ _ _ _
      | exact cutting_Cuts.mono _ _ _ _ _ _ _ _ _
      | exact cutting_Value.mono _ _ _ _ _ _ _ _ _
      | exact sawmilllaw17_few.mono _ _ _ _ _ _ _ _
      | exact sawmilllaw17_mark.mono _ _ _
      | exact LeO.none _
      | refine LeO.ite ?_ ?_
      | refine LeO.bind ?_ (fun _ => ?_)
    · intro y0 y1 y2 y3
      unfold sawmilllaw17_CuttingParts.l6
      repeat' first
      | (with_reducible exact ih0 _ _ _ _ _ _ _ _ _)
      | (with_reducible exact ih1 _ _ _ _ _ _ _ _ _ _ _ _)
      | (with_reducible exact ih2 _ _ _ _ _ _ _ _ _ _ _ _ _)
      | (with_reducible exact ih3 _ _ _ _ _ _ _ _ _ _ _ _ _ _)
      | (with_reducible exact ih4 _ _ _ _ _ _ _ _ _ _ _ _ _ _ _)
      | (with_reducible exact ih5 _ _ _ _ _ _ _ _ _ _ _ _ _)
      | (with_reducible exact ih6 _ _ _ _ _ _ _ _ _ _ _ _ _ _)
      | (with_reducible exact ih7 _ _ _ _ _ _ _ _ _ _ _ _)
      | (with_reducible exact ih8 _ _ _ _ _ _ _ _ _ _ _ _ _)
      | (with_reducible exact ih9 _ _ _ _ _ _ _ _ _ _ _ _ _ _)
      | (with_reducible exact ih10 _ _ _ _)
      | (with_reducible exact cutting_Cuts.mono _ _ _ _ _ _ _ _ _)
      | (with_reducible exact cutting_Value.mono _ _ _ _ _ _ _ _ _)
      | (with_reducible exact sawmilllaw17_few.mono _ _ _ _ _ _ _ _)
      | (with_reducible exact sawmilllaw17_mark.mono _ _ _)
      | (with_reducible exact LeO.refl _)
      | (with_reducible exact LeO.none _)
      | (with_reducible refine LeO.ite ?_ ?_)
      | (with_reducible refine LeO.bind ?_ (fun _ => ?_))
      | exact ih0 _ _ _ _ _ _ _ _ _
      | exact ih1 _ _ _ _ _ _ _ _ _ _ _ _
      | exact ih2 _ _ _ _ _ _ _ _ _ _ _ _ _
      | exact ih3 _ _ _ _ _ _ _ _ _ _ _ _ _ _
      | exact ih4 _ _ _ _ _ _ _ _ _ _ _ _ _ _ _
      | exact ih5 _ _ _ _ _ _ _ _ _ _ _ _ _
      | exact ih6 _ _ _ _ _ _ _ _ _ _ _ _ _ _
      | exact ih7 _ _ _ _ _ _ _ _ _ _ _ _
      | exact ih8 _ _ _ _ _ _ _ _ _ _ _ _ _
      | exact ih9 _ _ _ _ _ _ _ _ _ _ _ _ _ _
      | exact ih10 _ _ _ _
      | exact cutting_Cuts.mono _ _ _ _ _ _ _ _ _
      | exact cutting_Value.mono _ _ _ _ _ _ _ _ _
      | exact sawmilllaw17_few.mono _ _ _ _ _ _ _ _
      | exact sawmilllaw17_mark.mono _ _ _
      | exact LeO.none _
      | refine LeO.ite ?_ ?_
      | refine LeO.bind ?_ (fun _ => ?_)
theorem sawmilllaw17_CuttingParts.mono : ∀ a0 a1 a2 a3 a4 a5 a6 a7 k, LeO (sawmilllaw17_CuttingParts.f k a0 a1 a2 a3 a4 a5 a6 a7) (sawmilllaw17_CuttingParts.f (k + 1) a0 a1 a2 a3 a4 a5 a6 a7) := by
  intro a0 a1 a2 a3 a4 a5 a6 a7 k
  obtain ⟨ih0, ih1, ih2, ih3, ih4, ih5, ih6, ih7, ih8, ih9, ih10⟩ := sawmilllaw17_CuttingParts.mono_l k
  unfold sawmilllaw17_CuttingParts.f
  repeat' first
      | (with_reducible exact ih0 _ _ _ _ _ _ _ _ _)
      | (with_reducible exact ih1 _ _ _ _ _ _ _ _ _ _ _ _)
      | (with_reducible exact ih2 _ _ _ _ _ _ _ _ _ _ _ _ _)
      | (with_reducible exact ih3 _ _ _ _ _ _ _ _ _ _ _ _ _ _)
      | (with_reducible exact ih4 _ _ _ _ _ _ _ _ _ _ _ _ _ _ _)
      | (with_reducible exact ih5 _ _ _ _ _ _ _ _ _ _ _ _ _)
      | (with_reducible exact ih6 _ _ _ _ _ _ _ _ _ _ _ _ _ _)
      | (with_reducible exact ih7 _ _ _ _ _ _ _ _ _ _ _ _)
      | (with_reducible exact ih8 _ _ _ _ _ _ _ _ _ _ _ _ _)
      | (with_reducible exact ih9 _ _ _ _ _ _ _ _ _ _ _ _ _ _)
      | (with_reducible exact ih10 _ _ _ _)
      | (with_reducible exact cutting_Cuts.mono _ _ _ _ _ _ _ _ _)
      | (with_reducible exact cutting_Value.mono _ _ _ _ _ _ _ _ _)
      | (with_reducible exact sawmilllaw17_few.mono _ _ _ _ _ _ _ _)
      | (with_reducible exact sawmilllaw17_mark.mono _ _ _)
      | (with_reducible exact LeO.refl _)
      | (with_reducible exact LeO.none _)
      | (with_reducible refine LeO.ite ?_ ?_)
      | (with_reducible refine LeO.bind ?_ (fun _ => ?_))
      | exact ih0 _ _ _ _ _ _ _ _ _
      | exact ih1 _ _ _ _ _ _ _ _ _ _ _ _
      | exact ih2 _ _ _ _ _ _ _ _ _ _ _ _ _
      | exact ih3 _ _ _ _ _ _ _ _ _ _ _ _ _ _
      | exact ih4 _ _ _ _ _ _ _ _ _ _ _ _ _ _ _
      | exact ih5 _ _ _ _ _ _ _ _ _ _ _ _ _
      | exact ih6 _ _ _ _ _ _ _ _ _ _ _ _ _ _
      | exact ih7 _ _ _ _ _ _ _ _ _ _ _ _
      | exact ih8 _ _ _ _ _ _ _ _ _ _ _ _ _
      | exact ih9 _ _ _ _ _ _ _ _ _ _ _ _ _ _
      | exact ih10 _ _ _ _
      | exact cutting_Cuts.mono _ _ _ _ _ _ _ _ _
      | exact cutting_Value.mono _ _ _ _ _ _ _ _ _
      | exact sawmilllaw17_few.mono _ _ _ _ _ _ _ _
      | exact sawmilllaw17_mark.mono _ _ _
      | exact LeO.none _
      | refine LeO.ite ?_ ?_
      | refine LeO.bind ?_ (fun _ => ?_)
end Go.Proofs.YtoaicheopcojoaaDoor.P
