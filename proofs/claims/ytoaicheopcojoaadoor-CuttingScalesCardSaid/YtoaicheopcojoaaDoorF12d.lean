import Derived.Test.YtoaicheopcojoaaDoorSq
import Derived.Test.YtoaicheopcojoaaDoorF42
import Derived.Test.YtoaicheopcojoaaDoorF19
import Derived.Test.YtoaicheopcojoaaDoorF26
import Derived.Test.YtoaicheopcojoaaDoorHB2
import Derived.Test.YtoaicheopcojoaaDoorF29
import Derived.Test.YtoaicheopcojoaaDoorF43
import Derived.Test.YtoaicheopcojoaaDoorHAwake
namespace Go.Proofs.YtoaicheopcojoaaDoor.P
open Go.RowKit Go.Proofs.YtoaicheopcojoaaDoorW.PrintWords Go.Proofs.YtoaicheopcojoaaDoorW.PrintLast Go.Proofs.YtoaicheopcojoaaDoorW.PrintMore
attribute [local go_sem] max2_int min2_int max_two min_two max_three min_three max_four min_four   -- for this text's walks alone
set_option linter.unusedVariables false
set_option linter.unusedSimpArgs false
/-! ### sawmilllaw17_CuttingScales: function 12 -/
mutual
noncomputable def sawmilllaw17_CuttingScales.j0 : Nat → Int → Bool → Int → Int → Int → List Int → List (List Int) → List Int → List Int → Option (Bool)
  | 0, _, _, _, _, _, _, _, _, _ => none
  | k + 1, x1, x28, x575000, x575001, x575002, x575003, x575004, x575005, x575006 => if x28 = true then ((sawmilllaw17_awake.f).bind fun t577 => (some t577)) else ((sawmilllaw17_copied.f x575000 x575001 x575002 x575003 x575004 x575005 x575006).bind fun bt578 => ((sawmilllaw17_scaled.f k x575005 x1).bind fun t594 => ((sawmilllaw17_scaled.f k x575006 x1).bind fun t597 => (sawmilllaw17_CuttingScales.l0 k x1 0 x575000 x575001 x575002 x575003 x575004 x575005 x575006 bt578.1 bt578.2.1 bt578.2.2.1 bt578.2.2.2.1 bt578.2.2.2.2.1 t594 t597))))
noncomputable def sawmilllaw17_CuttingScales.l0 : Nat → Int → Int → Int → Int → Int → List Int → List (List Int) → List Int → List Int → Int → Int → Int → List Int → List (List Int) → List Int → List Int → Option (Bool)
  | 0, _, _, _, _, _, _, _, _, _, _, _, _, _, _, _, _ => none
  | k + 1, x1, x6, x575000, x575001, x575002, x575003, x575004, x575005, x575006, x594000, x594001, x594002, x594003, x594004, x594005, x594006 => if x6 < (x575004.length : Int) then (if 0 ≤ x6 then ((sawmilllaw17_scaled.f k (rd_L1 x575004 x6) x1).bind fun t601 => (if x6 < (x594004.length : Int) then (sawmilllaw17_CuttingScales.l0 k x1 (wrap64 (x6 + 1)) x575000 x575001 x575002 x575003 x575004 x575005 x575006 x594000 x594001 x594002 x594003 (x594004.set (x6 : Int).toNat t601) x594005 x594006) else (none))) else (none)) else ((cutting_Check.f k x594000 x594001 x594002 x594003 x594004 x594005 x594006).bind fun t605 => (if t605 = 0 then ((cutting_Best.f k x575000 x575001 x575002 x575003 x575004 x575005 x575006).bind fun bt607 => ((cutting_Best.f k x594000 x594001 x594002 x594003 x594004 x594005 x594006).bind fun bt612 => (if bt607.2.2 = 0 then (if bt612.2.2 = 0 then ((sawmillref17_SamePieces.f k bt607.1 bt612.1).bind fun t617 => (if t617 = true then (if bt612.2.1 = (wrap64 (bt607.2.1 * x1)) then ((sawmilllaw17_awake.f).bind fun t618 => (some t618)) else (some false)) else (some false))) else (some false)) else (some false)))) else ((sawmilllaw17_awake.f).bind fun t606 => (some t606))))
end
noncomputable def sawmilllaw17_CuttingScales.f (k : Nat) (a0_0 : Int) (a0_1 : Int) (a0_2 : Int) (l0_3 : List Int) (l0_4 : List (List Int)) (l0_5 : List Int) (l0_6 : List Int) (a1 : Int) : Option (Bool) := (sawmilllaw17_short.f k a0_0 a0_1 a0_2 l0_3 l0_4 l0_5 l0_6).bind fun t575 => (if t575 = true then ((cutting_Check.f k a0_0 a0_1 a0_2 l0_3 l0_4 l0_5 l0_6).bind fun t576 => (if t576 = 0 then (if a1 < 1 then (sawmilllaw17_CuttingScales.j0 k a1 true a0_0 a0_1 a0_2 l0_3 l0_4 l0_5 l0_6) else (sawmilllaw17_CuttingScales.j0 k a1 (decide (a1 > 1000)) a0_0 a0_1 a0_2 l0_3 l0_4 l0_5 l0_6)) else (sawmilllaw17_CuttingScales.j0 k a1 true a0_0 a0_1 a0_2 l0_3 l0_4 l0_5 l0_6))) else (sawmilllaw17_CuttingScales.j0 k a1 true a0_0 a0_1 a0_2 l0_3 l0_4 l0_5 l0_6))
theorem sawmilllaw17_CuttingScales.mono_l : ∀ k, (∀ y0 y1 y2 y3 y4 y5 y6 y7 y8, LeO (sawmilllaw17_CuttingScales.j0 k y0 y1 y2 y3 y4 y5 y6 y7 y8) (sawmilllaw17_CuttingScales.j0 (k + 1) y0 y1 y2 y3 y4 y5 y6 y7 y8)) ∧ (∀ y0 y1 y2 y3 y4 y5 y6 y7 y8 y9 y10 y11 y12 y13 y14 y15, LeO (sawmilllaw17_CuttingScales.l0 k y0 y1 y2 y3 y4 y5 y6 y7 y8 y9 y10 y11 y12 y13 y14 y15) (sawmilllaw17_CuttingScales.l0 (k + 1) y0 y1 y2 y3 y4 y5 y6 y7 y8 y9 y10 y11 y12 y13 y14 y15))
  | 0 => ⟨fun _ _ _ _ _ _ _ _ _ r h => by simp [sawmilllaw17_CuttingScales.j0] at h, fun _ _ _ _ _ _ _ _ _ _ _ _ _ _ _ _ r h => by simp [sawmilllaw17_CuttingScales.l0] at h⟩
  | k + 1 => by
    obtain ⟨ih0, ih1⟩ := sawmilllaw17_CuttingScales.mono_l k
    refine ⟨?_, ?_⟩
    · intro y0 y1 y2 y3 y4 y5 y6 y7 y8
      unfold sawmilllaw17_CuttingScales.j0
      repeat' first
      | (with_reducible exact ih0 _ _ _ _ _ _ _ _ _)
      | (with_reducible exact ih1 _ _ _ _ _ _ _ _ _ _ _ _ _ _ _ _)
      | (with_reducible exact cutting_Best.mono _ _ _ _ _ _ _ _)
      | (with_reducible exact cutting_Check.mono _ _ _ _ _ _ _ _)
      | (with_reducible exact sawmilllaw17_scaled.mono _ _ _)
      | (with_reducible exact sawmilllaw17_short.mono _ _ _ _ _ _ _ _)
      | (with_reducible exact sawmillref17_SamePieces.mono _ _ _)
      | (with_reducible exact LeO.refl _)
      | (with_reducible exact LeO.none _)
      | (with_reducible refine LeO.ite ?_ ?_)
      | (with_reducible refine LeO.bind ?_ (fun _ => ?_))
      | exact ih0 _ _ _ _ _ _ _ _ _
      | exact ih1 _ _ _ _ _ _ _ _ _ _ _ _ _ _ _ _
      | exact cutting_Best.mono _ _ _ _ _ _ _ _
      | exact cutting_Check.mono _ _ _ _ _ _ _ _
      | exact sawmilllaw17_scaled.mono _ _ _
      | exact sawmilllaw17_short.mono _ _ _ _ _ _ _ _
      | exact sawmillref17_SamePieces.mono _ _ _
      | exact LeO.none _
      | refine LeO.ite ?_ ?_
      | refine LeO.bind ?_ (fun _ => ?_)
    · intro y0 y1 y2 y3 y4 y5 y6 y7 y8 y9 y10 y11 y12 y13 y14 y15
      unfold sawmilllaw17_CuttingScales.l0
      repeat' first
      | (with_reducible exact ih0 _ _ _ _ _ _ _ _ _)
      | (with_reducible exact ih1 _ _ _ _ _ _ _ _ _ _ _ _ _ _ _ _)
      | (with_reducible exact cutting_Best.mono _ _ _ _ _ _ _ _)
      | (with_reducible exact cutting_Check.mono _ _ _ _ _ _ _ _)
      | (with_reducible exact sawmilllaw17_scaled.mono _ _ _)
      | (with_reducible exact sawmilllaw17_short.mono _ _ _ _ _ _ _ _)
      | (with_reducible exact sawmillref17_SamePieces.mono _ _ _)
      | (with_reducible exact LeO.refl _)
      | (with_reducible exact LeO.none _)
      | (with_reducible refine LeO.ite ?_ ?_)
      | (with_reducible refine LeO.bind ?_ (fun _ => ?_))
      | exact ih0 _ _ _ _ _ _ _ _ _
      | exact ih1 _ _ _ _ _ _ _ _ _ _ _ _ _ _ _ _
      | exact cutting_Best.mono _ _ _ _ _ _ _ _
      | exact cutting_Check.mono _ _ _ _ _ _ _ _
      | exact sawmilllaw17_scaled.mono _ _ _
      | exact sawmilllaw17_short.mono _ _ _ _ _ _ _ _
      | exact sawmillref17_SamePieces.mono _ _ _
      | exact LeO.none _
      | refine LeO.ite ?_ ?_
      | refine LeO.bind ?_ (fun _ => ?_)
theorem sawmilllaw17_CuttingScales.mono : ∀ a0 a1 a2 a3 a4 a5 a6 a7 k, LeO (sawmilllaw17_CuttingScales.f k a0 a1 a2 a3 a4 a5 a6 a7) (sawmilllaw17_CuttingScales.f (k + 1) a0 a1 a2 a3 a4 a5 a6 a7) := by
  intro a0 a1 a2 a3 a4 a5 a6 a7 k
  obtain ⟨ih0, ih1⟩ := sawmilllaw17_CuttingScales.mono_l k
  unfold sawmilllaw17_CuttingScales.f
  repeat' first
      | (with_reducible exact ih0 _ _ _ _ _ _ _ _ _)
      | (with_reducible exact ih1 _ _ _ _ _ _ _ _ _ _ _ _ _ _ _ _)
      | (with_reducible exact cutting_Best.mono _ _ _ _ _ _ _ _)
      | (with_reducible exact cutting_Check.mono _ _ _ _ _ _ _ _)
      | (with_reducible exact sawmilllaw17_scaled.mono _ _ _)
      | (with_reducible exact sawmilllaw17_short.mono _ _ _ _ _ _ _ _)
      | (with_reducible exact sawmillref17_SamePieces.mono _ _ _)
      | (with_reducible exact LeO.refl _)
      | (with_reducible exact LeO.none _)
      | (with_reducible refine LeO.ite ?_ ?_)
      | (with_reducible refine LeO.bind ?_ (fun _ => ?_))
      | exact ih0 _ _ _ _ _ _ _ _ _
      | exact ih1 _ _ _ _ _ _ _ _ _ _ _ _ _ _ _ _
      | exact cutting_Best.mono _ _ _ _ _ _ _ _
      | exact cutting_Check.mono _ _ _ _ _ _ _ _
      | exact sawmilllaw17_scaled.mono _ _ _
      | exact sawmilllaw17_short.mono _ _ _ _ _ _ _ _
      | exact sawmillref17_SamePieces.mono _ _ _
      | exact LeO.none _
      | refine LeO.ite ?_ ?_
      | refine LeO.bind ?_ (fun _ => ?_)
end Go.Proofs.YtoaicheopcojoaaDoor.P
