import Derived.Test.YtoaicheopcojoaaDoorSq
import Derived.Test.YtoaicheopcojoaaDoorF20
import Derived.Test.YtoaicheopcojoaaDoorF57
import Derived.Test.YtoaicheopcojoaaDoorF58d
namespace Go.Proofs.YtoaicheopcojoaaDoor.P
open Go.RowKit Go.Proofs.YtoaicheopcojoaaDoorW.PrintWords Go.Proofs.YtoaicheopcojoaaDoorW.PrintLast Go.Proofs.YtoaicheopcojoaaDoorW.PrintMore
attribute [local go_sem] max2_int min2_int max_two min_two max_three min_three max_four min_four   -- for this text's walks alone
set_option linter.unusedVariables false
set_option linter.unusedSimpArgs false
/-! ### sawmillref17_Best: function 28 -/
mutual
def sawmillref17_Best.l0 : Nat → List Int → List Int → List (S100) → Int → Int → Int → Int → List Int → List (List Int) → List Int → List Int → Option ((List (S69)) × Int × Int)
  | 0, _, _, _, _, _, _, _, _, _, _, _ => none
  | k + 1, x6, x7, x8, x9, x371000, x371001, x371002, x371003, x371004, x371005, x371006 => if x9 ≥ 0 then ((sawmillref17_from.f k x371000 x371001 x371002 x371003 x371004 x371005 x371006 x9 x6 x7 x8).bind fun bt381 => (if 0 ≤ x9 then (if x9 < (x8.length : Int) then (sawmillref17_Best.l0 k x6 x7 (x8.set (x9 : Int).toNat (⟨bt381.1, (⟨bt381.2.1, bt381.2.2⟩ : S69)⟩ : S100)) (wrap64 (x9 - 1)) x371000 x371001 x371002 x371003 x371004 x371005 x371006) else (none)) else (none))) else (sawmillref17_Best.l1 k x8 ([] : List (S69)) 0 x371000 x371001 x371002 x371003 x371004 x371005 x371006)
def sawmillref17_Best.l1 : Nat → List (S100) → List (S69) → Int → Int → Int → Int → List Int → List (List Int) → List Int → List Int → Option ((List (S69)) × Int × Int)
  | 0, _, _, _, _, _, _, _, _, _, _ => none
  | k + 1, x8, x10, x11, x371000, x371001, x371002, x371003, x371004, x371005, x371006 => if 0 ≤ x11 then (if x11 < (x8.length : Int) then (if ((rd_T100 x8 x11).f1.f0) ≥ 0 then (if x10.length < 8796093022208 then ((some (x10 ++ [(⟨(rd_T100 x8 x11).f1.f0, (rd_T100 x8 x11).f1.f1⟩ : S69)] : List (S69))).bind fun y388 => (if 0 ≤ ((rd_T100 x8 x11).f1.f0) then (if ((rd_T100 x8 x11).f1.f0) < (x371003.length : Int) then (if (wrap64 (((rd_T100 x8 x11).f1.f1) + (rd x371003 ((rd_T100 x8 x11).f1.f0)))) = x371000 then (if 0 < (x8.length : Int) then (some (y388, (rd_T100 x8 0).f0, 0)) else (none)) else (sawmillref17_Best.l1 k x8 y388 (mn (wrap64 ((wrap64 (((rd_T100 x8 x11).f1.f1) + (rd x371003 ((rd_T100 x8 x11).f1.f0)))) + x371001)) x371000) x371000 x371001 x371002 x371003 x371004 x371005 x371006)) else (none)) else (none))) else (none)) else (if 0 < (x8.length : Int) then (some (x10, (rd_T100 x8 0).f0, 0)) else (none))) else (none)) else (none)
end
def sawmillref17_Best.f (k : Nat) (a0_0 : Int) (a0_1 : Int) (a0_2 : Int) (l0_3 : List Int) (l0_4 : List (List Int)) (l0_5 : List Int) (l0_6 : List Int) : Option ((List (S69)) × Int × Int) := (sawmillref17_Check.f k a0_0 a0_1 a0_2 l0_3 l0_4 l0_5 l0_6).bind fun t371 => (if t371 = 0 then ((sawmillref17_prefix.f k l0_5).bind fun t372 => ((sawmillref17_prefix.f k l0_6).bind fun t375 => (if 0 ≤ (wrap64 (a0_0 + 1)) then (if (wrap64 (a0_0 + 1) : Int).toNat ≤ 11728124029610 then (sawmillref17_Best.l0 k t372 t375 (List.replicate (wrap64 (a0_0 + 1) : Int).toNat z100) a0_0 a0_0 a0_1 a0_2 l0_3 l0_4 l0_5 l0_6) else (none)) else (none)))) else (some (([] : List (S69)), 0, t371)))
theorem sawmillref17_Best.mono_l : ∀ k, (∀ y0 y1 y2 y3 y4 y5 y6 y7 y8 y9 y10, LeO (sawmillref17_Best.l0 k y0 y1 y2 y3 y4 y5 y6 y7 y8 y9 y10) (sawmillref17_Best.l0 (k + 1) y0 y1 y2 y3 y4 y5 y6 y7 y8 y9 y10)) ∧ (∀ y0 y1 y2 y3 y4 y5 y6 y7 y8 y9, LeO (sawmillref17_Best.l1 k y0 y1 y2 y3 y4 y5 y6 y7 y8 y9) (sawmillref17_Best.l1 (k + 1) y0 y1 y2 y3 y4 y5 y6 y7 y8 y9))
  | 0 => ⟨fun _ _ _ _ _ _ _ _ _ _ _ r h => by simp [sawmillref17_Best.l0] at h, fun _ _ _ _ _ _ _ _ _ _ r h => by simp [sawmillref17_Best.l1] at h⟩
  | k + 1 => by
    obtain ⟨ih0, ih1⟩ := sawmillref17_Best.mono_l k
    refine ⟨?_, ?_⟩
    · intro y0 y1 y2 y3 y4 y5 y6 y7 y8 y9 y10
      unfold sawmillref17_Best.l0
      repeat' first
      | (with_reducible exact ih0 _ _ _ _ _ _ _ _ _ _ _)
      | (with_reducible exact ih1 _ _ _ _ _ _ _ _ _ _)
      | (with_reducible exact sawmillref17_Check.mono _ _ _ _ _ _ _ _)
      | (with_reducible exact sawmillref17_from.mono _ _ _ _ _ _ _ _ _ _ _ _)
      | (with_reducible exact sawmillref17_prefix.mono _ _)
      | (with_reducible exact LeO.refl _)
      | (with_reducible exact LeO.none _)
      | (with_reducible refine LeO.ite ?_ ?_)
      | (with_reducible refine LeO.bind ?_ (fun _ => ?_))
      | exact ih0 _ _ _ _ _ _ _ _ _ _ _
      | exact ih1 _ _ _ _ _ _ _ _ _ _
      | exact sawmillref17_Check.mono _ _ _ _ _ _ _ _
      | exact sawmillref17_from.mono _ _ _ _ _ _ _ _ _ _ _ _
      | exact sawmillref17_prefix.mono _ _
      | exact LeO.none _
      | refine LeO.ite ?_ ?_
      | refine LeO.bind ?_ (fun _ => ?_)
    · intro y0 y1 y2 y3 y4 y5 y6 y7 y8 y9
      unfold sawmillref17_Best.l1
      repeat' first
      | (with_reducible exact ih0 _ _ _ _ _ _ _ _ _ _ _)
      | (with_reducible exact ih1 _ _ _ _ _ _ _ _ _ _)
      | (with_reducible exact sawmillref17_Check.mono _ _ _ _ _ _ _ _)
      | (with_reducible exact sawmillref17_from.mono _ _ _ _ _ _ _ _ _ _ _ _)
      | (with_reducible exact sawmillref17_prefix.mono _ _)
      | (with_reducible exact LeO.refl _)
      | (with_reducible exact LeO.none _)
      | (with_reducible refine LeO.ite ?_ ?_)
      | (with_reducible refine LeO.bind ?_ (fun _ => ?_))
      | exact ih0 _ _ _ _ _ _ _ _ _ _ _
      | exact ih1 _ _ _ _ _ _ _ _ _ _
      | exact sawmillref17_Check.mono _ _ _ _ _ _ _ _
      | exact sawmillref17_from.mono _ _ _ _ _ _ _ _ _ _ _ _
      | exact sawmillref17_prefix.mono _ _
      | exact LeO.none _
      | refine LeO.ite ?_ ?_
      | refine LeO.bind ?_ (fun _ => ?_)
theorem sawmillref17_Best.mono : ∀ a0 a1 a2 a3 a4 a5 a6 k, LeO (sawmillref17_Best.f k a0 a1 a2 a3 a4 a5 a6) (sawmillref17_Best.f (k + 1) a0 a1 a2 a3 a4 a5 a6) := by
  intro a0 a1 a2 a3 a4 a5 a6 k
  obtain ⟨ih0, ih1⟩ := sawmillref17_Best.mono_l k
  unfold sawmillref17_Best.f
  repeat' first
      | (with_reducible exact ih0 _ _ _ _ _ _ _ _ _ _ _)
      | (with_reducible exact ih1 _ _ _ _ _ _ _ _ _ _)
      | (with_reducible exact sawmillref17_Check.mono _ _ _ _ _ _ _ _)
      | (with_reducible exact sawmillref17_from.mono _ _ _ _ _ _ _ _ _ _ _ _)
      | (with_reducible exact sawmillref17_prefix.mono _ _)
      | (with_reducible exact LeO.refl _)
      | (with_reducible exact LeO.none _)
      | (with_reducible refine LeO.ite ?_ ?_)
      | (with_reducible refine LeO.bind ?_ (fun _ => ?_))
      | exact ih0 _ _ _ _ _ _ _ _ _ _ _
      | exact ih1 _ _ _ _ _ _ _ _ _ _
      | exact sawmillref17_Check.mono _ _ _ _ _ _ _ _
      | exact sawmillref17_from.mono _ _ _ _ _ _ _ _ _ _ _ _
      | exact sawmillref17_prefix.mono _ _
      | exact LeO.none _
      | refine LeO.ite ?_ ?_
      | refine LeO.bind ?_ (fun _ => ?_)
end Go.Proofs.YtoaicheopcojoaaDoor.P
