import Derived.Test.YtoaicheopcojoaaDoorHP3
import Derived.Test.YtoaicheopcojoaaDoorHB2
import Derived.Test.YtoaicheopcojoaaDoorF57
import Derived.Test.YtoaicheopcojoaaDoorF29
namespace Go.Proofs.YtoaicheopcojoaaDoor.P
open Go.RowKit Go.Proofs.YtoaicheopcojoaaDoorW.PrintWords Go.Proofs.YtoaicheopcojoaaDoorW.PrintLast Go.Proofs.YtoaicheopcojoaaDoorW.PrintMore
set_option linter.unusedVariables false
set_option linter.unusedSimpArgs false

/-! The specification's prefix sums. -/
theorem prefix_l0 {l : List Int} (h : OkL l) (hl : l.length ≤ 2000) : ∀ (j i : Nat), i + j = l.length → Ev (fun k => sawmillref17_prefix.l0 k l ((List.range (i + 1)).map (pre l)) (i : Int)) (preL l)
  | 0, i, hi => by
    have e : i = l.length := by omega
    subst e
    refine Ev.step (f := fun _ => some (preL l)) (fun k => ?_) (Ev.now _)
    rw [sawmillref17_prefix.l0, if_neg (by omega)]
    rfl
  | j + 1, i, hi => by
    have hlt : i < l.length := by omega
    have hw : wrap64 ((i : Int) + 1) = ((i + 1 : Nat) : Int) := wr1 i l.length hlt (by omega)
    have t := prefix_l0 h hl j (i + 1) (by omega)
    have hr : rd ((List.range (i + 1)).map (pre l)) (i : Int) = pre l i := rd_of_get (by simp)
    refine Ev.step (fun k => ?_) t
    rw [sawmillref17_prefix.l0, if_pos (by omega), if_pos (by omega), if_pos (by simp; omega), if_pos (by simp; omega), hr, pre_wrap h hl i hlt, hw, List.range_succ (n := i + 1), List.map_append]
    rfl
theorem prefix_ev {l : List Int} (h : OkL l) (hl : l.length ≤ 2000) : Ev (fun k => sawmillref17_prefix.f k l) (preL l) := prefix_l0 h hl l.length 0 (by omega)
end Go.Proofs.YtoaicheopcojoaaDoor.P
