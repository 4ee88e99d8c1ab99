import Derived.Test.YtoaicheopcojoaaDoorF29
import Derived.Test.YtoaicheopcojoaaDoorHC1
namespace Go.Proofs.YtoaicheopcojoaaDoor.P
open Go.RowKit Go.Proofs.YtoaicheopcojoaaDoorW.PrintWords Go.Proofs.YtoaicheopcojoaaDoorW.PrintLast Go.Proofs.YtoaicheopcojoaaDoorW.PrintMore
set_option linter.unusedVariables false
set_option linter.unusedSimpArgs false
theorem samePieces_l0 (l : List S69) (hn : l.length < 1000000000000000000) : ∀ j i : Nat, i + j = l.length → Ev (fun k => sawmillref17_SamePieces.l0 k l l (i : Int)) true
  | 0, i, h => Ev.step (f := fun _ => some true) (fun k => by rw [sawmillref17_SamePieces.l0, if_neg (by omega)]) (Ev.now _)
  | j + 1, i, h => by
    refine Ev.step (fun k => ?_) (samePieces_l0 l hn j (i + 1) (by omega))
    rw [sawmillref17_SamePieces.l0, if_pos (by omega), if_pos (by omega), if_pos (by omega), if_neg (by simp), wr1 i l.length (by omega) hn]
theorem samePieces_ev (l : List S69) (hn : l.length < 1000000000000000000) : Ev (fun k => sawmillref17_SamePieces.f k l l) true := by
  unfold sawmillref17_SamePieces.f
  exact Ev.congr (fun k => if_pos rfl) (samePieces_l0 l hn l.length 0 (by omega))
end Go.Proofs.YtoaicheopcojoaaDoor.P
