/- CuttingBests: for every line, Best returns what the specification returns (at most 120 units and 8 sizes), and the examples hold. No condition. -/
import Derived.Test.YtoaicheopcojoaaDoorRow5
import Derived.Test.YtoaicheopcojoaaDoorHShort
import Derived.Test.YtoaicheopcojoaaDoorHBst
import Derived.Test.YtoaicheopcojoaaDoorF5
namespace Go.Proofs.YtoaicheopcojoaaDoor.P
open Go.RowKit Go.Proofs.YtoaicheopcojoaaDoorW.PrintWords Go.Proofs.YtoaicheopcojoaaDoorW.PrintLast Go.Proofs.YtoaicheopcojoaaDoorW.PrintMore
section
variable (len kerf pitch : Int) (sizes : List Int) (gain : List (List Int)) (chip dust : List Int)
theorem pure5 : ∃ k, sawmilllaw17_CuttingBests.f k len kerf pitch sizes gain chip dust = some true := by
  obtain ⟨b, hE, _⟩ := short_ev len kerf pitch sizes gain chip dust
  refine Ev.rounds (g := fun k => sawmilllaw17_CuttingBests.f k len kerf pitch sizes gain chip dust) ?_
  unfold sawmilllaw17_CuttingBests.f
  refine Ev.bind hE ?_
  cases b
  · exact Ev.now true
  · simp only [if_true]
    refine Ev.bind (best_ev len kerf pitch sizes gain chip dust) ?_
    refine Ev.bind (rbest_ev len kerf pitch sizes gain chip dust) ?_
    refine Ev.bind (samePieces_ev _ (by have := bestR_len len kerf pitch sizes gain chip dust; omega)) ?_
    simp only [if_true]
    exact Ev.now true
end
theorem walk5 : Walk5 := by
  intro a0 a1 a2 A3 c3 l3 A4 c4 l4 A5 c5 l5 A6 c6 l6 w hwf g3 e3 g4 e4 g5 e5 g6 e6 hG
  obtain ⟨k, hk⟩ := pure5 a0 a1 a2 l3 l4 l5 l6
  exact sawmilllaw17_CuttingBests.calls k a0 a1 a2 A3 c3 l3 A4 c4 l4 A5 c5 l5 A6 c6 l6 true w g3 e3 g4 e4 g5 e5 g6 e6 hG hk
end Go.Proofs.YtoaicheopcojoaaDoor.P
namespace Go.Proofs.YtoaicheopcojoaaDoor
/-- The tied card of CuttingBests. -/
theorem cuttingBests_holds : Rows.CuttingBestsCardSaid := P.card5 P.walk5
#print axioms cuttingBests_holds
end Go.Proofs.YtoaicheopcojoaaDoor
