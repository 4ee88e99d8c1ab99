/- CuttingChecks: for every line whatever, Check returns what the specification returns (where the lists are few), and the examples hold. No condition. -/
import Derived.Test.YtoaicheopcojoaaDoorRow3
import Derived.Test.YtoaicheopcojoaaDoorHFew
import Derived.Test.YtoaicheopcojoaaDoorHC1
import Derived.Test.YtoaicheopcojoaaDoorF3
namespace Go.Proofs.YtoaicheopcojoaaDoor.P
open Go.RowKit Go.Proofs.YtoaicheopcojoaaDoorW.PrintWords Go.Proofs.YtoaicheopcojoaaDoorW.PrintLast Go.Proofs.YtoaicheopcojoaaDoorW.PrintMore
theorem pure3 (len kerf pitch : Int) (sizes : List Int) (gain : List (List Int)) (chip dust : List Int) : ∃ k, sawmilllaw17_CuttingChecks.f k len kerf pitch sizes gain chip dust = some true := by
  obtain ⟨b, hE, _⟩ := few_ev len kerf pitch sizes gain chip dust
  refine Ev.rounds (g := fun k => sawmilllaw17_CuttingChecks.f k len kerf pitch sizes gain chip dust) ?_
  unfold sawmilllaw17_CuttingChecks.f
  refine Ev.bind hE ?_
  cases b
  · exact Ev.now true
  · simp only [if_true]
    refine Ev.bind (check_ev len kerf pitch sizes gain chip dust) ?_
    refine Ev.bind (rcheck_ev len kerf pitch sizes gain chip dust) ?_
    simp only [if_true]
    exact Ev.now true
theorem line3 : LineLaw 3 := by
  intro a0 a1 a2 A3 c3 l3 A4 c4 l4 A5 c5 l5 A6 c6 l6 w hwf g3 e3 g4 e4 g5 e5 g6 e6 hG
  obtain ⟨k, hk⟩ := pure3 a0 a1 a2 l3 l4 l5 l6
  exact sawmilllaw17_CuttingChecks.calls k a0 a1 a2 A3 c3 l3 A4 c4 l4 A5 c5 l5 A6 c6 l6 true w g3 e3 g4 e4 g5 e5 g6 e6 hG hk
end Go.Proofs.YtoaicheopcojoaaDoor.P
namespace Go.Proofs.YtoaicheopcojoaaDoor
/-- The tied card of CuttingChecks. -/
theorem cuttingChecks_holds : Rows.CuttingChecksCardSaid := P.card3 P.line3
#print axioms cuttingChecks_holds
end Go.Proofs.YtoaicheopcojoaaDoor
