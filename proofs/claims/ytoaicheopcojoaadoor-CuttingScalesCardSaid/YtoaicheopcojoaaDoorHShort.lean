import Derived.Test.YtoaicheopcojoaaDoorF26
import Derived.Test.YtoaicheopcojoaaDoorHFew
namespace Go.Proofs.YtoaicheopcojoaaDoor.P
open Go.RowKit Go.Proofs.YtoaicheopcojoaaDoorW.PrintWords Go.Proofs.YtoaicheopcojoaaDoorW.PrintLast Go.Proofs.YtoaicheopcojoaaDoorW.PrintMore
set_option linter.unusedVariables false
/-! What 'short' answers. -/
section
variable (len kerf pitch : Int) (sizes : List Int) (gain : List (List Int)) (chip dust : List Int)
theorem short_ev : ∃ b, Ev (fun k => sawmilllaw17_short.f k len kerf pitch sizes gain chip dust) b ∧ (b = true → len ≤ 120) := by
  obtain ⟨b, hE, _⟩ := few_ev len kerf pitch sizes gain chip dust
  unfold sawmilllaw17_short.f
  cases b
  · exact ⟨false, Ev.bind hE (Ev.now _), fun h => by cases h⟩
  by_cases h : len ≤ 120
  · refine ⟨decide ((sizes.length : Int) ≤ 8), Ev.bind hE ?_, fun _ => h⟩
    simp only [if_true, h]
    exact Ev.now _
  · refine ⟨false, Ev.bind hE ?_, fun h => by cases h⟩
    simp only [if_true, h, if_false]
    exact Ev.now _
end
end Go.Proofs.YtoaicheopcojoaaDoor.P
