/- CuttingUniform: for every description of a line, Uniform returns the line, or the error, that the specification returns (within the statement's bounds), and the examples hold. No condition. -/
import Derived.Test.YtoaicheopcojoaaDoorRow6
import Derived.Test.YtoaicheopcojoaaDoorHU
import Derived.Test.YtoaicheopcojoaaDoorF6
namespace Go.Proofs.YtoaicheopcojoaaDoor.P
open Go.RowKit Go.Proofs.YtoaicheopcojoaaDoorW.PrintWords Go.Proofs.YtoaicheopcojoaaDoorW.PrintLast Go.Proofs.YtoaicheopcojoaaDoorW.PrintMore
theorem pure6_j0 (b : Bool) (len kerf pitch : Int) (sizes gains : List Int) (chip dust : Int) (hs : b = false → sizes.length ≤ 40) : Ev (fun k => sawmilllaw17_CuttingUniform.j0 k b len kerf pitch sizes gains chip dust) true := by
  refine Ev.step (fun k => by rw [sawmilllaw17_CuttingUniform.j0]) ?_
  cases b
  · simp only [Bool.false_eq_true, if_false]
    have hs := hs rfl
    refine Ev.bind (uni_ev len kerf pitch sizes gains chip dust hs) ?_
    refine Ev.bind (runi_ev len kerf pitch sizes gains chip dust hs) ?_
    refine Ev.bind (uniL_same len kerf pitch sizes gains chip dust hs _ rfl) ?_
    simp only [if_true]
    exact Ev.now true
  · exact Ev.now true
theorem pure6 (len kerf pitch : Int) (sizes gains : List Int) (chip dust : Int) : ∃ k, sawmilllaw17_CuttingUniform.f k len kerf pitch sizes gains chip dust = some true := by
  refine Ev.rounds (g := fun k => sawmilllaw17_CuttingUniform.f k len kerf pitch sizes gains chip dust) ?_
  unfold sawmilllaw17_CuttingUniform.f
  have ht := pure6_j0 true len kerf pitch sizes gains chip dust (fun h => by cases h)
  have key : Ev (fun k => if (sizes.length : Int) > 40 then sawmilllaw17_CuttingUniform.j0 k true len kerf pitch sizes gains chip dust else sawmilllaw17_CuttingUniform.j0 k (decide ((gains.length : Int) > 40)) len kerf pitch sizes gains chip dust) true := by
    by_cases h : (sizes.length : Int) > 40
    · exact Ev.congr (fun k => if_pos h) ht
    · exact Ev.congr (fun k => if_neg h) (pure6_j0 _ len kerf pitch sizes gains chip dust (fun _ => by omega))
  by_cases h1 : len > 300
  · by_cases h2 : len ≤ 2000
    · exact Ev.congr (fun k => by rw [if_pos h1, if_pos h2]) ht
    · exact Ev.congr (fun k => by rw [if_pos h1, if_neg h2]) key
  · exact Ev.congr (fun k => if_neg h1) key
theorem walk6 : Walk6 := by
  intro a0 a1 a2 A3 c3 l3 A4 c4 l4 a5 a6 w g3 e3 g4 e4 hG
  obtain ⟨k, hk⟩ := pure6 a0 a1 a2 l3 l4 a5 a6
  exact sawmilllaw17_CuttingUniform.calls k a0 a1 a2 A3 c3 l3 A4 c4 l4 a5 a6 true w g3 e3 g4 e4 hG hk
end Go.Proofs.YtoaicheopcojoaaDoor.P
namespace Go.Proofs.YtoaicheopcojoaaDoor
/-- The tied card of CuttingUniform. -/
theorem cuttingUniform_holds : Rows.CuttingUniformCardSaid := P.card6 P.walk6
#print axioms cuttingUniform_holds
end Go.Proofs.YtoaicheopcojoaaDoor
