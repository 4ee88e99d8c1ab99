/- CuttingBest: the pieces of Best have the value that it returns; no other pieces have a greater one, and those with the same value do not come before them (within the statement's bounds); the examples hold. No condition. -/
import Derived.Test.YtoaicheopcojoaaDoorRow7
import Derived.Test.YtoaicheopcojoaaDoorHBe
import Derived.Test.YtoaicheopcojoaaDoorF7
namespace Go.Proofs.YtoaicheopcojoaaDoor.P
open Go.RowKit Go.Proofs.YtoaicheopcojoaaDoorW.PrintWords Go.Proofs.YtoaicheopcojoaaDoorW.PrintLast Go.Proofs.YtoaicheopcojoaaDoorW.PrintMore
section
variable (len kerf pitch : Int) (sizes : List Int) (gain : List (List Int)) (chip dust : List Int) (p : List S69)
theorem pure7_j0 (hw : ∀ x ∈ p, wf69 x) (b : Bool) (hp : b = false → p.length ≤ 300 ∧ len ≤ 120) : Ev (fun k => sawmilllaw17_CuttingBest.j0 k p b len kerf pitch sizes gain chip dust) true := by
  refine Ev.step (fun k => by rw [sawmilllaw17_CuttingBest.j0]) ?_
  cases b
  rotate_left
  · exact Ev.now true
  simp only [Bool.false_eq_true, if_false]
  obtain ⟨hp, hlen⟩ := hp rfl
  refine Ev.bind (best_ev len kerf pitch sizes gain chip dust) ?_
  refine Ev.bind (check_ev len kerf pitch sizes gain chip dust) ?_
  by_cases h : checkL len kerf pitch sizes gain chip dust = 0
  · have O := (okLine_iff _ _ _ _ _ _ _).mp h
    have e : bestR len kerf pitch sizes gain chip dust = (piecesB len kerf sizes (bestL len kerf pitch sizes gain (preL chip) (preL dust)) (len.toNat + 1) 0, bestV len kerf pitch sizes gain (preL chip) (preL dust) 0, 0) := by unfold bestR; rw [if_pos h]
    rw [e]
    simp only [h, if_true]
    obtain ⟨q1, q2, q3⟩ := best_pieces O hlen
    refine Ev.bind (val_ev len kerf pitch sizes gain chip dust _ q1 q2) ?_
    rw [q3]
    simp only [if_true, bne_self_eq_false]
    refine Ev.step (fun k => by rw [sawmilllaw17_CuttingBest.j1]) ?_
    simp only [Bool.false_eq_true, if_false]
    refine Ev.bind (val_ev len kerf pitch sizes gain chip dust p hp hw) ?_
    by_cases hv : (valR len kerf pitch sizes gain chip dust p).2 = 0
    · obtain ⟨r1, r2⟩ := val_best O hv
      simp only [hv, if_true, r1]
      by_cases hlt : (valR len kerf pitch sizes gain chip dust p).1 < bestV len kerf pitch sizes gain (preL chip) (preL dust) 0
      · simp only [hlt, if_true]
        exact Ev.now true
      · simp only [hlt, if_false]
        refine Ev.bind (before_ev _ _ (by omega)) ?_
        rw [r2 (by omega)]
        exact Ev.now true
    · have h0 : (valR len kerf pitch sizes gain chip dust p).1 = 0 := by
        unfold valR at hv ⊢
        simp only at hv ⊢
        by_cases hc : (cutsR len kerf pitch sizes gain chip dust p).2.2 = 0
        · rw [if_pos hc] at hv; exact absurd rfl hv
        · rw [if_neg hc]
      simp only [hv, if_false, h0, if_true]
      exact Ev.now true
  · have e : bestR len kerf pitch sizes gain chip dust = ([], 0, checkL len kerf pitch sizes gain chip dust) := by unfold bestR; rw [if_neg h]
    rw [e]
    simp only [if_true, h, if_false, List.length_nil]
    exact Ev.now true
theorem pure7 (hw : ∀ x ∈ p, wf69 x) : ∃ k, sawmilllaw17_CuttingBest.f k len kerf pitch sizes gain chip dust p = some true := by
  obtain ⟨b, hE, hB⟩ := short_ev len kerf pitch sizes gain chip dust
  refine Ev.rounds (g := fun k => sawmilllaw17_CuttingBest.f k len kerf pitch sizes gain chip dust p) ?_
  unfold sawmilllaw17_CuttingBest.f
  refine Ev.bind hE ?_
  cases b
  · exact pure7_j0 len kerf pitch sizes gain chip dust p hw true (fun h => by cases h)
  · simp only [if_true]
    exact pure7_j0 len kerf pitch sizes gain chip dust p hw _ (fun h => ⟨by have := of_decide_eq_false h; omega, hB rfl⟩)
end
theorem walk7 : Walk7 := by
  intro a0 a1 a2 A3 c3 l3 A4 c4 l4 A5 c5 l5 A6 c6 l6 A1 c1 l1 w hwf g3 e3 g4 e4 g5 e5 g6 e6 hw g1 e1 hG
  obtain ⟨k, hk⟩ := pure7 a0 a1 a2 l3 l4 l5 l6 l1 hw
  exact sawmilllaw17_CuttingBest.calls k a0 a1 a2 A3 c3 l3 A4 c4 l4 A5 c5 l5 A6 c6 l6 A1 c1 l1 true w g3 e3 g4 e4 g5 e5 g6 e6 g1 e1 hG hk
end Go.Proofs.YtoaicheopcojoaaDoor.P
namespace Go.Proofs.YtoaicheopcojoaaDoor
/-- The tied card of CuttingBest. -/
theorem cuttingBest_holds : Rows.CuttingBestCardSaid := P.card7 P.walk7
#print axioms cuttingBest_holds
end Go.Proofs.YtoaicheopcojoaaDoor
