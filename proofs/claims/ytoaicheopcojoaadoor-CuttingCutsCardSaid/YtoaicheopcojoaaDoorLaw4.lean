/- CuttingCuts: for every line and every list of pieces, Cuts and Value return what the specification returns (within the statement's bounds), and the examples hold. No condition. -/
import Derived.Test.YtoaicheopcojoaaDoorRow4
import Derived.Test.YtoaicheopcojoaaDoorHFew
import Derived.Test.YtoaicheopcojoaaDoorHVal
import Derived.Test.YtoaicheopcojoaaDoorF4
namespace Go.Proofs.YtoaicheopcojoaaDoor.P
open Go.RowKit Go.Proofs.YtoaicheopcojoaaDoorW.PrintWords Go.Proofs.YtoaicheopcojoaaDoorW.PrintLast Go.Proofs.YtoaicheopcojoaaDoorW.PrintMore
theorem cutsR_len (len kerf pitch : Int) (sizes : List Int) (gain : List (List Int)) (chip dust : List Int) : ∀ (p : List S69) (edge : Int) (en : Bool) (d c : List S49), (cutsL len kerf pitch sizes gain p edge en d c).1.length ≤ d.length + 2 * p.length ∧ (cutsL len kerf pitch sizes gain p edge en d c).2.1.length ≤ c.length + p.length + 1
  | [], edge, en, d, c => by
    rw [cutsL]
    have := addS_len c edge len
    simp
    omega
  | x :: p, edge, en, d, c => by
    simp only [cutsL]
    split
    · simp
    split
    · simp
    split
    · simp
    split
    · simp
    split
    · have a1 := addS_len d (x.f1 + rd sizes x.f0) (mn (x.f1 + rd sizes x.f0 + kerf) len)
      have := cutsR_len len kerf pitch sizes gain chip dust p (mn (x.f1 + rd sizes x.f0 + kerf) len) (x.f1 + rd sizes x.f0 == len) (addS d (x.f1 + rd sizes x.f0) (mn (x.f1 + rd sizes x.f0 + kerf) len)) c
      simp
      omega
    · have a1 := addS_len d (x.f1 - kerf) x.f1
      have a2 := addS_len (addS d (x.f1 - kerf) x.f1) (x.f1 + rd sizes x.f0) (mn (x.f1 + rd sizes x.f0 + kerf) len)
      have a3 := addS_len c edge (x.f1 - kerf)
      have := cutsR_len len kerf pitch sizes gain chip dust p (mn (x.f1 + rd sizes x.f0 + kerf) len) (x.f1 + rd sizes x.f0 == len) (addS (addS d (x.f1 - kerf) x.f1) (x.f1 + rd sizes x.f0) (mn (x.f1 + rd sizes x.f0 + kerf) len)) (addS c edge (x.f1 - kerf))
      simp
      omega
section
variable (len kerf pitch : Int) (sizes : List Int) (gain : List (List Int)) (chip dust : List Int) (p : List S69)
theorem cutsR_short (hp : p.length ≤ 300) : (cutsR len kerf pitch sizes gain chip dust p).1.length ≤ 1000 ∧ (cutsR len kerf pitch sizes gain chip dust p).2.1.length ≤ 1000 := by
  unfold cutsR
  split
  · have := cutsR_len len kerf pitch sizes gain chip dust p 0 false [] []
    simp at this
    omega
  · simp
theorem pure4_j0 (hw : ∀ x ∈ p, wf69 x) (b : Bool) (hp : b = false → p.length ≤ 300) : Ev (fun k => sawmilllaw17_CuttingCuts.j0 k p b len kerf pitch sizes gain chip dust) true := by
  refine Ev.step (fun k => by rw [sawmilllaw17_CuttingCuts.j0]) ?_
  cases b
  · simp only [Bool.false_eq_true, if_false]
    have hp := hp rfl
    obtain ⟨s1, s2⟩ := cutsR_short len kerf pitch sizes gain chip dust p hp
    refine Ev.bind (cuts_ev len kerf pitch sizes gain chip dust p (by omega) hw) ?_
    refine Ev.bind (rcuts_ev len kerf pitch sizes gain chip dust p hp) ?_
    refine Ev.bind (val_ev len kerf pitch sizes gain chip dust p hp hw) ?_
    refine Ev.bind (rval_ev len kerf pitch sizes gain chip dust p hp) ?_
    refine Ev.bind (sameSpans_ev _ (by omega)) ?_
    simp only [if_true]
    refine Ev.bind (sameSpans_ev _ (by omega)) ?_
    simp only [if_true]
    exact Ev.now true
  · exact Ev.now true
theorem pure4 (hw : ∀ x ∈ p, wf69 x) : ∃ k, sawmilllaw17_CuttingCuts.f k len kerf pitch sizes gain chip dust p = some true := by
  obtain ⟨b, hE, _⟩ := few_ev len kerf pitch sizes gain chip dust
  refine Ev.rounds (g := fun k => sawmilllaw17_CuttingCuts.f k len kerf pitch sizes gain chip dust p) ?_
  unfold sawmilllaw17_CuttingCuts.f
  refine Ev.bind hE ?_
  cases b
  · exact pure4_j0 len kerf pitch sizes gain chip dust p hw true (fun h => by cases h)
  · simp only [if_true]
    exact pure4_j0 len kerf pitch sizes gain chip dust p hw _ (fun h => by have := of_decide_eq_false h; omega)
end
theorem walk4 : Walk4 := by
  intro a0 a1 a2 A3 c3 l3 A4 c4 l4 A5 c5 l5 A6 c6 l6 A1 c1 l1 w hwf g3 e3 g4 e4 g5 e5 g6 e6 hw g1 e1 hG
  obtain ⟨k, hk⟩ := pure4 a0 a1 a2 l3 l4 l5 l6 l1 hw
  exact sawmilllaw17_CuttingCuts.calls k a0 a1 a2 A3 c3 l3 A4 c4 l4 A5 c5 l5 A6 c6 l6 A1 c1 l1 true w g3 e3 g4 e4 g5 e5 g6 e6 g1 e1 hG hk
end Go.Proofs.YtoaicheopcojoaaDoor.P
namespace Go.Proofs.YtoaicheopcojoaaDoor
/-- The tied card of CuttingCuts. -/
theorem cuttingCuts_holds : Rows.CuttingCutsCardSaid := P.card4 P.walk4
#print axioms cuttingCuts_holds
end Go.Proofs.YtoaicheopcojoaaDoor
