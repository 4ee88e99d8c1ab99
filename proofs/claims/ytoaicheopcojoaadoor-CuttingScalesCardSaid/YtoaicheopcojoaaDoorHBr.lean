import Derived.Test.YtoaicheopcojoaaDoorHP3
import Derived.Test.YtoaicheopcojoaaDoorHB2
namespace Go.Proofs.YtoaicheopcojoaaDoor.P
open Go.RowKit Go.Proofs.YtoaicheopcojoaaDoorW.PrintWords Go.Proofs.YtoaicheopcojoaaDoorW.PrintLast Go.Proofs.YtoaicheopcojoaaDoorW.PrintMore
set_option linter.unusedVariables false
set_option linter.unusedSimpArgs false

/-! What Best answers. -/
section
variable (len kerf pitch : Int) (sizes : List Int) (gain : List (List Int)) (chip dust : List Int)
/-- What both Bests answer. -/
noncomputable def bestR : List S69 × Int × Int := if checkL len kerf pitch sizes gain chip dust = 0 then (piecesB len kerf sizes (bestL len kerf pitch sizes gain (preL chip) (preL dust)) (len.toNat + 1) 0, bestV len kerf pitch sizes gain (preL chip) (preL dust) 0, 0) else ([], 0, checkL len kerf pitch sizes gain chip dust)
theorem best_ev : Ev (fun k => cutting_Best.f k len kerf pitch sizes gain chip dust) (bestR len kerf pitch sizes gain chip dust) := by
  unfold cutting_Best.f bestR
  refine Ev.bind (check_ev len kerf pitch sizes gain chip dust) ?_
  by_cases h : checkL len kerf pitch sizes gain chip dust = 0
  · simp only [h, if_true]
    have O := (okLine_iff _ _ _ _ _ _ _).mp h
    have h1 := O.nchip
    have h2 := O.ndust
    have h3 := O.len1
    refine Ev.bind (sums_ev (fun p a b => O.bchip p a (by omega)) (by omega)) ?_
    refine Ev.bind (sums_ev (fun p a b => O.bdust p a (by omega)) (by omega)) ?_
    rw [if_pos ⟨O, by rw [preL_len]; omega, by rw [preL_len]; omega⟩]
    exact Ev.now _
  · simp only [h, if_false]
    exact Ev.now _
end
theorem piecesB_len (len kerf : Int) (sizes : List Int) (b : List S97) : ∀ (n : Nat) (e : Int), (piecesB len kerf sizes b n e).length ≤ n
  | 0, e => by simp [piecesB]
  | n + 1, e => by
    have := piecesB_len len kerf sizes b n (mn ((rd_T97 b e).f0.f1 + rd sizes (rd_T97 b e).f0.f0 + kerf) len)
    rw [piecesB]
    split
    · simp
    · split
      · simp
      · simp only [List.length_cons]
        omega
theorem bestR_len (len kerf pitch : Int) (sizes : List Int) (gain : List (List Int)) (chip dust : List Int) : (bestR len kerf pitch sizes gain chip dust).1.length ≤ 2001 := by
  unfold bestR
  split
  · rename_i h
    have O := (okLine_iff _ _ _ _ _ _ _).mp h
    have h3 := O.len1
    exact Nat.le_trans (piecesB_len _ _ _ _ _ _) (by omega)
  · simp
theorem wf_small {x : Int} (h0 : 0 ≤ x) (h1 : x ≤ 1000000) : (Lit.int .i64 x).wf = true := by
  have h2 : IntKind.i64.min ≤ 0 := by decide
  have h3 : 1000000 ≤ IntKind.i64.max := by decide
  simp only [Lit.wf, Bool.and_eq_true, decide_eq_true_eq]
  exact ⟨Int.le_trans h2 h0, Int.le_trans h1 h3⟩
end Go.Proofs.YtoaicheopcojoaaDoor.P
