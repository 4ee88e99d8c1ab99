import Derived.Test.YtoaicheopcojoaaDoorHB2
import Derived.Test.YtoaicheopcojoaaDoorHC2
import Derived.Test.YtoaicheopcojoaaDoorF23
import Derived.Test.YtoaicheopcojoaaDoorF30
namespace Go.Proofs.YtoaicheopcojoaaDoor.P
open Go.RowKit Go.Proofs.YtoaicheopcojoaaDoorW.PrintWords Go.Proofs.YtoaicheopcojoaaDoorW.PrintLast Go.Proofs.YtoaicheopcojoaaDoorW.PrintMore
set_option linter.unusedVariables false
set_option linter.unusedSimpArgs false
/-! What the calls of awake answer. -/
section
set_option maxRecDepth 100000
theorem ev_u1 : sawmilllaw17_uniform.f 60 10 1 1 [4] [5] 0 0 = some (10, 1, 1, [4], [[5, 5, 5, 5, 5, 5, 5]], [0, 0, 0, 0, 0, 0, 0, 0, 0, 0], [0, 0, 0, 0, 0, 0, 0, 0, 0, 0], 0) := by kernel_rfl
theorem ev_u2 : sawmilllaw17_uniform.f 60 10 1 1 [4] [5] 2 (-1) = some (10, 1, 1, [4], [[5, 5, 5, 5, 5, 5, 5]], [2, 2, 2, 2, 2, 2, 2, 2, 2, 2], [-1, -1, -1, -1, -1, -1, -1, -1, -1, -1], 0) := by kernel_rfl
theorem ev_k1 : cutting_Check.f 60 10 1 1 [4] [[5, 5, 5, 5, 5, 5, 5]] [0, 0, 0, 0, 0, 0, 0, 0, 0, 0] [0, 0, 0, 0, 0, 0, 0, 0, 0, 0] = some 0 := by kernel_rfl
theorem ev_k2 : cutting_Check.f 60 10 1 1 [4] [[5, 5, 5, 5, 5, 5, 5]] [2, 2, 2, 2, 2, 2, 2, 2, 2, 2] [-1, -1, -1, -1, -1, -1, -1, -1, -1, -1] = some 0 := by kernel_rfl
theorem ok_1 : OkLine 10 1 1 [4] [[5, 5, 5, 5, 5, 5, 5]] [0, 0, 0, 0, 0, 0, 0, 0, 0, 0] [0, 0, 0, 0, 0, 0, 0, 0, 0, 0] := (okLine_iff _ _ _ _ _ _ _).mp (by kernel_rfl)
theorem ok_2 : OkLine 10 1 1 [4] [[5, 5, 5, 5, 5, 5, 5]] [2, 2, 2, 2, 2, 2, 2, 2, 2, 2] [-1, -1, -1, -1, -1, -1, -1, -1, -1, -1] := (okLine_iff _ _ _ _ _ _ _).mp (by kernel_rfl)
theorem ev_s1 : cutting_sums.f 60 [0, 0, 0, 0, 0, 0, 0, 0, 0, 0] = some [0, 0, 0, 0, 0, 0, 0, 0, 0, 0, 0] := by kernel_rfl
theorem ev_s2 : cutting_sums.f 60 [2, 2, 2, 2, 2, 2, 2, 2, 2, 2] = some [0, 2, 4, 6, 8, 10, 12, 14, 16, 18, 20] := by kernel_rfl
theorem ev_s3 : cutting_sums.f 60 [-1, -1, -1, -1, -1, -1, -1, -1, -1, -1] = some [0, -1, -2, -3, -4, -5, -6, -7, -8, -9, -10] := by kernel_rfl
theorem ev_b1 : cutting_Best.f 60 10 1 1 [4] [[5, 5, 5, 5, 5, 5, 5]] [0, 0, 0, 0, 0, 0, 0, 0, 0, 0] [0, 0, 0, 0, 0, 0, 0, 0, 0, 0] = some ([⟨0, 0⟩, ⟨0, 5⟩], 10, 0) := by
  unfold cutting_Best.f
  rw [ev_k1, ev_s1, Option.bind_some, if_pos rfl, Option.bind_some, Option.bind_some, if_pos ⟨ok_1, rfl, rfl⟩]
  kernel_rfl
theorem ev_b2 : cutting_Best.f 60 10 1 1 [4] [[5, 5, 5, 5, 5, 5, 5]] [2, 2, 2, 2, 2, 2, 2, 2, 2, 2] [-1, -1, -1, -1, -1, -1, -1, -1, -1, -1] = some ([], 20, 0) := by
  unfold cutting_Best.f
  rw [ev_k2, ev_s2, ev_s3, Option.bind_some, if_pos rfl, Option.bind_some, Option.bind_some, if_pos ⟨ok_2, rfl, rfl⟩]
  kernel_rfl
theorem ev_c (p : List S69) (h : p.length ≤ 1000000 ∧ ∀ x ∈ p, (Lit.int .i64 x.f0).wf = true ∧ (Lit.int .i64 x.f1).wf = true) : cutting_Cuts.f 60 10 1 1 [4] [[5, 5, 5, 5, 5, 5, 5]] [0, 0, 0, 0, 0, 0, 0, 0, 0, 0] [0, 0, 0, 0, 0, 0, 0, 0, 0, 0] p = some (cutsL 10 1 1 [4] [[5, 5, 5, 5, 5, 5, 5]] p 0 false [] []) := by
  unfold cutting_Cuts.f cutting_cuts.f
  rw [ev_k1, Option.bind_some, if_pos rfl, if_pos ⟨ok_1, h⟩]
  rfl
theorem ev_c1 : cutting_Cuts.f 60 10 1 1 [4] [[5, 5, 5, 5, 5, 5, 5]] [0, 0, 0, 0, 0, 0, 0, 0, 0, 0] [0, 0, 0, 0, 0, 0, 0, 0, 0, 0] [⟨0, 2⟩] = some ([⟨1, 2⟩, ⟨6, 7⟩], [⟨0, 1⟩, ⟨7, 10⟩], 0) := by
  rw [ev_c _ (by simp [Lit.wf]; decide)]
  kernel_rfl
theorem ev_c2 : cutting_Cuts.f 60 10 1 1 [4] [[5, 5, 5, 5, 5, 5, 5]] [0, 0, 0, 0, 0, 0, 0, 0, 0, 0] [0, 0, 0, 0, 0, 0, 0, 0, 0, 0] [⟨0, 1⟩] = some ([], [], 11) := by
  rw [ev_c _ (by simp [Lit.wf]; decide)]
  kernel_rfl
theorem ev_v : cutting_Value.f 60 10 1 1 [4] [[5, 5, 5, 5, 5, 5, 5]] [2, 2, 2, 2, 2, 2, 2, 2, 2, 2] [-1, -1, -1, -1, -1, -1, -1, -1, -1, -1] [⟨0, 0⟩] = some (14, 0) := by
  unfold cutting_Value.f cutting_Cuts.f cutting_cuts.f
  rw [ev_k2, Option.bind_some, if_pos rfl, if_pos ⟨ok_2, by simp [Lit.wf]; decide⟩]
  kernel_rfl
end
end Go.Proofs.YtoaicheopcojoaaDoor.P
