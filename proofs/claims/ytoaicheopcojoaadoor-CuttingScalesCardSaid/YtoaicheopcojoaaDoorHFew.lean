import Derived.Test.YtoaicheopcojoaaDoorF17
namespace Go.Proofs.YtoaicheopcojoaaDoor.P
open Go.RowKit Go.Proofs.YtoaicheopcojoaaDoorW.PrintWords Go.Proofs.YtoaicheopcojoaaDoorW.PrintLast Go.Proofs.YtoaicheopcojoaaDoorW.PrintMore
set_option linter.unusedVariables false
set_option linter.unusedSimpArgs false
/-! What 'few' answers. -/
section
variable (len kerf pitch : Int) (sizes : List Int) (gain : List (List Int)) (chip dust : List Int)
theorem few_l0 (hg : gain.length ≤ 40) : ∀ (j i : Nat) (n : Int), i + j = gain.length → 0 ≤ n → n ≤ 2100 * i → ∃ b, Ev (fun k => sawmilllaw17_few.l0 k n (i : Int) len kerf pitch sizes gain chip dust) b ∧ (b = true → ∀ q : Nat, i ≤ q → q < gain.length → (rd_L1 gain q).length ≤ 2100)
  | 0, i, n, h, h0, h1 => by
    refine ⟨decide (n ≤ 20000), Ev.step (f := fun _ => some (decide (n ≤ 20000))) (fun k => by rw [sawmilllaw17_few.l0, if_neg (by omega)]) (Ev.now _), fun _ q h2 h3 => by omega⟩
  | j + 1, i, n, h, h0, h1 => by
    by_cases hb : ((rd_L1 gain i).length : Int) > 2100
    · refine ⟨false, Ev.step (f := fun _ => some false) (fun k => by rw [sawmilllaw17_few.l0, if_pos (by omega), if_pos (by omega), if_pos hb]) (Ev.now _), fun h => by cases h⟩
    · have e1 : wrap64 (n + ((rd_L1 gain i).length : Int)) = n + ((rd_L1 gain i).length : Int) := IntWalk.wrap64_in _ (by omega)
      have e2 : wrap64 ((i : Int) + 1) = ((i + 1 : Nat) : Int) := by rw [IntWalk.wrap64_in _ (by omega)]; rfl
      obtain ⟨b, hE, hB⟩ := few_l0 hg j (i + 1) (n + ((rd_L1 gain i).length : Int)) (by omega) (by omega) (by omega)
      refine ⟨b, Ev.step (fun k => by rw [sawmilllaw17_few.l0, if_pos (by omega), if_pos (by omega), if_neg hb, e1, e2]) hE, fun hb' q h2 h3 => ?_⟩
      by_cases e : q = i
      · subst e; omega
      · exact hB hb' q (by omega) h3
/-- 'few' answers; where it says yes, the lists are short. -/
theorem few_ev : ∃ b, Ev (fun k => sawmilllaw17_few.f k len kerf pitch sizes gain chip dust) b ∧ (b = true → sizes.length ≤ 40 ∧ gain.length ≤ 40 ∧ chip.length ≤ 2100 ∧ dust.length ≤ 2100 ∧ ∀ q : Nat, q < gain.length → (rd_L1 gain q).length ≤ 2100) := by
  have hf : Ev (fun k => sawmilllaw17_few.j0 k true len kerf pitch sizes gain chip dust) false := Ev.step (f := fun _ => some false) (fun k => by rw [sawmilllaw17_few.j0]; rfl) (Ev.now _)
  unfold sawmilllaw17_few.f
  by_cases h1 : (sizes.length : Int) > 40
  · exact ⟨false, Ev.congr (fun k => if_pos h1) hf, fun h => by cases h⟩
  by_cases h2 : (gain.length : Int) > 40
  · exact ⟨false, Ev.congr (fun k => by rw [if_neg h1, if_pos h2]) hf, fun h => by cases h⟩
  by_cases h3 : (chip.length : Int) > 2100
  · exact ⟨false, Ev.congr (fun k => by rw [if_neg h1, if_neg h2, if_pos h3]) hf, fun h => by cases h⟩
  by_cases h4 : (dust.length : Int) > 2100
  · exact ⟨false, Ev.congr (fun k => by rw [if_neg h1, if_neg h2, if_neg h3, decide_eq_true h4]) hf, fun h => by cases h⟩
  obtain ⟨b, hE, hB⟩ := few_l0 len kerf pitch sizes gain chip dust (by omega) gain.length 0 0 (by omega) (by omega) (by omega)
  refine ⟨b, Ev.congr (fun k => by rw [if_neg h1, if_neg h2, if_neg h3, decide_eq_false h4]) (Ev.step (fun k => by rw [sawmilllaw17_few.j0, if_neg (by decide)]; rfl) hE), fun hb => ⟨by omega, by omega, by omega, by omega, fun q hq => hB hb q (by omega) hq⟩⟩
end
end Go.Proofs.YtoaicheopcojoaaDoor.P
