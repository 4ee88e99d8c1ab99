import Derived.Test.YtoaicheopcojoaaDoorHC1
import Derived.Test.YtoaicheopcojoaaDoorHCuts
namespace Go.Proofs.YtoaicheopcojoaaDoor.P
open Go.RowKit Go.Proofs.YtoaicheopcojoaaDoorW.PrintWords Go.Proofs.YtoaicheopcojoaaDoorW.PrintLast Go.Proofs.YtoaicheopcojoaaDoorW.PrintMore
set_option linter.unusedVariables false
set_option linter.unusedSimpArgs false

theorem rowsOk_iff (len : Int) (sizes : List Int) (gain : List (List Int)) : ∀ j i : Nat, rowsOk len sizes gain i j = true ↔ ∀ q : Nat, i ≤ q → q < i + j → ((rd_L1 gain q).length : Int) = mx 0 (len - rd sizes q + 1)
  | 0, i => by simp only [rowsOk, true_iff]; intro q h1 h2; omega
  | j + 1, i => by
    rw [rowsOk, Bool.and_eq_true, decide_eq_true_eq, rowsOk_iff len sizes gain j (i + 1)]
    constructor
    · rintro ⟨h, k⟩ q h1 h2
      by_cases e : q = i
      · subst e; exact h
      · exact k q (by omega) (by omega)
    · intro h
      exact ⟨h i (by omega) (by omega), fun q h1 h2 => h q (by omega) (by omega)⟩
theorem all_rd {l : List Int} {f : Int → Bool} : l.all f = true ↔ ∀ p : Int, 0 ≤ p → p < l.length → f (rd l p) = true := by
  rw [List.all_eq_true]
  constructor
  · intro h p h0 h1
    obtain ⟨q, rfl⟩ : ∃ q : Nat, p = q := ⟨p.toNat, by omega⟩
    rw [rd_eq _ _ (by omega)]
    exact h _ (List.getElem_mem _)
  · intro h x hx
    obtain ⟨q, hq, rfl⟩ := List.getElem_of_mem hx
    have := h q (by omega) (by omega)
    rw [rd_eq _ _ hq] at this
    exact this
theorem all_rd_L1 {l : List (List Int)} {f : List Int → Bool} : l.all f = true ↔ ∀ p : Int, 0 ≤ p → p < l.length → f (rd_L1 l p) = true := by
  rw [List.all_eq_true]
  constructor
  · intro h p h0 h1
    obtain ⟨q, rfl⟩ : ∃ q : Nat, p = q := ⟨p.toNat, by omega⟩
    rw [rd_L1_eq _ _ (by omega)]
    exact h _ (List.getElem_mem _)
  · intro h x hx
    obtain ⟨q, hq, rfl⟩ := List.getElem_of_mem hx
    have := h q (by omega) (by omega)
    rw [rd_L1_eq _ _ hq] at this
    exact this
theorem okG_iff {g : Int} : okG g = true ↔ -1125899906842624 ≤ g ∧ g ≤ 1125899906842624 := by simp [okG]
theorem okS_iff {g : Int} : okS g = true ↔ 1 ≤ g ∧ g ≤ 2000 := by simp [okS]
theorem okLine_iff (len kerf pitch : Int) (sizes : List Int) (gain : List (List Int)) (chip dust : List Int) : checkL len kerf pitch sizes gain chip dust = 0 ↔ OkLine len kerf pitch sizes gain chip dust := by
  constructor
  · intro h
    unfold checkL at h
    by_cases h0 : headL len kerf pitch sizes = 0
    · rw [if_neg (by simp [h0])] at h
      obtain ⟨h1, h2, h3, h4, h5, h6, h7, h8⟩ := headL_zero h0
      split at h
      · cases h
      · rename_i hs
        obtain ⟨hg, hc, hd⟩ := Classical.not_not.mp hs
        split at h
        · rename_i hr
          split at h
          · rename_i ha
            simp only [Bool.and_eq_true] at ha
            obtain ⟨⟨ha, hb⟩, hgg⟩ := ha
            rw [all_rd] at ha hb
            rw [all_rd_L1] at hgg
            rw [all_rd] at h8
            rw [rowsOk_iff] at hr
            refine ⟨h1, h2, h3, h4, h5, h6, h7, fun i h0 h1 => okS_iff.mp (h8 i h0 h1), hg, fun i h0 h1 => ?_, hc, hd, fun i h0 h1 p hp0 hp1 => ?_, fun p hp0 hp1 => okG_iff.mp (ha p hp0 (by omega)), fun p hp0 hp1 => okG_iff.mp (hb p hp0 (by omega))⟩
            · obtain ⟨q, rfl⟩ : ∃ q : Nat, i = q := ⟨i.toNat, by omega⟩
              exact hr q (by omega) (by omega)
            · have := hgg i h0 (by omega)
              rw [all_rd] at this
              exact okG_iff.mp (this p hp0 hp1)
          · cases h
        · cases h
    · rw [if_pos h0] at h
      exact absurd h h0
  · intro H
    have h0 : headL len kerf pitch sizes = 0 := by
      rw [headL, if_neg (fun h => h ⟨H.len0, H.len1, H.kerf0, H.kerf1, H.pitch0, H.pitch1⟩), if_neg (by have := H.nsizes; omega), if_pos (all_rd.mpr (fun p h0 h1 => okS_iff.mpr (H.sizes0 p h0 h1)))]
    unfold checkL
    rw [if_neg (by simp [h0]), if_neg (fun h => h ⟨H.ngain, H.nchip, H.ndust⟩), if_pos ((rowsOk_iff _ _ _ _ _).mpr (fun q h1 h2 => H.rows q (by omega) (by have := H.ngain; omega))), if_pos]
    simp only [Bool.and_eq_true]
    refine ⟨⟨all_rd.mpr (fun p h0 h1 => okG_iff.mpr (H.bchip p h0 (by have := H.nchip; omega))), all_rd.mpr (fun p h0 h1 => okG_iff.mpr (H.bdust p h0 (by have := H.ndust; omega)))⟩, all_rd_L1.mpr (fun i h0 h1 => all_rd.mpr (fun p hp0 hp1 => okG_iff.mpr (H.bgain i h0 (by have := H.ngain; omega) p hp0 hp1)))⟩
end Go.Proofs.YtoaicheopcojoaaDoor.P
