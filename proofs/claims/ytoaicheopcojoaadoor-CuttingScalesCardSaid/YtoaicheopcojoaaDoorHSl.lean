import Derived.Test.YtoaicheopcojoaaDoorHSc
import Derived.Test.YtoaicheopcojoaaDoorHBr
import Derived.Test.YtoaicheopcojoaaDoorHSp
import Derived.Test.YtoaicheopcojoaaDoorHShort
import Derived.Test.YtoaicheopcojoaaDoorF12d
namespace Go.Proofs.YtoaicheopcojoaaDoor.P
open Go.RowKit Go.Proofs.YtoaicheopcojoaaDoorW.PrintWords Go.Proofs.YtoaicheopcojoaaDoorW.PrintLast Go.Proofs.YtoaicheopcojoaaDoorW.PrintMore
set_option linter.unusedVariables false
set_option linter.unusedSimpArgs false

/-! CuttingScales' plain law. -/
attribute [local irreducible] mn mx
theorem scaled_l0 (l : List Int) (hl : l.length ≤ 1000000) (b : Int) : ∀ (j i : Nat), i + j = l.length → Ev (fun k => sawmilllaw17_scaled.l0 k l b ((scl b l).take i) (i : Int)) (scl b l)
  | 0, i, h => by
    rw [List.take_of_length_le (by rw [scl_len]; omega)]
    exact Ev.step (f := fun _ => some (scl b l)) (fun k => by rw [sawmilllaw17_scaled.l0, if_neg (by omega)]) (Ev.now _)
  | j + 1, i, h => by
    have hi : i < l.length := by omega
    have e : (scl b l).take (i + 1) = (scl b l).take i ++ [wrap64 (rd l (i : Int) * b)] := by
      rw [List.take_add_one]
      simp [scl, rd, hi]
    have IH := scaled_l0 l hl b j (i + 1) (by omega)
    rw [e] at IH
    refine Ev.step (fun k => ?_) IH
    rw [sawmilllaw17_scaled.l0, if_pos (by omega), if_pos (by omega), if_pos (by rw [List.length_take, scl_len]; omega), wr1 i l.length hi (by omega)]
theorem scaled_ev (l : List Int) (hl : l.length ≤ 1000000) (b : Int) : Ev (fun k => sawmilllaw17_scaled.f k l b) (scl b l) := by
  have := scaled_l0 l hl b l.length 0 (by omega)
  rw [List.take_zero] at this
  exact this
section
variable (len kerf pitch : Int) (sizes : List Int) (gain : List (List Int)) (chip dust : List Int)
theorem scales_l0 (b : Int) (a0 a1 a2 : Int) (sz : List Int) (ch du : List Int) (hg : gain.length ≤ 1000000) (hr : ∀ i : Nat, i < gain.length → (rd_L1 gain i).length ≤ 1000000) (R : Bool)
    (E : Ev (fun k => sawmilllaw17_CuttingScales.l0 k b (gain.length : Int) len kerf pitch sizes gain chip dust a0 a1 a2 sz (gain.map (scl b)) ch du) R) :
    ∀ (j i : Nat) (x : List (List Int)), i + j = gain.length → x.length = gain.length → (∀ q, q < i → x[q]? = (gain.map (scl b))[q]?) → Ev (fun k => sawmilllaw17_CuttingScales.l0 k b (i : Int) len kerf pitch sizes gain chip dust a0 a1 a2 sz x ch du) R
  | 0, i, x, h, hx, hq => by
    have e : x = gain.map (scl b) := by
      apply List.ext_getElem?
      intro n
      by_cases hn : n < i
      · exact hq n hn
      · rw [List.getElem?_eq_none (by omega), List.getElem?_eq_none (by rw [List.length_map]; omega)]
    have hi : i = gain.length := by omega
    subst hi
    rw [e]
    exact E
  | j + 1, i, x, h, hx, hq => by
    have hi : i < gain.length := by omega
    have e1 : (gain.map (scl b))[i]? = some (scl b (rd_L1 gain (i : Int))) := by simp [rd_L1, hi]
    have IH := scales_l0 b a0 a1 a2 sz ch du hg hr R E j (i + 1) (x.set i (scl b (rd_L1 gain (i : Int)))) (by omega) (by rw [List.length_set]; exact hx) (fun q hqi => by
      by_cases e : q = i
      · rw [e, List.getElem?_set_self (by omega), e1]
      · rw [List.getElem?_set_ne (by omega)]
        exact hq q (by omega))
    refine Ev.step (f := fun k => (sawmilllaw17_scaled.f k (rd_L1 gain (i : Int)) b).bind fun t601 => sawmilllaw17_CuttingScales.l0 k b ((i + 1 : Nat) : Int) len kerf pitch sizes gain chip dust a0 a1 a2 sz (x.set i t601) ch du) (fun k => ?_) (Ev.bind (scaled_ev _ (hr i hi) b) IH)
    rw [sawmilllaw17_CuttingScales.l0, if_pos (by omega), if_pos (by omega)]
    congr 1
    funext t
    rw [if_pos (by omega), wr1 i gain.length hi (by omega), Int.toNat_natCast]
theorem pure12_j0 (b : Int) (c : Bool) (hc : c = false → 1 ≤ b ∧ b ≤ 1000 ∧ checkL len kerf pitch sizes gain chip dust = 0) : Ev (fun k => sawmilllaw17_CuttingScales.j0 k b c len kerf pitch sizes gain chip dust) true := by
  refine Ev.step (fun k => by rw [sawmilllaw17_CuttingScales.j0]) ?_
  cases c
  rotate_left
  · exact Ev.now true
  simp only [Bool.false_eq_true, if_false]
  obtain ⟨b0, b1, h⟩ := hc rfl
  have O := (okLine_iff _ _ _ _ _ _ _).mp h
  have n0 := O.len0
  have n3 := O.len1
  have n1 := O.nchip
  have n2 := O.ndust
  have ns := O.nsizes
  have ng := O.ngain
  have hrow : ∀ i : Nat, i < gain.length → (rd_L1 gain i).length ≤ 1000000 := by
    intro i hi
    have hr := O.rows i (by omega) (by omega)
    have hs := O.sizes0 i (by omega) (by omega)
    unfold mx at hr
    split at hr <;> omega
  have hcop : sawmilllaw17_copied.f len kerf pitch sizes gain chip dust = some (len, kerf, pitch, sizes, gain, chip, dust) := by
    have hall : (gain.all fun r => decide (r.length ≤ 1000000)) = true := by
      rw [List.all_eq_true]
      intro r hr
      obtain ⟨i, hi, rfl⟩ := List.mem_iff_getElem.mp hr
      have := hrow i hi
      have e : rd_L1 gain (i : Int) = gain[i] := by simp [rd_L1, hi]
      rw [e] at this
      exact decide_eq_true this
    unfold sawmilllaw17_copied.f
    exact if_pos ⟨by omega, by omega, hall⟩
  rw [hcop]
  simp only [Option.bind_some]
  refine Ev.bind (scaled_ev chip (by omega) b) ?_
  refine Ev.bind (scaled_ev dust (by omega) b) ?_
  refine scales_l0 len kerf pitch sizes gain chip dust b len kerf pitch sizes (scl b chip) (scl b dust) (by omega) hrow true ?_ gain.length 0 gain (by omega) rfl (fun q hq => by omega)
  refine Ev.step (fun k => by rw [sawmilllaw17_CuttingScales.l0, if_neg (by omega)]) ?_
  refine Ev.bind (check_ev len kerf pitch sizes (gain.map (scl b)) (scl b chip) (scl b dust)) ?_
  by_cases h' : checkL len kerf pitch sizes (gain.map (scl b)) (scl b chip) (scl b dust) = 0
  · have O' := (okLine_iff _ _ _ _ _ _ _).mp h'
    have L := ln_of O
    have L' := ln_of O'
    have S := scd_of b0 b1 O
    have B := fun e h0 h1 => best_scale L L' S _ e h0 h1 rfl
    have e1 : bestR len kerf pitch sizes gain chip dust = (piecesB len kerf sizes (bestL len kerf pitch sizes gain (preL chip) (preL dust)) (len.toNat + 1) 0, bestV len kerf pitch sizes gain (preL chip) (preL dust) 0, 0) := by unfold bestR; rw [if_pos h]
    have e2 : bestR len kerf pitch sizes (gain.map (scl b)) (scl b chip) (scl b dust) = (piecesB len kerf sizes (bestL len kerf pitch sizes gain (preL chip) (preL dust)) (len.toNat + 1) 0, wrap64 (bestV len kerf pitch sizes gain (preL chip) (preL dust) 0 * b), 0) := by
      unfold bestR
      rw [if_pos h', piecesB_same L (b' := bestL len kerf pitch sizes (gain.map (scl b)) (preL (scl b chip)) (preL (scl b dust))) (fun e h0 h1 => by show (bestC len kerf pitch sizes (gain.map (scl b)) (preL (scl b chip)) (preL (scl b dust)) e).f0 = _; rw [B e h0 h1]) _ _ (Int.le_refl _) n0]
      have hv : bestV len kerf pitch sizes (gain.map (scl b)) (preL (scl b chip)) (preL (scl b dust)) 0 = bestV len kerf pitch sizes gain (preL chip) (preL dust) 0 * b := by
        show (bestC len kerf pitch sizes (gain.map (scl b)) (preL (scl b chip)) (preL (scl b dust)) 0).f1 = _
        rw [B 0 (Int.le_refl _) n0]
        rfl
      have hbd := (best_top L' 0 (Int.le_refl _) n0).2
      rw [hv] at hbd ⊢
      rw [IntWalk.wrap64_in _ (by omega)]
    have E1 := best_ev len kerf pitch sizes gain chip dust
    have E2 := best_ev len kerf pitch sizes (gain.map (scl b)) (scl b chip) (scl b dust)
    have hlen := bestR_len len kerf pitch sizes gain chip dust
    rw [e1] at E1 hlen
    rw [e2] at E2
    simp only [h', if_true]
    refine Ev.bind E1 ?_
    refine Ev.bind E2 ?_
    simp only [if_true]
    refine Ev.bind (samePieces_ev _ (by simp only at hlen; omega)) ?_
    simp only [if_true]
    exact Ev.now true
  · simp only [h', if_false]
    exact Ev.now true
theorem pure12 (b : Int) : ∃ k, sawmilllaw17_CuttingScales.f k len kerf pitch sizes gain chip dust b = some true := by
  obtain ⟨s, hE, hB⟩ := short_ev len kerf pitch sizes gain chip dust
  refine Ev.rounds (g := fun k => sawmilllaw17_CuttingScales.f k len kerf pitch sizes gain chip dust b) ?_
  unfold sawmilllaw17_CuttingScales.f
  have hno : Ev (fun k => sawmilllaw17_CuttingScales.j0 k b true len kerf pitch sizes gain chip dust) true := pure12_j0 len kerf pitch sizes gain chip dust b true (fun h => by cases h)
  refine Ev.bind hE ?_
  cases s
  · exact hno
  · simp only [if_true]
    refine Ev.bind (check_ev len kerf pitch sizes gain chip dust) ?_
    by_cases h : checkL len kerf pitch sizes gain chip dust = 0
    · simp only [h, if_true]
      by_cases h1 : b < 1
      · simp only [h1, if_true]
        exact hno
      · simp only [h1, if_false]
        exact pure12_j0 len kerf pitch sizes gain chip dust b _ (fun h2 => ⟨by omega, by have := of_decide_eq_false h2; omega, h⟩)
    · simp only [h, if_false]
      exact hno
end
end Go.Proofs.YtoaicheopcojoaaDoor.P
