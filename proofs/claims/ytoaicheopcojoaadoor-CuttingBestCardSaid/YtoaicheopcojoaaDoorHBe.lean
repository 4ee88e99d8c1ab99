import Derived.Test.YtoaicheopcojoaaDoorHP4
import Derived.Test.YtoaicheopcojoaaDoorHBr
import Derived.Test.YtoaicheopcojoaaDoorHShort
import Derived.Test.YtoaicheopcojoaaDoorF33
namespace Go.Proofs.YtoaicheopcojoaaDoor.P
open Go.RowKit Go.Proofs.YtoaicheopcojoaaDoorW.PrintWords Go.Proofs.YtoaicheopcojoaaDoorW.PrintLast Go.Proofs.YtoaicheopcojoaaDoorW.PrintMore
set_option linter.unusedVariables false
set_option linter.unusedSimpArgs false

/-! What 'before' answers; Value of Best's pieces and of others. -/
theorem before_l0 (a b : List S69) (ha : a.length ≤ 1000000) : ∀ (j i : Nat), i + j = a.length → Ev (fun k => sawmilllaw17_before.l0 k a b (i : Int)) (bfr (a.drop i) (b.drop i))
  | 0, i, h => by
    have hj : Ev (fun k => sawmilllaw17_before.j1 k a b (i : Int) false) (decide ((a.length : Int) < (b.length : Int))) := Ev.step (f := fun _ => some (decide ((a.length : Int) < (b.length : Int)))) (fun k => by rw [sawmilllaw17_before.j1, if_neg (by decide)]) (Ev.now _)
    have e : bfr (a.drop i) (b.drop i) = decide ((a.length : Int) < (b.length : Int)) := by
      rw [List.drop_eq_nil_of_le (show a.length ≤ i by omega)]
      by_cases hb : i < b.length
      · rw [List.drop_eq_getElem_cons hb, bfr, decide_eq_true (by omega)]
      · rw [List.drop_eq_nil_of_le (by omega), bfr, decide_eq_false (by omega)]
    rw [e]
    exact Ev.step (fun k => by rw [sawmilllaw17_before.l0, if_neg (by omega)]) hj
  | j + 1, i, h => by
    have hi : i < a.length := by omega
    have IH := before_l0 a b ha j (i + 1) (by omega)
    by_cases hb : i < b.length
    · have e1 : rd_T69 a (i : Int) = a[i] := rd_T69_eq _ _ hi
      have e2 : rd_T69 b (i : Int) = b[i] := rd_T69_eq _ _ hb
      have hj : Ev (fun k => sawmilllaw17_before.j1 k a b (i : Int) true) (bfr (a.drop i) (b.drop i)) := by
        rw [List.drop_eq_getElem_cons hi, List.drop_eq_getElem_cons hb, bfr]
        by_cases ex : a[i] = b[i]
        · rw [if_pos ex]
          refine Ev.step (fun k => ?_) IH
          rw [sawmilllaw17_before.j1, if_pos rfl, if_pos (by omega), if_pos (by omega), if_pos (by omega), e1, e2, ex, if_neg (by simp), wr1 i a.length hi (by omega)]
        · rw [if_neg ex]
          refine Ev.step (f := fun _ => some (decide (a[i].f1 < b[i].f1 ∨ (a[i].f1 = b[i].f1 ∧ a[i].f0 < b[i].f0)))) (fun k => ?_) (Ev.now _)
          have hne : (!(a[i].f0 == b[i].f0) || (!(a[i].f1 == b[i].f1))) = true := by
            by_cases h1 : a[i].f0 = b[i].f0
            · by_cases h2 : a[i].f1 = b[i].f1
              · exact absurd (by cases hh : a[i]; cases hh' : b[i]; rw [hh, hh'] at h1 h2; simp only at h1 h2; rw [h1, h2]) ex
              · simp [h2]
            · simp [h1]
          rw [sawmilllaw17_before.j1, if_pos rfl, if_pos (by omega), if_pos (by omega), if_pos (by omega), e1, e2, if_pos hne]
          by_cases h1 : a[i].f1 < b[i].f1
          · rw [if_pos h1, decide_eq_true (.inl h1)]
          · rw [if_neg h1]
            by_cases h2 : a[i].f1 = b[i].f1
            · rw [if_pos h2]
              congr 1
              simp [h1, h2]
            · rw [if_neg h2, decide_eq_false (by omega)]
      refine Ev.step (fun k => ?_) hj
      rw [sawmilllaw17_before.l0, if_pos (by omega), decide_eq_true (by omega)]
    · have hj : Ev (fun k => sawmilllaw17_before.j1 k a b (i : Int) false) false := Ev.step (f := fun _ => some false) (fun k => by rw [sawmilllaw17_before.j1, if_neg (by decide), decide_eq_false (by omega)]) (Ev.now _)
      rw [List.drop_eq_getElem_cons hi, List.drop_eq_nil_of_le (show b.length ≤ i by omega), bfr]
      refine Ev.step (fun k => ?_) hj
      rw [sawmilllaw17_before.l0, if_pos (by omega), decide_eq_false (by omega)]
theorem before_ev (a b : List S69) (ha : a.length ≤ 1000000) : Ev (fun k => sawmilllaw17_before.f k a b) (bfr a b) := by
  have := before_l0 a b ha a.length 0 (by omega)
  rw [List.drop_zero, List.drop_zero] at this
  exact this
section
variable {len kerf pitch : Int} {sizes : List Int} {gain : List (List Int)} {chip dust : List Int}
theorem valR_eq (O : OkLine len kerf pitch sizes gain chip dust) {p : List S69} {d c : List S49} (h : cutsL len kerf pitch sizes gain p 0 false [] [] = (d, c, 0)) :
    valR len kerf pitch sizes gain chip dust p = (wrap64 (VF len kerf sizes gain (preL chip) (preL dust) p 0), 0) := by
  have hc := (okLine_iff _ _ _ _ _ _ _).mpr O
  have e : cutsR len kerf pitch sizes gain chip dust p = (d, c, 0) := by rw [cutsR, if_pos hc, h]
  have hv := cuts_val O p 0 false [] [] d c (Int.le_refl _) O.len0 h
  simp only [spansSum, Int.zero_add] at hv
  rw [valR, e]
  simp only [if_true, hv]
theorem piecesB_wf {cp dp : List Int} (L : Ln len kerf pitch sizes gain cp dp) : ∀ (n : Nat) (e : Int), 0 ≤ e → e ≤ len → ∀ x ∈ piecesB len kerf sizes (bestL len kerf pitch sizes gain cp dp) n e, 0 ≤ x.f0 ∧ x.f0 < (sizes.length : Int) ∧ 0 ≤ x.f1 ∧ x.f1 ≤ len
  | 0, e, h0, h1, x, hx => by simp [piecesB] at hx
  | n + 1, e, h0, h1, x, hx => by
    have hb : rd_T97 (bestL len kerf pitch sizes gain cp dp) e = bestC len kerf pitch sizes gain cp dp e := rfl
    rw [piecesB, hb] at hx
    have T := (best_top L e h0 h1).1
    rcases T with ⟨t1, t2⟩ | ⟨t1, ⟨m, hm, t2⟩, t3, t4⟩
    · rw [if_pos (by rw [t1])] at hx; simp at hx
    · have hn' : (bestC len kerf pitch sizes gain cp dp e).f0 ≠ ⟨-1, -1⟩ := by intro h; rw [h] at t1; simp at t1
      rw [if_neg hn'] at hx
      have hbd := CM_bd L h0 hm (best_bd L e (by omega)) t2
      have hf := t2.1
      have hs := L.sz _ hf.1 hf.2.1
      have hk := L.kerf0
      have m1 := mn_le (a := (bestC len kerf pitch sizes gain cp dp e).f0.f1 + rd sizes (bestC len kerf pitch sizes gain cp dp e).f0.f0 + kerf) (len := len) (by omega) (by omega)
      rcases List.mem_cons.mp hx with hx | hx
      · rw [hx]
        exact ⟨hf.1, hf.2.1, by omega, by omega⟩
      · by_cases he : (bestC len kerf pitch sizes gain cp dp e).f0.f1 + rd sizes (bestC len kerf pitch sizes gain cp dp e).f0.f0 = len
        · rw [if_pos he] at hx; simp at hx
        · rw [if_neg he] at hx
          exact piecesB_wf L n _ m1.1 m1.2 x hx
theorem best_pieces (O : OkLine len kerf pitch sizes gain chip dust) (hl : len ≤ 120) :
    (piecesB len kerf sizes (bestL len kerf pitch sizes gain (preL chip) (preL dust)) (len.toNat + 1) 0).length ≤ 300 ∧
    (∀ x ∈ piecesB len kerf sizes (bestL len kerf pitch sizes gain (preL chip) (preL dust)) (len.toNat + 1) 0, (Lit.int .i64 x.f0).wf = true ∧ (Lit.int .i64 x.f1).wf = true) ∧
    valR len kerf pitch sizes gain chip dust (piecesB len kerf sizes (bestL len kerf pitch sizes gain (preL chip) (preL dust)) (len.toNat + 1) 0) = (bestV len kerf pitch sizes gain (preL chip) (preL dust) 0, 0) := by
  have L := ln_of O
  have h0 := O.len0
  have hns := O.nsizes
  have h1 := piecesB_len len kerf sizes (bestL len kerf pitch sizes gain (preL chip) (preL dust)) (len.toNat + 1) 0
  refine ⟨by omega, fun x hx => ?_, ?_⟩
  · have := piecesB_wf L (len.toNat + 1) 0 (Int.le_refl _) h0 x hx
    exact ⟨wf_small (by omega) (by omega), wf_small (by omega) (by omega)⟩
  · obtain ⟨d, c, e1, e2⟩ := best_cuts L (len.toNat + 1) 0 [] [] (Int.le_refl _) h0 (by omega)
    have hb := (best_top L 0 (Int.le_refl _) h0).2
    have hl1 := O.len1
    rw [valR_eq O e1, e2, IntWalk.wrap64_in _ (by omega)]
theorem val_best (O : OkLine len kerf pitch sizes gain chip dust) {p : List S69} (h : (valR len kerf pitch sizes gain chip dust p).2 = 0) :
    (valR len kerf pitch sizes gain chip dust p).1 ≤ bestV len kerf pitch sizes gain (preL chip) (preL dust) 0 ∧
    ((valR len kerf pitch sizes gain chip dust p).1 = bestV len kerf pitch sizes gain (preL chip) (preL dust) 0 → bfr p (piecesB len kerf sizes (bestL len kerf pitch sizes gain (preL chip) (preL dust)) (len.toNat + 1) 0) = false) := by
  have L := ln_of O
  have h0 := O.len0
  have hl1 := O.len1
  have hc := (okLine_iff _ _ _ _ _ _ _).mpr O
  have e : cutsR len kerf pitch sizes gain chip dust p = cutsL len kerf pitch sizes gain p 0 false [] [] := by rw [cutsR, if_pos hc]
  obtain ⟨⟨d, c, z⟩, t⟩ : ∃ r, cutsL len kerf pitch sizes gain p 0 false [] [] = r := ⟨_, rfl⟩
  rw [t] at e
  have hz : z = 0 := by
    rw [valR, e] at h
    simp only at h
    by_cases hz : z = 0
    · exact hz
    · rw [if_neg hz] at h; exact h
  subst hz
  have hb := (best_top L 0 (Int.le_refl _) h0).2
  have V := VF_le L p 0 false [] [] d c (len.toNat + 1) (Int.le_refl _) h0 (fun h => by cases h) (by omega) t
  rw [valR_eq O t, IntWalk.wrap64_in _ (by omega)]
  exact ⟨V.2.1, V.2.2⟩
end
end Go.Proofs.YtoaicheopcojoaaDoor.P
