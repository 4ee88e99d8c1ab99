import Derived.Test.YtoaicheopcojoaaDoorHPt
import Derived.Test.YtoaicheopcojoaaDoorHFew
import Derived.Test.YtoaicheopcojoaaDoorF9d
namespace Go.Proofs.YtoaicheopcojoaaDoor.P
open Go.RowKit Go.Proofs.YtoaicheopcojoaaDoorW.PrintWords Go.Proofs.YtoaicheopcojoaaDoorW.PrintLast Go.Proofs.YtoaicheopcojoaaDoorW.PrintMore
set_option linter.unusedVariables false
set_option linter.unusedSimpArgs false

/-! CuttingParts' plain law. -/
attribute [local irreducible] mn mx rd rd_L1
section
variable (len kerf pitch : Int) (sizes : List Int) (gain : List (List Int)) (chip dust : List Int)
theorem parts_l6 {n : Nat} (hn : n ≤ 1000000) (f : Nat → Int) (hf : ∀ j, j < n → f j = 1) (v : Int) : ∀ (j i : Nat), i + j = n → Ev (fun k => sawmilllaw17_CuttingParts.l6 k v (SL n f) v (i : Int)) true
  | 0, i, h => by
    refine Ev.step (f := fun _ => some true) (fun k => ?_) (Ev.now _)
    rw [sawmilllaw17_CuttingParts.l6, if_neg (by rw [SL_len]; omega), if_pos rfl]
    rfl
  | j + 1, i, h => by
    have IH := parts_l6 hn f hf v j (i + 1) (by omega)
    refine Ev.step (fun k => ?_) IH
    rw [sawmilllaw17_CuttingParts.l6, if_pos (by rw [SL_len]; omega), if_pos (by omega), rd_SL n f i (by omega) (by omega), Int.toNat_natCast, hf i (by omega), if_pos (IntWalk.wrap64_in 1 (by decide)), wr1 i n (by omega) (by omega)]
theorem parts_l5 {n : Nat} (hn : n ≤ 1000000) (p : List S69) (hp : p.length ≤ 1000000) (v : Int) (i : Nat) (hi : i < p.length) (ho : okPiece gain p[i]) (q : Int) (hq : q ≤ n) (a : Int) (R : Bool) : ∀ (m : Nat) (x : Int) (f : Nat → Int), 0 ≤ x → x ≤ q → (q - x).toNat = m →
    Ev (fun k => sawmilllaw17_CuttingParts.l4 k p v (SL n (fun j => f j + ind x q j)) (wrap64 (a + rd (rd_L1 gain p[i].f0) p[i].f1)) ((i + 1 : Nat) : Int) len kerf pitch sizes gain chip dust) R → Ev (fun k => sawmilllaw17_CuttingParts.l5 k p v (SL n f) (wrap64 a) (i : Int) q x len kerf pitch sizes gain chip dust) R
  | 0, x, f, h0, h1, hm, E => by
    obtain ⟨o1, o2, o3, o4⟩ := ho
    rw [SL_congr (f := fun j => f j + ind x q j) (g := f) (fun j => by rw [ind_none (by omega)]; omega)] at E
    refine Ev.step (fun k => ?_) E
    rw [sawmilllaw17_CuttingParts.l5, if_neg (by omega), if_pos (by omega), if_pos (by omega), rd_T69_eq _ _ hi, if_pos o1, if_pos o2, if_pos o3, if_pos o4, wrap_add, wr1 i p.length hi (by omega)]
  | m + 1, x, f, h0, h1, hm, E => by
    have IH := parts_l5 hn p hp v i hi ho q hq a R m (x + 1) (fun j => f j + ind x (x + 1) j) (by omega) (by omega) (by omega) (by
      rw [SL_congr (f := fun j => f j + ind x (x + 1) j + ind (x + 1) q j) (g := fun j => f j + ind x q j) (fun j => by have := ind_join (a := x) (b := x + 1) (c := q) (by omega) (by omega) j; omega)]
      exact E)
    refine Ev.step (fun k => ?_) IH
    rw [sawmilllaw17_CuttingParts.l5, if_pos (by omega), if_pos h0, if_pos (by rw [SL_len]; omega), SL_set n f x h0 (by omega), IntWalk.wrap64_in (x + 1) (by omega)]
/-- A piece, its place in gain, and its end in the line. -/
def okEnd (len : Int) (sizes : List Int) (x : S69) : Prop := x.f0 < (sizes.length : Int) ∧ 0 ≤ rd sizes x.f0 ∧ x.f1 + rd sizes x.f0 ≤ len
theorem parts_l4 {n : Nat} (hn : n ≤ 1000000) (hlen : len = n) (p : List S69) (hp : p.length ≤ 1000000) (ho : ∀ x ∈ p, okPiece gain x) (he : ∀ x ∈ p, okEnd len sizes x) (v : Int) : ∀ (j i : Nat) (f : Nat → Int) (a : Int), i + j = p.length → (∀ t, t < n → f t + covP sizes (p.drop i) t = 1) → wrap64 (a + gainSum gain (p.drop i)) = v →
    Ev (fun k => sawmilllaw17_CuttingParts.l4 k p v (SL n f) (wrap64 a) (i : Int) len kerf pitch sizes gain chip dust) true
  | 0, i, f, a, h, hf, hv => by
    rw [List.drop_eq_nil_of_le (by omega)] at hf hv
    rw [gainSum, Int.add_zero] at hv
    rw [hv]
    refine Ev.step (fun k => ?_) (parts_l6 hn f (fun t ht => by have := hf t ht; rw [covP] at this; omega) v n 0 (by omega))
    rw [sawmilllaw17_CuttingParts.l4, if_neg (by omega)]
    rfl
  | j + 1, i, f, a, h, hf, hv => by
    have hi : i < p.length := by omega
    have o := ho _ (List.getElem_mem hi)
    obtain ⟨o1, o2, o3, o4⟩ := o
    obtain ⟨q1, q2, q3⟩ := he _ (List.getElem_mem hi)
    rw [List.drop_eq_getElem_cons hi] at hf hv
    have IH := parts_l4 hn hlen p hp ho he v j (i + 1) (fun t => f t + ind (p[i]).f1 ((p[i]).f1 + rd sizes (p[i]).f0) t) (a + rd (rd_L1 gain p[i].f0) p[i].f1) (by omega) (fun t ht => by have := hf t ht; rw [covP] at this; omega) (by rw [gainSum] at hv; rw [Int.add_assoc]; exact hv)
    have E5 := parts_l5 len kerf pitch sizes gain chip dust hn p hp v i hi ⟨o1, o2, o3, o4⟩ ((p[i]).f1 + rd sizes (p[i]).f0) (by omega) a true _ (p[i]).f1 f o3 (by omega) rfl IH
    have hw : wrap64 ((p[i]).f1 + rd sizes (p[i]).f0) = (p[i]).f1 + rd sizes (p[i]).f0 := IntWalk.wrap64_in _ (by omega)
    have E8 : Ev (fun k => sawmilllaw17_CuttingParts.j8 k p v (SL n f) (wrap64 a) (i : Int) false len kerf pitch sizes gain chip dust) true := by
      refine Ev.step (fun k => ?_) E5
      rw [sawmilllaw17_CuttingParts.j8, if_neg (by decide), if_pos (by omega), if_pos (by omega), rd_T69_eq _ _ hi, if_pos o1, if_pos q1, hw, if_neg (by omega)]
    refine Ev.step (fun k => ?_) E8
    rw [sawmilllaw17_CuttingParts.l4, if_pos (by omega), if_pos (by omega), rd_T69_eq _ _ hi, if_neg (by omega), if_neg (by omega), if_neg (by omega), if_neg (by omega), if_pos o1, if_pos o2, decide_eq_false (by omega)]
theorem parts_l3 (p : List S69) (sp : List S49) (v : Int) (L : List Int) (i : Nat) (hi : i < sp.length) (hs : sp.length ≤ 1000000) (hl : chip.length ≤ 1000000) (ho : (sp[i]).f1 ≤ chip.length) (R : Bool) : ∀ (n : Nat) (x a : Int), 0 ≤ x → ((sp[i]).f1 - x).toNat = n →
    Ev (fun k => sawmilllaw17_CuttingParts.l2 k p sp v L (wrap64 (a + spanSum chip x n)) ((i + 1 : Nat) : Int) len kerf pitch sizes gain chip dust) R → Ev (fun k => sawmilllaw17_CuttingParts.l3 k p sp v L (wrap64 a) (i : Int) x len kerf pitch sizes gain chip dust) R
  | 0, x, a, h0, hn, E => by
    refine Ev.step (fun k => ?_) E
    rw [sawmilllaw17_CuttingParts.l3, if_pos (by omega), if_pos (by omega), rd_T49_eq _ _ hi, if_neg (by omega), wr1 i sp.length hi (by omega), spanSum, Int.add_zero]
  | n + 1, x, a, h0, hn, E => by
    have := parts_l3 p sp v L i hi hs hl ho R n (x + 1) (a + rd chip x) (by omega) (by omega) (by rw [Int.add_assoc]; exact E)
    refine Ev.step (fun k => ?_) this
    rw [sawmilllaw17_CuttingParts.l3, if_pos (by omega), if_pos (by omega), rd_T49_eq _ _ hi, if_pos (by omega), if_pos h0, if_pos (by omega), wrap_add, IntWalk.wrap64_in (x + 1) (by omega)]
theorem parts_l2 (p : List S69) (v : Int) (L : List Int) (sp : List S49) (hs : sp.length ≤ 1000000) (hl : chip.length ≤ 1000000) (ho : ∀ s ∈ sp, okSpan chip.length s) (R : Bool) : ∀ (j i : Nat) (a : Int), i + j = sp.length →
    Ev (fun k => sawmilllaw17_CuttingParts.l4 k p v L (wrap64 (a + spansSum chip (sp.drop i))) 0 len kerf pitch sizes gain chip dust) R → Ev (fun k => sawmilllaw17_CuttingParts.l2 k p sp v L (wrap64 a) (i : Int) len kerf pitch sizes gain chip dust) R
  | 0, i, a, h, E => by
    rw [List.drop_eq_nil_of_le (by omega), spansSum, Int.add_zero] at E
    exact Ev.step (fun k => by rw [sawmilllaw17_CuttingParts.l2, if_neg (by omega)]) E
  | j + 1, i, a, h, E => by
    have hi : i < sp.length := by omega
    have hok := ho _ (List.getElem_mem hi)
    rw [List.drop_eq_getElem_cons hi, spansSum, ← Int.add_assoc] at E
    refine Ev.step (fun k => by rw [sawmilllaw17_CuttingParts.l2, if_pos (by omega), if_pos (by omega), rd_T49_eq _ _ hi]) ?_
    exact parts_l3 len kerf pitch sizes gain chip dust p sp v L i hi hs hl hok.2 _ _ _ _ hok.1 rfl (parts_l2 p v L sp hs hl ho R j (i + 1) _ (by omega) E)
theorem parts_l1 (p : List S69) (cs : List S49) (sp : List S49) (v : Int) (L : List Int) (i : Nat) (hi : i < sp.length) (hs : sp.length ≤ 1000000) (hl : dust.length ≤ 1000000) (ho : (sp[i]).f1 ≤ dust.length) (R : Bool) : ∀ (n : Nat) (x a : Int), 0 ≤ x → ((sp[i]).f1 - x).toNat = n →
    Ev (fun k => sawmilllaw17_CuttingParts.l0 k p sp cs v L (wrap64 (a + spanSum dust x n)) ((i + 1 : Nat) : Int) len kerf pitch sizes gain chip dust) R → Ev (fun k => sawmilllaw17_CuttingParts.l1 k p sp cs v L (wrap64 a) (i : Int) x len kerf pitch sizes gain chip dust) R
  | 0, x, a, h0, hn, E => by
    refine Ev.step (fun k => ?_) E
    rw [sawmilllaw17_CuttingParts.l1, if_pos (by omega), if_pos (by omega), rd_T49_eq _ _ hi, if_neg (by omega), wr1 i sp.length hi (by omega), spanSum, Int.add_zero]
  | n + 1, x, a, h0, hn, E => by
    have := parts_l1 p cs sp v L i hi hs hl ho R n (x + 1) (a + rd dust x) (by omega) (by omega) (by rw [Int.add_assoc]; exact E)
    refine Ev.step (fun k => ?_) this
    rw [sawmilllaw17_CuttingParts.l1, if_pos (by omega), if_pos (by omega), rd_T49_eq _ _ hi, if_pos (by omega), if_pos h0, if_pos (by omega), wrap_add, IntWalk.wrap64_in (x + 1) (by omega)]
theorem parts_l0 (p : List S69) (cs : List S49) (v : Int) (L : List Int) (sp : List S49) (hs : sp.length ≤ 1000000) (hl : dust.length ≤ 1000000) (ho : ∀ s ∈ sp, okSpan dust.length s) (R : Bool) : ∀ (j i : Nat) (a : Int), i + j = sp.length →
    Ev (fun k => sawmilllaw17_CuttingParts.l2 k p cs v L (wrap64 (a + spansSum dust (sp.drop i))) 0 len kerf pitch sizes gain chip dust) R → Ev (fun k => sawmilllaw17_CuttingParts.l0 k p sp cs v L (wrap64 a) (i : Int) len kerf pitch sizes gain chip dust) R
  | 0, i, a, h, E => by
    rw [List.drop_eq_nil_of_le (by omega), spansSum, Int.add_zero] at E
    exact Ev.step (fun k => by rw [sawmilllaw17_CuttingParts.l0, if_neg (by omega)]) E
  | j + 1, i, a, h, E => by
    have hi : i < sp.length := by omega
    have hok := ho _ (List.getElem_mem hi)
    rw [List.drop_eq_getElem_cons hi, spansSum, ← Int.add_assoc] at E
    refine Ev.step (fun k => by rw [sawmilllaw17_CuttingParts.l0, if_pos (by omega), if_pos (by omega), rd_T49_eq _ _ hi]) ?_
    exact parts_l1 len kerf pitch sizes gain chip dust p cs sp v L i hi hs hl hok.2 _ _ _ _ hok.1 rfl (parts_l0 p cs v L sp hs hl ho R j (i + 1) _ (by omega) E)
theorem pure9_j0 (p : List S69) (hw : ∀ x ∈ p, (Lit.int .i64 x.f0).wf = true ∧ (Lit.int .i64 x.f1).wf = true) (b : Bool) (hp : b = false → p.length ≤ 300) : Ev (fun k => sawmilllaw17_CuttingParts.j0 k p b len kerf pitch sizes gain chip dust) true := by
  refine Ev.step (fun k => by rw [sawmilllaw17_CuttingParts.j0]) ?_
  cases b
  rotate_left
  · exact Ev.now true
  simp only [Bool.false_eq_true, if_false]
  have hp := hp rfl
  refine Ev.bind (cuts_ev len kerf pitch sizes gain chip dust p (by omega) hw) ?_
  refine Ev.bind (val_ev len kerf pitch sizes gain chip dust p hp hw) ?_
  have hv2 : (valR len kerf pitch sizes gain chip dust p).2 = (cutsR len kerf pitch sizes gain chip dust p).2.2 := by
    unfold valR
    by_cases hc : (cutsR len kerf pitch sizes gain chip dust p).2.2 = 0
    · simp only [hc, if_true]
    · simp only [hc, if_false]
  rw [hv2]
  simp only [if_true]
  by_cases hc : (cutsR len kerf pitch sizes gain chip dust p).2.2 = 0
  · obtain ⟨O, r1, r2, r3, r4, r5⟩ := cutsR_ok len kerf pitch sizes gain chip dust p hp hc
    have h0 := O.len0
    have h1 := O.len1
    have n1 := O.nchip
    have n2 := O.ndust
    have hv1 : (valR len kerf pitch sizes gain chip dust p).1 = wrap64 (gainSum gain p + spansSum dust (cutsR len kerf pitch sizes gain chip dust p).1 + spansSum chip (cutsR len kerf pitch sizes gain chip dust p).2.1) := by
      unfold valR
      simp only [hc, if_true]
    have hcl := (okLine_iff _ _ _ _ _ _ _).mpr O
    have e : cutsR len kerf pitch sizes gain chip dust p = cutsL len kerf pitch sizes gain p 0 false [] [] := by rw [cutsR, if_pos hcl]
    obtain ⟨g1, g2, g3⟩ := cuts_cover O p 0 false [] [] (cutsR len kerf pitch sizes gain chip dust p).1 (cutsR len kerf pitch sizes gain chip dust p).2.1 (Int.le_refl _) h0 (fun i hi => by simp at hi) (fun i hi => by simp at hi) (by simp) (by simp) (by rw [← e, ← hc])
    simp only [hc, if_true]
    rw [hv1]
    generalize (cutsR len kerf pitch sizes gain chip dust p).1 = d at r1 r3 g1 g3 ⊢
    generalize (cutsR len kerf pitch sizes gain chip dust p).2.1 = c at r2 r4 g2 g3 ⊢
    have hend : ∀ x ∈ p, okEnd len sizes x := by
      intro x hx
      obtain ⟨o1, o2, o3, o4⟩ := r5 x hx
      have hng := O.ngain
      have hs := O.sizes0 x.f0 o1 (by omega)
      have hr := O.rows x.f0 o1 (by omega)
      rw [hr] at o4
      refine ⟨by omega, by omega, ?_⟩
      unfold mx at o4
      split at o4 <;> omega
    have E4 := fun a (ha : wrap64 (a + gainSum gain p) = wrap64 (gainSum gain p + spansSum dust d + spansSum chip c)) => parts_l4 len kerf pitch sizes gain chip dust (n := len.toNat) (by omega) (by omega) p (by omega) r5 hend (wrap64 (gainSum gain p + spansSum dust d + spansSum chip c)) p.length 0 (fun t => 0 + cov d t + cov c t) a (by omega) (fun t ht => by
      have := g3 t
      simp only [cov] at this
      rw [List.drop_zero]
      unfold ind at this
      rw [if_pos (by omega)] at this
      omega) (by rw [List.drop_zero]; exact ha)
    have E2 := parts_l2 len kerf pitch sizes gain chip dust p (wrap64 (gainSum gain p + spansSum dust d + spansSum chip c)) (SL len.toNat (fun t => 0 + cov d t + cov c t)) c (by omega) (by omega) (by rw [n1]; exact r2) true c.length 0 (0 + spansSum dust d) (by omega) (by
      rw [List.drop_zero]
      exact E4 _ (by congr 1; omega))
    have E0 := parts_l0 len kerf pitch sizes gain chip dust p c (wrap64 (gainSum gain p + spansSum dust d + spansSum chip c)) (SL len.toNat (fun t => 0 + cov d t + cov c t)) d (by omega) (by omega) (by rw [n2]; exact r1) true d.length 0 0 (by omega) (by
      rw [List.drop_zero]
      exact E2)
    have Ej2 : Ev (fun k => sawmilllaw17_CuttingParts.j2 k p d c (wrap64 (gainSum gain p + spansSum dust d + spansSum chip c)) (SL len.toNat (fun t => 0 + cov d t + cov c t)) false len kerf pitch sizes gain chip dust) true := by
      rw [wrap_zero] at E0
      exact Ev.step (fun k => by rw [sawmilllaw17_CuttingParts.j2, if_neg (by decide)]; rfl) E0
    have hz : List.replicate len.toNat (0 : Int) = SL len.toNat (fun _ => 0) := by
      apply List.ext_getElem?
      intro j
      simp only [SL, wrap_zero, List.getElem?_map, List.getElem?_replicate, List.getElem?_range]
      by_cases hj : j < len.toNat
      · simp [hj]
      · simp [hj]
    have Ej1 : Ev (fun k => sawmilllaw17_CuttingParts.j1 k p d c (wrap64 (gainSum gain p + spansSum dust d + spansSum chip c)) false len kerf pitch sizes gain chip dust) true := by
      refine Ev.step (f := fun k => (sawmilllaw17_mark.f k (SL len.toNat (fun _ => 0)) d).bind fun bt540 => (if bt540.1 = true then ((sawmilllaw17_mark.f k bt540.2 c).bind fun bt542 => (sawmilllaw17_CuttingParts.j2 k p d c (wrap64 (gainSum gain p + spansSum dust d + spansSum chip c)) bt542.2 (!bt542.1) len kerf pitch sizes gain chip dust)) else (sawmilllaw17_CuttingParts.j2 k p d c (wrap64 (gainSum gain p + spansSum dust d + spansSum chip c)) bt540.2 true len kerf pitch sizes gain chip dust))) (fun k => ?_) ?_
      · rw [sawmilllaw17_CuttingParts.j1, if_neg (by decide), if_pos h0, if_pos (by omega), hz]
      · refine Ev.bind (mark_ev (by omega) d (by omega) (by rw [show ((len.toNat : Nat) : Int) = len by omega]; exact g1) _) ?_
        simp only [if_true]
        refine Ev.bind (mark_ev (by omega) c (by omega) (by rw [show ((len.toNat : Nat) : Int) = len by omega]; exact g2) _) ?_
        exact Ej2
    refine Ev.congr (fun k => ?_) Ej1
    rw [if_neg (by omega), if_neg (by omega), if_pos n1, n2, bne_self_eq_false]
  · have h12 : (cutsR len kerf pitch sizes gain chip dust p).1 = [] ∧ (cutsR len kerf pitch sizes gain chip dust p).2.1 = [] := by
      unfold cutsR at hc ⊢
      by_cases h : checkL len kerf pitch sizes gain chip dust = 0
      · rw [if_pos h] at hc ⊢
        exact cuts_none p _ _ _ _ hc
      · rw [if_neg h]
        exact ⟨rfl, rfl⟩
    have h0 : (valR len kerf pitch sizes gain chip dust p).1 = 0 := by
      unfold valR
      simp only [hc, if_false]
    simp only [hc, if_false]
    rw [h12.1, h12.2, h0]
    exact Ev.now true
theorem pure9 (p : List S69) (hw : ∀ x ∈ p, (Lit.int .i64 x.f0).wf = true ∧ (Lit.int .i64 x.f1).wf = true) : ∃ k, sawmilllaw17_CuttingParts.f k len kerf pitch sizes gain chip dust p = some true := by
  obtain ⟨b, hE, hB⟩ := few_ev len kerf pitch sizes gain chip dust
  refine Ev.rounds (g := fun k => sawmilllaw17_CuttingParts.f k len kerf pitch sizes gain chip dust p) ?_
  unfold sawmilllaw17_CuttingParts.f
  refine Ev.bind hE ?_
  cases b
  · exact pure9_j0 len kerf pitch sizes gain chip dust p hw true (fun h => by cases h)
  · simp only [if_true]
    exact pure9_j0 len kerf pitch sizes gain chip dust p hw _ (fun h => by have := of_decide_eq_false h; omega)
end
end Go.Proofs.YtoaicheopcojoaaDoor.P
