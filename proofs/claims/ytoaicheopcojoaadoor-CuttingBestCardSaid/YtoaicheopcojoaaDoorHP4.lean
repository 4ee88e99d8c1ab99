import Derived.Test.YtoaicheopcojoaaDoorHVal
import Derived.Test.YtoaicheopcojoaaDoorHP3
namespace Go.Proofs.YtoaicheopcojoaaDoor.P
open Go.RowKit Go.Proofs.YtoaicheopcojoaaDoorW.PrintWords Go.Proofs.YtoaicheopcojoaaDoorW.PrintLast Go.Proofs.YtoaicheopcojoaaDoorW.PrintMore
set_option linter.unusedVariables false
set_option linter.unusedSimpArgs false

/-! The value of pieces, from a fresh edge on; no pieces are worth more than Best's. -/
attribute [local irreducible] mn mx rd rd_L1
theorem spanSum_pre (l : List Int) (a : Nat) (n : Nat) : spanSum l (a : Int) n = pre l (a + n) - pre l a := by
  induction n generalizing a with
  | zero => simp [spanSum]
  | succ n ih =>
    have := ih (a + 1)
    rw [spanSum, show ((a : Int) + 1) = ((a + 1 : Nat) : Int) by omega, this, show a + 1 + n = a + (n + 1) by omega]
    rw [show pre l (a + 1) = pre l a + rd l (a : Int) from rfl]
    omega
theorem spansSum_append (l : List Int) (a b : List S49) : spansSum l (a ++ b) = spansSum l a + spansSum l b := by
  induction a with
  | nil => simp [spansSum]
  | cons x a ih => rw [List.cons_append, spansSum, spansSum, ih]; omega
theorem spansSum_add (l : List Int) (c : List S49) (a b : Int) (h0 : 0 ≤ a) (h1 : a ≤ b) (h2 : b ≤ l.length) : spansSum l (addS c a b) = spansSum l c + (rd (preL l) b - rd (preL l) a) := by
  rw [rd_preL l a h0 (by omega), rd_preL l b (by omega) h2]
  unfold addS
  by_cases h : a < b
  · rw [if_pos h, spansSum_append]
    have e : spansSum l [⟨a, b⟩] = pre l b.toNat - pre l a.toNat := by
      rw [spansSum, spansSum]
      have := spanSum_pre l a.toNat (b - a).toNat
      rw [show ((a.toNat : Nat) : Int) = a by omega, show a.toNat + (b - a).toNat = b.toNat by omega] at this
      rw [this, Int.add_zero]
    rw [e]
  · rw [if_neg h, show a = b by omega]
    omega
/-- The value of pieces from a fresh edge on. -/
def VF (len kerf : Int) (sizes : List Int) (gain : List (List Int)) (cp dp : List Int) : List S69 → Int → Int
  | [], e => rd cp len - rd cp e
  | x :: ps, e => (if x.f1 = e then 0 else rd cp (x.f1 - kerf) - rd cp e + (rd dp x.f1 - rd dp (x.f1 - kerf))) + (rd (rd_L1 gain x.f0) x.f1 + (rd dp (mn (x.f1 + rd sizes x.f0 + kerf) len) - rd dp (x.f1 + rd sizes x.f0) + VF len kerf sizes gain cp dp ps (mn (x.f1 + rd sizes x.f0 + kerf) len)))
section
variable {len kerf pitch : Int} {sizes : List Int} {gain : List (List Int)} {chip dust : List Int}
/-- What a piece that cuts lets pass is. -/
theorem cuts_head {x : S69} {ps : List S69} {edge : Int} {en : Bool} {d c d' c' : List S49} (h : cutsL len kerf pitch sizes gain (x :: ps) edge en d c = (d', c', 0)) :
    (0 ≤ x.f0 ∧ x.f0 < (sizes.length : Int)) ∧ (0 ≤ x.f1 ∧ x.f1 + rd sizes x.f0 ≤ len) ∧ en = false ∧ (x.f1 = edge ∨ (pitch ≤ x.f1 - kerf - edge ∧ (x.f1 - kerf - edge) % pitch = 0)) ∧ 0 ≤ rd (rd_L1 gain x.f0) x.f1 ∧
    cutsL len kerf pitch sizes gain ps (mn (x.f1 + rd sizes x.f0 + kerf) len) (x.f1 + rd sizes x.f0 == len) (if x.f1 = edge then addS d (x.f1 + rd sizes x.f0) (mn (x.f1 + rd sizes x.f0 + kerf) len) else addS (addS d (x.f1 - kerf) x.f1) (x.f1 + rd sizes x.f0) (mn (x.f1 + rd sizes x.f0 + kerf) len)) (if x.f1 = edge then c else addS c edge (x.f1 - kerf)) = (d', c', 0) := by
  simp only [cutsL] at h
  by_cases c1 : x.f0 < 0 ∨ (sizes.length : Int) ≤ x.f0
  · rw [if_pos c1] at h; simp at h
  rw [if_neg c1] at h
  by_cases c2 : x.f1 < 0 ∨ len - rd sizes x.f0 < x.f1
  · rw [if_pos c2] at h; simp at h
  rw [if_neg c2] at h
  by_cases c3 : en = true ∨ (x.f1 ≠ edge ∧ (x.f1 - kerf - edge < pitch ∨ (x.f1 - kerf - edge) % pitch ≠ 0))
  · rw [if_pos c3] at h; simp at h
  rw [if_neg c3] at h
  by_cases c4 : rd (rd_L1 gain x.f0) x.f1 < 0
  · rw [if_pos c4] at h; simp at h
  rw [if_neg c4] at h
  refine ⟨by omega, by omega, ?_, ?_, by omega, ?_⟩
  · cases en
    · rfl
    · exact absurd (.inl rfl) c3
  · by_cases e : x.f1 = edge
    · exact .inl e
    · refine .inr ⟨Classical.byContradiction fun h' => c3 (.inr ⟨e, .inl (by omega)⟩), Classical.byContradiction fun h' => c3 (.inr ⟨e, .inr h'⟩)⟩
  · by_cases e : x.f1 = edge
    · rw [if_pos e] at h
      rw [if_pos e, if_pos e]
      exact h
    · rw [if_neg e] at h
      rw [if_neg e, if_neg e]
      exact h
theorem mn_le {a len : Int} (h : 0 ≤ a) (hl : 0 ≤ len) : 0 ≤ mn a len ∧ mn a len ≤ len := by unfold mn; split <;> omega
theorem mn_ge {a k len : Int} (h : a ≤ len) (hk : 0 ≤ k) : a ≤ mn (a + k) len := by unfold mn; split <;> omega
theorem mn_end {a k len : Int} (h : a = len) (hk : 0 ≤ k) : mn (a + k) len = len := by unfold mn; split <;> omega
/-- The sums that Value adds up are the pieces' value. -/
theorem cuts_val (O : OkLine len kerf pitch sizes gain chip dust) : ∀ (p : List S69) (edge : Int) (en : Bool) (d c d' c' : List S49), 0 ≤ edge → edge ≤ len → cutsL len kerf pitch sizes gain p edge en d c = (d', c', 0) →
    gainSum gain p + spansSum dust d' + spansSum chip c' = spansSum dust d + spansSum chip c + VF len kerf sizes gain (preL chip) (preL dust) p edge
  | [], edge, en, d, c, d', c', h0, h1, h => by
    rw [cutsL] at h
    injection h with e1 e2
    injection e2 with e2 e3
    have := O.nchip
    rw [← e1, ← e2, spansSum_add _ _ _ _ h0 h1 (by omega), gainSum, VF]
    omega
  | x :: ps, edge, en, d, c, d', c', h0, h1, h => by
    obtain ⟨a1, a2, a3, a4, a5, a6⟩ := cuts_head h
    have hs := O.sizes0 x.f0 a1.1 a1.2
    have hk := O.kerf0
    have hp := O.pitch0
    have hn1 := O.nchip
    have hn2 := O.ndust
    have m1 := mn_le (a := x.f1 + rd sizes x.f0 + kerf) (len := len) (by omega) (by omega)
    have m2 := mn_ge (k := kerf) a2.2 hk
    have IH := cuts_val O ps _ _ _ _ d' c' m1.1 m1.2 a6
    rw [gainSum, VF]
    by_cases e : x.f1 = edge
    · rw [if_pos e, if_pos e, spansSum_add dust _ _ _ (by omega) m2 (by omega)] at IH
      rw [if_pos e]
      omega
    · have a4' : pitch ≤ x.f1 - kerf - edge := by rcases a4 with a4 | a4; exact absurd a4 e; exact a4.1
      rw [if_neg e, if_neg e, spansSum_add dust _ _ _ (by omega) m2 (by omega), spansSum_add dust _ _ _ (by omega) (by omega) (by omega), spansSum_add chip _ _ _ h0 (by omega) (by omega)] at IH
      rw [if_neg e]
      omega
end
/-- Whether a list of pieces comes before another one. -/
def bfr : List S69 → List S69 → Bool
  | [], [] => false
  | [], _ :: _ => true
  | _ :: _, [] => false
  | x :: a, y :: b => if x = y then bfr a b else decide (x.f1 < y.f1 ∨ (x.f1 = y.f1 ∧ x.f0 < y.f0))
section
variable {len kerf pitch : Int} {sizes : List Int} {gain : List (List Int)} {cp dp : List Int}
/-- A piece that may come next is a candidate. -/
theorem cand (L : Ln len kerf pitch sizes gain cp dp) (V : Int → Int) {x : S69} {e : Int} (h0 : 0 ≤ e) (a1 : 0 ≤ x.f0 ∧ x.f0 < (sizes.length : Int)) (a2 : 0 ≤ x.f1 ∧ x.f1 + rd sizes x.f0 ≤ len) (a4 : x.f1 = e ∨ (pitch ≤ x.f1 - kerf - e ∧ (x.f1 - kerf - e) % pitch = 0)) (a5 : 0 ≤ rd (rd_L1 gain x.f0) x.f1) :
    ∃ m, 0 ≤ m ∧ CM len kerf pitch sizes gain cp dp V e m ⟨x, (if x.f1 = e then 0 else rd cp (x.f1 - kerf) - rd cp e + (rd dp x.f1 - rd dp (x.f1 - kerf))) + aft len kerf sizes gain dp V x.f0 x.f1⟩ := by
  have hk := L.kerf0
  have hp := L.pitch0
  by_cases e0 : x.f1 = e
  · rw [if_pos e0]
    refine ⟨0, Int.le_refl _, ⟨a1.1, a1.2, a2.2, a5⟩, ?_, ?_⟩
    · unfold posM; rw [if_pos rfl]; exact e0
    · unfold paidM; rw [if_pos rfl]
  · rw [if_neg e0]
    have a4' : pitch ≤ x.f1 - kerf - e ∧ (x.f1 - kerf - e) % pitch = 0 := by rcases a4 with a4 | a4; exact absurd a4 e0; exact a4
    have hm := Int.mul_ediv_add_emod (x.f1 - kerf - e) pitch
    rw [a4'.2, Int.add_zero, Int.mul_comm] at hm
    generalize (x.f1 - kerf - e) / pitch = m at hm
    have hm1 : 1 ≤ m := by
      refine Classical.byContradiction fun h => ?_
      have : m * pitch ≤ 0 := Int.mul_nonpos_of_nonpos_of_nonneg (by omega) (by omega)
      omega
    refine ⟨m, by omega, ⟨a1.1, a1.2, a2.2, a5⟩, ?_, ?_⟩
    · unfold posM; rw [if_neg (by omega)]; show x.f1 = _; omega
    · unfold paidM
      rw [if_neg (by omega), show e + m * pitch + kerf = x.f1 by omega, show e + m * pitch = x.f1 - kerf by omega]
/-- No pieces are worth more than the best ones, and none of the same value come before them. -/
theorem VF_le (L : Ln len kerf pitch sizes gain cp dp) : ∀ (p : List S69) (e : Int) (en : Bool) (d c d' c' : List S49) (n : Nat), 0 ≤ e → e ≤ len → (en = true → e = len) → len + 1 - e ≤ n → cutsL len kerf pitch sizes gain p e en d c = (d', c', 0) →
    -((len - e) * 1125899906842624) ≤ VF len kerf sizes gain cp dp p e ∧ VF len kerf sizes gain cp dp p e ≤ bestV len kerf pitch sizes gain cp dp e ∧
    (VF len kerf sizes gain cp dp p e = bestV len kerf pitch sizes gain cp dp e → bfr p (piecesB len kerf sizes (bestL len kerf pitch sizes gain cp dp) n e) = false)
  | p, e, en, d, c, d', c', 0, h0, h1, h2, hn, h => by omega
  | [], e, en, d, c, d', c', n + 1, h0, h1, h2, hn, h => by
    have hc := L.c e len h0 h1 (Int.le_refl _)
    have T := (best_top L e h0 h1).1
    have hb : rd_T97 (bestL len kerf pitch sizes gain cp dp) e = bestC len kerf pitch sizes gain cp dp e := rfl
    rw [VF, piecesB, hb]
    unfold bestV
    rcases T with ⟨t1, t2⟩ | ⟨t1, t2, t3, t4⟩
    · rw [t1]
      refine ⟨hc.1, Int.le_refl _, fun _ => ?_⟩
      rw [if_pos rfl]
      rfl
    · exact ⟨hc.1, by omega, fun h => by omega⟩
  | x :: ps, e, en, d, c, d', c', n + 1, h0, h1, h2, hn, h => by
    obtain ⟨a1, a2, a3, a4, a5, a6⟩ := cuts_head h
    have hs := L.sz x.f0 a1.1 a1.2
    have hk := L.kerf0
    have hl0 := L.len0
    have hp := L.pitch0
    have m1 := mn_le (a := x.f1 + rd sizes x.f0 + kerf) (len := len) (by omega) (by omega)
    have m2 := mn_ge (k := kerf) a2.2 hk
    have hxe : e ≤ x.f1 := by rcases a4 with a4 | a4 <;> omega
    obtain ⟨m, hm, hC⟩ := cand L (bestV len kerf pitch sizes gain cp dp) h0 a1 a2 a4 a5
    have hB := CM_bd L h0 hm (best_bd L e (by omega)) hC
    have hg := L.g x.f0 x.f1 a2.1 ⟨a1.1, a1.2, a2.2, a5⟩
    have hd := L.d (x.f1 + rd sizes x.f0) (mn (x.f1 + rd sizes x.f0 + kerf) len) (by omega) m2 m1.2
    obtain ⟨i1, i2, i3⟩ := VF_le L ps (mn (x.f1 + rd sizes x.f0 + kerf) len) (x.f1 + rd sizes x.f0 == len) _ _ d' c' n m1.1 m1.2 (fun he => mn_end (beq_iff_eq.mp he) hk) (by omega) a6
    -- what comes behind the last piece of the line
    have hlast : x.f1 + rd sizes x.f0 = len → ps = [] := by
      intro he
      rw [beq_iff_eq.mpr he] at a6
      cases ps with
      | nil => rfl
      | cons y t => have := (cuts_head a6).2.2.1; cases this
    -- the pieces' value, seen as the candidate's
    have hle : VF len kerf sizes gain cp dp (x :: ps) e ≤ (if x.f1 = e then 0 else rd cp (x.f1 - kerf) - rd cp e + (rd dp x.f1 - rd dp (x.f1 - kerf))) + aft len kerf sizes gain dp (bestV len kerf pitch sizes gain cp dp) x.f0 x.f1 ∧
        (VF len kerf sizes gain cp dp (x :: ps) e = (if x.f1 = e then 0 else rd cp (x.f1 - kerf) - rd cp e + (rd dp x.f1 - rd dp (x.f1 - kerf))) + aft len kerf sizes gain dp (bestV len kerf pitch sizes gain cp dp) x.f0 x.f1 → x.f1 + rd sizes x.f0 = len ∨ VF len kerf sizes gain cp dp ps (mn (x.f1 + rd sizes x.f0 + kerf) len) = bestV len kerf pitch sizes gain cp dp (mn (x.f1 + rd sizes x.f0 + kerf) len)) := by
      rw [VF]
      unfold aft
      by_cases he : x.f1 + rd sizes x.f0 = len
      · rw [if_neg (show ¬ x.f1 + rd sizes x.f0 < len by omega), mn_end he hk, hlast he, VF, he]
        refine ⟨by omega, fun _ => .inl rfl⟩
      · rw [if_pos (show x.f1 + rd sizes x.f0 < len by omega)]
        refine ⟨by omega, fun h => .inr (by omega)⟩
    have hlow : -((len - e) * 1125899906842624) ≤ VF len kerf sizes gain cp dp (x :: ps) e := by
      rw [VF]
      by_cases e0 : x.f1 = e
      · rw [if_pos e0]
        omega
      · rw [if_neg e0]
        have a4' : pitch ≤ x.f1 - kerf - e := by rcases a4 with a4 | a4; exact absurd a4 e0; exact a4.1
        have hc' := L.c e (x.f1 - kerf) h0 (by omega) (by omega)
        have hd' := L.d (x.f1 - kerf) x.f1 (by omega) (by omega) (by omega)
        omega
    have hb : rd_T97 (bestL len kerf pitch sizes gain cp dp) e = bestC len kerf pitch sizes gain cp dp e := rfl
    have T := (best_top L e h0 h1).1
    rw [piecesB, hb]
    rcases T with ⟨t1, t2⟩ | ⟨t1, t2, t3, t4⟩
    · have := t2 _ ⟨m, hm, hC⟩
      have hv : bestV len kerf pitch sizes gain cp dp e = rd cp len - rd cp e := by unfold bestV; rw [t1]
      simp only at this
      refine ⟨hlow, by omega, fun _ => ?_⟩
      rw [if_pos (by rw [t1])]
      rfl
    · have tb := t4 _ ⟨m, hm, hC⟩
      have hv : bestV len kerf pitch sizes gain cp dp e = (bestC len kerf pitch sizes gain cp dp e).f1 := rfl
      have hn' : (bestC len kerf pitch sizes gain cp dp e).f0 ≠ ⟨-1, -1⟩ := by intro h; rw [h] at t1; simp at t1
      unfold Bt at tb
      simp only at tb
      refine ⟨hlow, by rcases tb with tb | tb <;> omega, fun heq => ?_⟩
      have heq2 : VF len kerf sizes gain cp dp (x :: ps) e = (if x.f1 = e then 0 else rd cp (x.f1 - kerf) - rd cp e + (rd dp x.f1 - rd dp (x.f1 - kerf))) + aft len kerf sizes gain dp (bestV len kerf pitch sizes gain cp dp) x.f0 x.f1 := by rcases tb with tb | tb <;> omega
      have h3 := hle.2 heq2
      have tb' : (bestC len kerf pitch sizes gain cp dp e).f0.f1 < x.f1 ∨ ((bestC len kerf pitch sizes gain cp dp e).f0.f1 = x.f1 ∧ (bestC len kerf pitch sizes gain cp dp e).f0.f0 ≤ x.f0) := by rcases tb with tb | tb; omega; exact tb.2
      rw [if_neg hn', bfr]
      by_cases ex : x = (bestC len kerf pitch sizes gain cp dp e).f0
      · rw [if_pos ex, ← ex]
        by_cases he : x.f1 + rd sizes x.f0 = len
        · rw [if_pos he, hlast he]
          rfl
        · rw [if_neg he]
          exact i3 (by rcases h3 with h3 | h3; exact absurd h3 he; exact h3)
      · rw [if_neg ex]
        refine decide_eq_false fun h => ?_
        have : x.f1 = (bestC len kerf pitch sizes gain cp dp e).f0.f1 ∧ x.f0 = (bestC len kerf pitch sizes gain cp dp e).f0.f0 := by omega
        exact ex (by cases x; cases hh : (bestC len kerf pitch sizes gain cp dp e).f0; rw [hh] at this; simp only at this; rw [this.1, this.2])
/-- Best's own pieces are cut without an error, and have the best value. -/
theorem best_cuts (L : Ln len kerf pitch sizes gain cp dp) : ∀ (n : Nat) (e : Int) (d c : List S49), 0 ≤ e → e ≤ len → len + 1 - e ≤ n →
    ∃ d' c', cutsL len kerf pitch sizes gain (piecesB len kerf sizes (bestL len kerf pitch sizes gain cp dp) n e) e false d c = (d', c', 0) ∧ VF len kerf sizes gain cp dp (piecesB len kerf sizes (bestL len kerf pitch sizes gain cp dp) n e) e = bestV len kerf pitch sizes gain cp dp e
  | 0, e, d, c, h0, h1, hn => by omega
  | n + 1, e, d, c, h0, h1, hn => by
    have hb : rd_T97 (bestL len kerf pitch sizes gain cp dp) e = bestC len kerf pitch sizes gain cp dp e := rfl
    have T := (best_top L e h0 h1).1
    have hv : bestV len kerf pitch sizes gain cp dp e = (bestC len kerf pitch sizes gain cp dp e).f1 := rfl
    have hk := L.kerf0
    have hl0 := L.len0
    have hp := L.pitch0
    rw [piecesB, hb]
    rcases T with ⟨t1, t2⟩ | ⟨t1, ⟨m, hm, t2⟩, t3, t4⟩
    · rw [if_pos (by rw [t1]), hv, t1, VF]
      exact ⟨d, addS c e len, rfl, rfl⟩
    · have hn' : (bestC len kerf pitch sizes gain cp dp e).f0 ≠ ⟨-1, -1⟩ := by intro h; rw [h] at t1; simp at t1
      rw [if_neg hn', hv]
      generalize bestC len kerf pitch sizes gain cp dp e = o at t1 t2 hn'
      obtain ⟨x, v⟩ := o
      simp only at t1 hn' ⊢
      obtain ⟨f, hpos, hval⟩ := t2
      simp only at f hpos hval
      obtain ⟨f1, f2, f3, f4⟩ := f
      have hs := L.sz x.f0 f1 f2
      -- the piece follows the edge as it has to
      have hgap : x.f1 = e ∨ (pitch ≤ x.f1 - kerf - e ∧ (x.f1 - kerf - e) % pitch = 0 ∧ m ≠ 0) := by
        unfold posM at hpos
        by_cases m0 : m = 0
        · rw [if_pos m0] at hpos
          exact .inl hpos
        · rw [if_neg m0] at hpos
          have := (mul_pos' (m := m) (by omega) hp).1
          refine .inr ⟨by omega, ?_, m0⟩
          rw [show x.f1 - kerf - e = m * pitch by omega]
          exact Int.mul_emod_left m pitch
      have hpaid : paidM kerf pitch cp dp e m = (if x.f1 = e then 0 else rd cp (x.f1 - kerf) - rd cp e + (rd dp x.f1 - rd dp (x.f1 - kerf))) := by
        unfold posM at hpos
        unfold paidM
        by_cases m0 : m = 0
        · rw [if_pos m0] at hpos
          rw [if_pos m0, if_pos hpos]
        · rw [if_neg m0] at hpos
          have := (mul_pos' (m := m) (by omega) hp).1
          rw [if_neg m0, if_neg (by omega), hpos, show e + m * pitch + kerf - kerf = e + m * pitch by omega]
      have hxe : e ≤ x.f1 := by rcases hgap with h | h <;> omega
      have m1 := mn_le (a := x.f1 + rd sizes x.f0 + kerf) (len := len) (by omega) (by omega)
      have m2 := mn_ge (k := kerf) f3 hk
      simp only [cutsL]
      rw [if_neg (by omega), if_neg (by omega), if_neg (by
        rintro (h | ⟨h, h'⟩)
        · cases h
        · rcases hgap with hg | ⟨g1, g2, g3⟩
          · exact h hg
          · rcases h' with h' | h'
            · omega
            · exact h' g2), if_neg (by omega)]
      -- one step, whatever the lists
      have step : ∀ d1 c1 : List S49, ∃ d' c', cutsL len kerf pitch sizes gain (if x.f1 + rd sizes x.f0 = len then [] else piecesB len kerf sizes (bestL len kerf pitch sizes gain cp dp) n (mn (x.f1 + rd sizes x.f0 + kerf) len)) (mn (x.f1 + rd sizes x.f0 + kerf) len) (x.f1 + rd sizes x.f0 == len) d1 c1 = (d', c', 0) ∧
          rd (rd_L1 gain x.f0) x.f1 + (rd dp (mn (x.f1 + rd sizes x.f0 + kerf) len) - rd dp (x.f1 + rd sizes x.f0) + VF len kerf sizes gain cp dp (if x.f1 + rd sizes x.f0 = len then [] else piecesB len kerf sizes (bestL len kerf pitch sizes gain cp dp) n (mn (x.f1 + rd sizes x.f0 + kerf) len)) (mn (x.f1 + rd sizes x.f0 + kerf) len)) = aft len kerf sizes gain dp (bestV len kerf pitch sizes gain cp dp) x.f0 x.f1 := by
        intro d1 c1
        unfold aft
        by_cases he : x.f1 + rd sizes x.f0 = len
        · rw [if_pos he, if_neg (by omega), mn_end he hk, VF, he]
          exact ⟨d1, addS c1 len len, rfl, by omega⟩
        · obtain ⟨d', c', e1, e2⟩ := best_cuts L n (mn (x.f1 + rd sizes x.f0 + kerf) len) d1 c1 m1.1 m1.2 (by omega)
          rw [if_neg he, if_pos (by omega), e2, beq_eq_false_iff_ne.mpr he]
          exact ⟨d', c', e1, rfl⟩
      rw [VF]
      by_cases e0 : x.f1 = e
      · obtain ⟨d', c', s1, s2⟩ := step (addS d (x.f1 + rd sizes x.f0) (mn (x.f1 + rd sizes x.f0 + kerf) len)) c
        refine ⟨d', c', ?_, ?_⟩
        · rw [if_pos e0]; exact s1
        · rw [s2, hval, hpaid]
      · obtain ⟨d', c', s1, s2⟩ := step (addS (addS d (x.f1 - kerf) x.f1) (x.f1 + rd sizes x.f0) (mn (x.f1 + rd sizes x.f0 + kerf) len)) (addS c e (x.f1 - kerf))
        refine ⟨d', c', ?_, ?_⟩
        · rw [if_neg e0]; exact s1
        · rw [s2, hval, hpaid]
end
end Go.Proofs.YtoaicheopcojoaaDoor.P
