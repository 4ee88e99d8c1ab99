import Derived.Test.YtoaicheopcojoaaDoorHP3
namespace Go.Proofs.YtoaicheopcojoaaDoor.P
open Go.RowKit Go.Proofs.YtoaicheopcojoaaDoorW.PrintWords Go.Proofs.YtoaicheopcojoaaDoorW.PrintLast Go.Proofs.YtoaicheopcojoaaDoorW.PrintMore
set_option linter.unusedVariables false
set_option linter.unusedSimpArgs false

/-! A line whose values are multiplied: the best choices stay, their values are multiplied. -/
attribute [local irreducible] mn mx
section
variable {len kerf pitch : Int} {sizes : List Int} {gain gain' : List (List Int)} {cp dp cp' dp' : List Int} {V V' : Int → Int}
structure Scd (len : Int) (sizes : List Int) (gain gain' : List (List Int)) (cp dp cp' dp' : List Int) (b : Int) : Prop where
  b1 : 1 ≤ b
  c : ∀ x : Int, 0 ≤ x → x ≤ len → rd cp' x = rd cp x * b
  d : ∀ x : Int, 0 ≤ x → x ≤ len → rd dp' x = rd dp x * b
  g : ∀ i q : Int, 0 ≤ i → i < (sizes.length : Int) → 0 ≤ q → q + rd sizes i ≤ len → rd (rd_L1 gain' i) q = rd (rd_L1 gain i) q * b
theorem pos_mul {x b : Int} (hb : 1 ≤ b) : 0 ≤ x * b ↔ 0 ≤ x := by
  constructor
  · intro h
    refine Classical.byContradiction fun hn => ?_
    have : x * b < 0 := Int.mul_neg_of_neg_of_pos (by omega) (by omega)
    omega
  · intro h
    exact Int.mul_nonneg h (by omega)
theorem lt_mul {x y b : Int} (hb : 1 ≤ b) : x * b < y * b ↔ x < y := Int.mul_lt_mul_right (by omega)
theorem aft_scale (L : Ln len kerf pitch sizes gain cp dp) {b : Int} (S : Scd len sizes gain gain' cp dp cp' dp' b) {i q : Int} (hf : Fit len sizes gain i q) (h0 : 0 ≤ q) (hV : ∀ x : Int, q < x → x ≤ len → V' x = V x * b) :
    aft len kerf sizes gain' dp' V' i q = aft len kerf sizes gain dp V i q * b := by
  obtain ⟨f1, f2, f3, f4⟩ := hf
  have hs := L.sz i f1 f2
  have hk := L.kerf0
  unfold aft
  rw [S.g i q f1 f2 h0 f3]
  by_cases h : q + rd sizes i < len
  · have hm := mn_gt hk h hs.1
    rw [if_pos h, if_pos h, S.d _ (by omega) hm.2.2, S.d _ (by omega) (by omega), hV _ hm.1 hm.2.2]
    simp only [Int.add_mul, Int.sub_mul]
  · rw [if_neg h, if_neg h]
theorem Fit_scale {b : Int} (S : Scd len sizes gain gain' cp dp cp' dp' b) {i q : Int} (h0 : 0 ≤ q) : Fit len sizes gain' i q ↔ Fit len sizes gain i q := by
  unfold Fit
  constructor
  · rintro ⟨f1, f2, f3, f4⟩
    rw [S.g i q f1 f2 h0 f3, pos_mul S.b1] at f4
    exact ⟨f1, f2, f3, f4⟩
  · rintro ⟨f1, f2, f3, f4⟩
    refine ⟨f1, f2, f3, ?_⟩
    rw [S.g i q f1 f2 h0 f3, pos_mul S.b1]
    exact f4
theorem posM_ge (L : Ln len kerf pitch sizes gain cp dp) {e m : Int} (hm : 0 ≤ m) : e ≤ posM kerf pitch e m := by
  have hk := L.kerf0
  unfold posM
  split
  · omega
  · have := (mul_pos' (m := m) (by omega) L.pitch0).1
    have := L.pitch0
    omega
theorem paid_scale (L : Ln len kerf pitch sizes gain cp dp) {b : Int} (S : Scd len sizes gain gain' cp dp cp' dp' b) {e m : Int} (h0 : 0 ≤ e) (hm : 0 ≤ m) (hq : posM kerf pitch e m ≤ len) : paidM kerf pitch cp' dp' e m = paidM kerf pitch cp dp e m * b := by
  have hk := L.kerf0
  have hp := L.pitch0
  unfold posM at hq
  unfold paidM
  by_cases e0 : m = 0
  · rw [if_pos e0, if_pos e0, Int.zero_mul]
  · rw [if_neg e0] at hq
    have := (mul_pos' (m := m) (by omega) hp).1
    rw [if_neg e0, if_neg e0, S.c _ (by omega) (by omega), S.c _ h0 (by omega), S.d _ (by omega) (by omega), S.d _ (by omega) (by omega)]
    simp only [Int.add_mul, Int.sub_mul]
theorem CM_scale (L : Ln len kerf pitch sizes gain cp dp) {b : Int} (S : Scd len sizes gain gain' cp dp cp' dp' b) {e m : Int} (h0 : 0 ≤ e) (hm : 0 ≤ m) (hV : ∀ x : Int, e < x → x ≤ len → V' x = V x * b) (y' : S97) :
    CM len kerf pitch sizes gain' cp' dp' V' e m y' ↔ ∃ y, CM len kerf pitch sizes gain cp dp V e m y ∧ y' = ⟨y.f0, y.f1 * b⟩ := by
  have hpe := posM_ge (e := e) (m := m) L hm
  constructor
  · rintro ⟨h1, h2, h3⟩
    have hf := (Fit_scale S (by omega)).mp h1
    have hs := L.sz _ hf.1 hf.2.1
    have hl := hf.2.2.1
    refine ⟨⟨y'.f0, paidM kerf pitch cp dp e m + aft len kerf sizes gain dp V y'.f0.f0 y'.f0.f1⟩, ⟨hf, h2, rfl⟩, ?_⟩
    rw [paid_scale L S h0 hm (by omega), aft_scale L S hf (by omega) (fun x hx hx' => hV x (by omega) hx'), ← Int.add_mul] at h3
    cases y' with | mk p v => simp only at h3 ⊢; rw [h3]
  · rintro ⟨y, ⟨hf, h2, h3⟩, rfl⟩
    have hs := L.sz _ hf.1 hf.2.1
    have hl := hf.2.2.1
    refine ⟨(Fit_scale (i := y.f0.f0) S (show 0 ≤ y.f0.f1 by omega)).mpr hf, h2, ?_⟩
    simp only
    rw [paid_scale L S h0 hm (by omega), aft_scale L S hf (by omega) (fun x hx hx' => hV x (by omega) hx'), h3, Int.add_mul]
theorem TopB.scale {P : S97 → Prop} {base b : Int} {o : S97} (hb : 1 ≤ b) (h : TopB P base o) : TopB (fun y' => ∃ y, P y ∧ y' = (⟨y.f0, y.f1 * b⟩ : S97)) (base * b) ⟨o.f0, o.f1 * b⟩ := by
  rcases h with ⟨h1, h2⟩ | ⟨h1, h2, h3, h4⟩
  · refine .inl ⟨by rw [h1], ?_⟩
    rintro y' ⟨y, hy, rfl⟩
    exact Int.mul_le_mul_of_nonneg_right (h2 y hy) (by omega)
  · refine .inr ⟨h1, ⟨o, h2, rfl⟩, (lt_mul hb).mpr h3, ?_⟩
    rintro y' ⟨y, hy, rfl⟩
    rcases h4 y hy with h | ⟨h, h'⟩
    · exact .inl ((lt_mul hb).mpr h)
    · exact .inr ⟨by simp only; rw [h], h'⟩
theorem best_scale (L : Ln len kerf pitch sizes gain cp dp) (L' : Ln len kerf pitch sizes gain' cp' dp') {b : Int} (S : Scd len sizes gain gain' cp dp cp' dp' b) :
    ∀ (n : Nat) (e : Int), 0 ≤ e → e ≤ len → (len - e).toNat = n → bestC len kerf pitch sizes gain' cp' dp' e = ⟨(bestC len kerf pitch sizes gain cp dp e).f0, (bestC len kerf pitch sizes gain cp dp e).f1 * b⟩ := by
  intro n
  induction n using Nat.strongRecOn with
  | ind n ih =>
    intro e h0 h1 hn
    have hV : ∀ x : Int, e < x → x ≤ len → bestV len kerf pitch sizes gain' cp' dp' x = bestV len kerf pitch sizes gain cp dp x * b := by
      intro x hx hx'
      unfold bestV
      rw [ih (len - x).toNat (by omega) x (by omega) hx' rfl]
    have T := ((best_top L e h0 h1).1.scale S.b1)
    have T' := (best_top L' e h0 h1).1
    rw [S.c len (by omega) (Int.le_refl _), S.c e h0 h1, ← Int.sub_mul] at T'
    refine T'.unique (T.congr fun y' => ?_)
    constructor
    · rintro ⟨y, ⟨m, hm, hy⟩, rfl⟩
      exact ⟨m, hm, (CM_scale L S h0 hm hV _).mpr ⟨y, hy, rfl⟩⟩
    · rintro ⟨m, hm, hy⟩
      obtain ⟨y, hy2, e2⟩ := (CM_scale L S h0 hm hV _).mp hy
      exact ⟨y, ⟨m, hm, hy2⟩, e2⟩
theorem piecesB_same (L : Ln len kerf pitch sizes gain cp dp) {b' : List S97} (hb : ∀ e : Int, 0 ≤ e → e ≤ len → (rd_T97 b' e).f0 = (bestC len kerf pitch sizes gain cp dp e).f0) : ∀ (n : Nat) (e : Int), 0 ≤ e → e ≤ len →
    piecesB len kerf sizes b' n e = piecesB len kerf sizes (bestL len kerf pitch sizes gain cp dp) n e
  | 0, e, h0, h1 => rfl
  | n + 1, e, h0, h1 => by
    have hc : rd_T97 (bestL len kerf pitch sizes gain cp dp) e = bestC len kerf pitch sizes gain cp dp e := rfl
    have T := (best_top L e h0 h1).1
    rw [piecesB, piecesB, hb e h0 h1, hc]
    rcases T with ⟨t1, t2⟩ | ⟨t1, ⟨m, hm, t2⟩, t3, t4⟩
    · rw [if_pos (by rw [t1]), if_pos (by rw [t1])]
    · have hn' : (bestC len kerf pitch sizes gain cp dp e).f0 ≠ ⟨-1, -1⟩ := by intro h; rw [h] at t1; simp at t1
      have hbd := CM_bd L h0 hm (best_bd L e (by omega)) t2
      have hf := t2.1
      have hs := L.sz _ hf.1 hf.2.1
      have hk := L.kerf0
      rw [if_neg hn', if_neg hn']
      by_cases he : (bestC len kerf pitch sizes gain cp dp e).f0.f1 + rd sizes (bestC len kerf pitch sizes gain cp dp e).f0.f0 = len
      · rw [if_pos he, if_pos he]
      · have hm := mn_gt hk (show (bestC len kerf pitch sizes gain cp dp e).f0.f1 + rd sizes (bestC len kerf pitch sizes gain cp dp e).f0.f0 < len by have := hf.2.2.1; omega) hs.1
        rw [if_neg he, if_neg he, piecesB_same L hb n _ (by omega) hm.2.2]
end
/-- The multiples of a list. -/
def scl (b : Int) (l : List Int) : List Int := l.map (fun x => wrap64 (x * b))
theorem scl_len (b : Int) (l : List Int) : (scl b l).length = l.length := by simp [scl]
theorem rd_scl {b : Int} {l : List Int} {x : Int} (hb0 : 1 ≤ b) (hb1 : b ≤ 1000) (h0 : 0 ≤ x) (h1 : x < (l.length : Int)) (hl : -1125899906842624 ≤ rd l x ∧ rd l x ≤ 1125899906842624) : rd (scl b l) x = rd l x * b := by
  have hx : x.toNat < l.length := by omega
  have e : rd (scl b l) x = wrap64 (rd l x * b) := by simp [rd, scl, hx]
  rw [e]
  have h2 : rd l x * b ≤ 1125899906842624 * 1000 := by
    refine Int.le_trans (Int.mul_le_mul_of_nonneg_right hl.2 (by omega)) ?_
    exact Int.mul_le_mul_of_nonneg_left hb1 (by decide)
  have h3 : -1125899906842624 * 1000 ≤ rd l x * b := by
    refine Int.le_trans ?_ (Int.mul_le_mul_of_nonneg_right hl.1 (by omega))
    have : 1125899906842624 * b ≤ 1125899906842624 * 1000 := Int.mul_le_mul_of_nonneg_left hb1 (by decide)
    omega
  exact IntWalk.wrap64_in _ (by omega)
theorem pre_scl {b : Int} {l : List Int} (hb0 : 1 ≤ b) (hb1 : b ≤ 1000) (h : OkL l) (n : Nat) (hn : n ≤ l.length) : pre (scl b l) n = pre l n * b := by
  induction n with
  | zero => simp [pre]
  | succ n ih =>
    rw [pre, pre, ih (by omega), rd_scl hb0 hb1 (by omega) (by omega) (h n (by omega) (by omega)), Int.add_mul]
theorem preL_scl {b : Int} {l : List Int} (hb0 : 1 ≤ b) (hb1 : b ≤ 1000) (h : OkL l) (x : Int) (h0 : 0 ≤ x) (h1 : x ≤ (l.length : Int)) : rd (preL (scl b l)) x = rd (preL l) x * b := by
  rw [rd_preL _ _ h0 (by rw [scl_len]; exact h1), rd_preL _ _ h0 h1, pre_scl hb0 hb1 h _ (by omega)]
theorem rd_L1_map (f : List Int → List Int) (l : List (List Int)) (i : Int) (h0 : 0 ≤ i) (h1 : i < (l.length : Int)) : rd_L1 (l.map f) i = f (rd_L1 l i) := by
  have hi : i.toNat < l.length := by omega
  simp [rd_L1, hi]
theorem scd_of {len kerf pitch : Int} {sizes : List Int} {gain : List (List Int)} {chip dust : List Int} {b : Int} (hb0 : 1 ≤ b) (hb1 : b ≤ 1000) (O : OkLine len kerf pitch sizes gain chip dust) :
    Scd len sizes gain (gain.map (scl b)) (preL chip) (preL dust) (preL (scl b chip)) (preL (scl b dust)) b := by
  have n1 := O.nchip
  have n2 := O.ndust
  have hng := O.ngain
  refine ⟨hb0, fun x h0 h1 => preL_scl hb0 hb1 (fun p a c => O.bchip p a (by omega)) x h0 (by omega), fun x h0 h1 => preL_scl hb0 hb1 (fun p a c => O.bdust p a (by omega)) x h0 (by omega), fun i q i0 i1 q0 q1 => ?_⟩
  have hr := O.rows i i0 i1
  have hs := O.sizes0 i i0 i1
  have hq : q < ((rd_L1 gain i).length : Int) := by rw [hr]; unfold mx; split <;> omega
  rw [rd_L1_map _ _ _ i0 (by omega)]
  exact rd_scl hb0 hb1 q0 hq (O.bgain i i0 i1 q q0 hq)
end Go.Proofs.YtoaicheopcojoaaDoor.P
