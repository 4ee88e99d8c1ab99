import Derived.Test.YtoaicheopcojoaaDoorHP1
namespace Go.Proofs.YtoaicheopcojoaaDoor.P
open Go.RowKit Go.Proofs.YtoaicheopcojoaaDoorW.PrintWords Go.Proofs.YtoaicheopcojoaaDoorW.PrintLast Go.Proofs.YtoaicheopcojoaaDoorW.PrintMore
set_option linter.unusedVariables false
set_option linter.unusedSimpArgs false

/-! The lists of Best fulfil their equations, and are the first greatest of all candidates. -/
theorem rd97_set_ne (l : List S97) (n : Nat) (x : S97) (i : Int) (h0 : 0 ≤ i) (h : i ≠ n) : rd_T97 (l.set n x) i = rd_T97 l i := by
  unfold rd_T97
  have : n ≠ i.toNat := by omega
  simp [List.getElem?_set, this]
theorem rd97_set_eq (l : List S97) (n : Nat) (x : S97) (h : n < l.length) : rd_T97 (l.set n x) (n : Int) = x := by
  rw [rd_set _ _ _ _ (by omega) h, if_pos rfl]
section
variable {len kerf pitch : Int} {sizes : List Int} {gain : List (List Int)} {cp dp : List Int}
theorem mn_gt {len kerf e s : Int} (hk : 0 ≤ kerf) (h : e + s < len) (hs : 1 ≤ s) : e < mn (e + s + kerf) len ∧ e + s ≤ mn (e + s + kerf) len ∧ mn (e + s + kerf) len ≤ len := by unfold mn; split <;> omega
theorem atN_congr (hk : 0 ≤ kerf) (hs : ∀ i : Int, 0 ≤ i → i < sizes.length → 1 ≤ rd sizes i) {best best' : List S97} {e : Int} (h : ∀ i : Int, e < i → rd_T97 best i = rd_T97 best' i) (n : Nat) (hn : n ≤ sizes.length) :
    atN len kerf sizes gain dp best e n = atN len kerf sizes gain dp best' e n := by
  induction n with
  | zero => rfl
  | succ n ih =>
    have hv : atVal len kerf sizes gain dp best e n = atVal len kerf sizes gain dp best' e n := by
      unfold atVal
      split
      · rename_i hl
        rw [h _ (mn_gt hk hl (hs n (by omega) (by omega))).1]
      · rfl
    rw [atN, atN, ih (by omega), atOne, atOne, hv]
theorem behE_congr (hk : 0 ≤ kerf) (hp : 1 ≤ pitch) {a a' b b' : List S97} {e : Int} (ha : ∀ i : Int, e < i → rd_T97 a i = rd_T97 a' i) (hb : ∀ i : Int, e < i → rd_T97 b i = rd_T97 b' i) :
    behE len kerf pitch cp dp a b e = behE len kerf pitch cp dp a' b' e := by
  have h1 := ha (e + pitch + kerf) (by omega)
  have h2 := hb (e + pitch) (by omega)
  unfold behE beh1
  rw [h1, h2]
theorem runT_keep (n : Nat) : ∀ (t : Tri) (i : Int), (n : Int) ≤ i → rd_T97 (runT len kerf pitch sizes gain cp dp n t).a i = rd_T97 t.a i ∧ rd_T97 (runT len kerf pitch sizes gain cp dp n t).b i = rd_T97 t.b i ∧ rd_T97 (runT len kerf pitch sizes gain cp dp n t).c i = rd_T97 t.c i := by
  induction n with
  | zero => intro t i h; exact ⟨rfl, rfl, rfl⟩
  | succ n ih =>
    intro t i h
    obtain ⟨h1, h2, h3⟩ := ih (stepT len kerf pitch sizes gain cp dp t n) i (by omega)
    rw [runT, h1, h2, h3]
    simp only [stepT]
    exact ⟨rd97_set_ne _ _ _ _ (by omega) (by omega), rd97_set_ne _ _ _ _ (by omega) (by omega), rd97_set_ne _ _ _ _ (by omega) (by omega)⟩
/-- What the three lists fulfil. -/
structure Eqs (len kerf pitch : Int) (sizes : List Int) (gain : List (List Int)) (cp dp : List Int) (r : Tri) (e : Int) : Prop where
  a : rd_T97 r.a e = atN len kerf sizes gain dp r.c e sizes.length
  b : rd_T97 r.b e = behE len kerf pitch cp dp r.a r.b e
  c : rd_T97 r.c e = bestE len cp (rd_T97 r.a e) (rd_T97 r.b e) e
theorem runT_eqs (hk : 0 ≤ kerf) (hp : 1 ≤ pitch) (hs : ∀ i : Int, 0 ≤ i → i < sizes.length → 1 ≤ rd sizes i) (n : Nat) :
    ∀ t : Tri, n ≤ t.a.length → n ≤ t.b.length → n ≤ t.c.length → ∀ e : Nat, e < n → Eqs len kerf pitch sizes gain cp dp (runT len kerf pitch sizes gain cp dp n t) e := by
  induction n with
  | zero => intro t _ _ _ e h; omega
  | succ n ih =>
    intro t la lb lc e he
    rw [runT]
    by_cases hen : e < n
    · exact ih _ (by simp only [stepT, List.length_set]; omega) (by simp only [stepT, List.length_set]; omega) (by simp only [stepT, List.length_set]; omega) e hen
    have e1 : e = n := by omega
    subst e1
    have K := fun i h => runT_keep (len := len) (kerf := kerf) (pitch := pitch) (sizes := sizes) (gain := gain) (cp := cp) (dp := dp) e (stepT len kerf pitch sizes gain cp dp t e) i h
    generalize runT len kerf pitch sizes gain cp dp e (stepT len kerf pitch sizes gain cp dp t e) = r at K
    obtain ⟨k1, k2, k3⟩ := K e (Int.le_refl _)
    have ea : rd_T97 (stepT len kerf pitch sizes gain cp dp t e).a (e : Int) = atN len kerf sizes gain dp t.c e sizes.length := by simp only [stepT]; rw [rd97_set_eq _ _ _ (by omega)]
    have eb : rd_T97 (stepT len kerf pitch sizes gain cp dp t e).b (e : Int) = behE len kerf pitch cp dp (stepT len kerf pitch sizes gain cp dp t e).a (t.b.set e noneC) e := by simp only [stepT]; rw [rd97_set_eq _ _ _ (by omega)]
    have ec : rd_T97 (stepT len kerf pitch sizes gain cp dp t e).c (e : Int) = bestE len cp (rd_T97 (stepT len kerf pitch sizes gain cp dp t e).a e) (rd_T97 (stepT len kerf pitch sizes gain cp dp t e).b e) e := by
      show rd_T97 (t.c.set e _) (e : Int) = _
      rw [rd97_set_eq _ _ _ (by omega)]
      rfl
    refine ⟨?_, ?_, ?_⟩
    · rw [k1, ea]
      refine atN_congr hk hs (fun i hi => ?_) _ (Nat.le_refl _)
      rw [(K i (by omega)).2.2]
      exact (rd97_set_ne _ _ _ _ (by omega) (by omega)).symm
    · rw [k2, eb]
      refine behE_congr hk hp (fun i hi => ((K i (by omega)).1).symm) (fun i hi => ?_)
      rw [(K i (by omega)).2.1, rd97_set_ne _ _ _ _ (by omega) (by omega)]
      exact (rd97_set_ne _ _ _ _ (by omega) (by omega)).symm
    · rw [k3, ec, k1, k2]
/-- Prefix sums of what lies within 2^50. -/
def Sums (len : Int) (l : List Int) : Prop := ∀ a b : Int, 0 ≤ a → a ≤ b → b ≤ len → -((b - a) * 1125899906842624) ≤ rd l b - rd l a ∧ rd l b - rd l a ≤ (b - a) * 1125899906842624
structure Ln (len kerf pitch : Int) (sizes : List Int) (gain : List (List Int)) (cp dp : List Int) : Prop where
  len0 : 0 ≤ len
  len1 : len ≤ 2000
  kerf0 : 0 ≤ kerf
  kerf1 : kerf ≤ 20
  pitch0 : 1 ≤ pitch
  pitch1 : pitch ≤ 2000
  sz : ∀ i : Int, 0 ≤ i → i < sizes.length → 1 ≤ rd sizes i ∧ rd sizes i ≤ 2000
  ns : sizes.length ≤ 32
  ng : gain.length = sizes.length
  rows : ∀ i : Int, 0 ≤ i → i < sizes.length → ((rd_L1 gain i).length : Int) = mx 0 (len - rd sizes i + 1)
  g : ∀ i q : Int, 0 ≤ q → Fit len sizes gain i q → rd (rd_L1 gain i) q ≤ 1125899906842624
  c : Sums len cp
  d : Sums len dp
/-- What the values behind e keep to. -/
def Bd (len : Int) (V : Int → Int) (e : Int) : Prop := ∀ x : Int, e < x → x ≤ len → -((len - x) * 1125899906842624) ≤ V x ∧ V x ≤ (len - x) * 1125899906842624
variable {V : Int → Int}
theorem aft_bd (L : Ln len kerf pitch sizes gain cp dp) {i q : Int} (hf : Fit len sizes gain i q) (h0 : 0 ≤ q) (hb : Bd len V q) : -((len - q) * 1125899906842624) ≤ aft len kerf sizes gain dp V i q ∧ aft len kerf sizes gain dp V i q ≤ (len - q) * 1125899906842624 := by
  obtain ⟨f1, f2, f3, f4⟩ := hf
  have hs := (L.sz i f1 f2).1
  have hg := L.g i q h0 ⟨f1, f2, f3, f4⟩
  unfold aft
  split
  · rename_i hl
    have hm := mn_gt L.kerf0 hl hs
    have hd := L.d (q + rd sizes i) (mn (q + rd sizes i + kerf) len) (by omega) hm.2.1 hm.2.2
    have hv := hb _ hm.1 hm.2.2
    omega
  · omega
theorem atVal_eq (L : Ln len kerf pitch sizes gain cp dp) {best : List S97} {i q : Int} (hf : Fit len sizes gain i q) (h0 : 0 ≤ q) (hb : Bd len (fun x => (rd_T97 best x).f1) q) :
    atVal len kerf sizes gain dp best q i = aft len kerf sizes gain dp (fun x => (rd_T97 best x).f1) i q := by
  have hl1 := L.len1
  have h := aft_bd L hf h0 hb
  unfold aft at h ⊢
  unfold atVal
  split
  · rename_i hl
    rw [if_pos hl] at h
    simp only at h ⊢
    generalize rd dp (mn (q + rd sizes i + kerf) len) - rd dp (q + rd sizes i) = D at h ⊢
    generalize (rd_T97 best (mn (q + rd sizes i + kerf) len)).f1 = W at h ⊢
    generalize rd (rd_L1 gain i) q = g at h ⊢
    rw [wr_add', show g + (wrap64 D + W) = wrap64 D + (g + W) by omega, wr_add, show D + (g + W) = g + (D + W) by omega]
    exact IntWalk.wrap64_in _ (by omega)
  · rfl
theorem CM_zero {e : Int} {y : S97} : CM len kerf pitch sizes gain cp dp V e 0 y ↔ Fit len sizes gain y.f0.f0 e ∧ y.f0.f1 = e ∧ y.f1 = aft len kerf sizes gain dp V y.f0.f0 e := by
  unfold CM posM paidM
  rw [if_pos rfl, if_pos rfl, Int.zero_add]
  constructor
  · rintro ⟨h1, h2, h3⟩
    rw [h2] at h1 h3
    exact ⟨h1, h2, h3⟩
  · rintro ⟨h1, h2, h3⟩
    rw [h2]
    exact ⟨h1, rfl, h3⟩
theorem atN_top (L : Ln len kerf pitch sizes gain cp dp) {best : List S97} {e : Int} (h0 : 0 ≤ e) (hb : Bd len (fun x => (rd_T97 best x).f1) e) (n : Nat) (hn : n ≤ sizes.length) :
    TopO (fun y => CM len kerf pitch sizes gain cp dp (fun x => (rd_T97 best x).f1) e 0 y ∧ y.f0.f0 < (n : Int)) (atN len kerf sizes gain dp best e n) := by
  induction n with
  | zero => exact .empty fun y hy => by have := (CM_zero.mp hy.1).1.1; have := hy.2; omega
  | succ n ih =>
    rw [atN, atOne]
    by_cases hf : Fit len sizes gain n e
    · have hQ : TopO (fun y => CM len kerf pitch sizes gain cp dp (fun x => (rd_T97 best x).f1) e 0 y ∧ y.f0.f0 = (n : Int)) (⟨⟨(n : Int), e⟩, atVal len kerf sizes gain dp best e n⟩ : S97) := by
        refine .inr ⟨hf.1, ⟨CM_zero.mpr ⟨hf, rfl, atVal_eq L hf h0 hb⟩, rfl⟩, fun y hy => ?_⟩
        obtain ⟨h1, h2, h3⟩ := CM_zero.mp hy.1
        rw [hy.2, ← atVal_eq L hf h0 hb] at h3
        refine .inr ⟨h3, .inr ⟨h2.symm, ?_⟩⟩
        rw [hy.2]
        exact Int.le_refl _
      have := (ih (by omega)).or hQ (fun x y hx hy => .inr ⟨by rw [(CM_zero.mp hx.1).2.1, (CM_zero.mp hy.1).2.1], by have := hx.2; have := hy.2; omega⟩)
      rw [if_neg (by rintro (h | h); exact absurd hf.2.2.1 (by omega); exact absurd hf.2.2.2 (by omega))]
      have e1 : (⟨⟨(n : Int), e⟩, atVal len kerf sizes gain dp best e n⟩ : S97) ≠ noneC := not_noneC hf.1
      simp only [ne_eq, e1, not_false_eq_true, true_and] at this
      refine this.congr fun y => ?_
      constructor
      · rintro (h | h)
        · exact ⟨h.1, by have := h.2; omega⟩
        · exact ⟨h.1, by have := h.2; omega⟩
      · intro h
        by_cases e2 : y.f0.f0 = n
        · exact .inr ⟨h.1, e2⟩
        · exact .inl ⟨h.1, by have := h.2; omega⟩
    · rw [if_pos (by
        have : ¬ (e + rd sizes n ≤ len ∧ 0 ≤ rd (rd_L1 gain n) e) := fun h => hf ⟨by omega, by omega, h.1, h.2⟩
        omega)]
      refine (ih (by omega)).congr fun y => ?_
      constructor
      · intro h
        exact ⟨h.1, by have := h.2; omega⟩
      · intro h
        refine ⟨h.1, ?_⟩
        have h1 := (CM_zero.mp h.1).1
        have : y.f0.f0 ≠ n := fun e2 => hf (e2 ▸ h1)
        have := h.2
        omega
theorem mul_pos' {m p : Int} (hm : 1 ≤ m) (hp : 1 ≤ p) : p ≤ m * p ∧ (m + 1) * p = m * p + p ∧ m ≤ m * p := by
  have h1 : 0 ≤ (m - 1) * p := Int.mul_nonneg (by omega) (by omega)
  have h2 : 0 ≤ m * (p - 1) := Int.mul_nonneg (by omega) (by omega)
  rw [Int.sub_mul] at h1
  rw [Int.mul_sub] at h2
  rw [Int.add_mul]
  omega
/-- A candidate's value keeps to the bound, too; and it lies in the line. -/
theorem CM_bd (L : Ln len kerf pitch sizes gain cp dp) {e m : Int} {y : S97} (h0 : 0 ≤ e) (hm : 0 ≤ m) (hb : Bd len V e) (h : CM len kerf pitch sizes gain cp dp V e m y) :
    -((len - e) * 1125899906842624) ≤ y.f1 ∧ y.f1 ≤ (len - e) * 1125899906842624 ∧ e ≤ y.f0.f1 ∧ y.f0.f1 < len ∧ posM kerf pitch e m < len := by
  obtain ⟨h1, h2, h3⟩ := h
  have hs := (L.sz _ h1.1 h1.2.1).1
  have hq := h1.2.2.1
  have hk := L.kerf0
  by_cases e0 : m = 0
  · subst e0
    simp only [posM, paidM, if_true] at h2 h3 ⊢
    rw [h2] at h1 h3 hq
    have := aft_bd (cp := cp) (pitch := pitch) L h1 h0 hb
    omega
  · simp only [posM, paidM, if_neg e0] at h2 h3 ⊢
    have hp := (mul_pos' (m := m) (by omega) L.pitch0).1
    have hp0 := L.pitch0
    generalize m * pitch = z at hp h2 h3 ⊢
    have ha := aft_bd (cp := cp) (pitch := pitch) L h1 (by omega) (fun x hx hx' => hb x (by omega) hx')
    have hc := L.c e (e + z) h0 (by omega) (by omega)
    have hd := L.d (e + z) (e + z + kerf) (by omega) (by omega) (by omega)
    omega
theorem CM_one {e : Int} {y : S97} : CM len kerf pitch sizes gain cp dp V e 1 y ↔ CM len kerf pitch sizes gain cp dp V (e + pitch + kerf) 0 ⟨y.f0, y.f1 - (rd cp (e + pitch) - rd cp e + (rd dp (e + pitch + kerf) - rd dp (e + pitch)))⟩ := by
  unfold CM posM paidM
  rw [if_neg (by decide), if_neg (by decide), if_pos rfl, if_pos rfl, Int.one_mul]
  constructor
  · rintro ⟨h1, h2, h3⟩
    exact ⟨h1, h2, by simp only at *; omega⟩
  · rintro ⟨h1, h2, h3⟩
    exact ⟨h1, h2, by simp only at *; omega⟩
theorem CM_succ {e m : Int} {y : S97} (hm : 1 ≤ m) : CM len kerf pitch sizes gain cp dp V e (m + 1) y ↔ CM len kerf pitch sizes gain cp dp V (e + pitch) m ⟨y.f0, y.f1 - (rd cp (e + pitch) - rd cp e)⟩ := by
  unfold CM posM paidM
  rw [if_neg (by omega), if_neg (by omega), if_neg (by omega), if_neg (by omega), Int.add_mul, Int.one_mul, show e + (m * pitch + pitch) = e + pitch + m * pitch by omega]
  constructor
  · rintro ⟨h1, h2, h3⟩
    exact ⟨h1, h2, by simp only at *; omega⟩
  · rintro ⟨h1, h2, h3⟩
    exact ⟨h1, h2, by simp only at *; omega⟩
theorem CM_ahead (L : Ln len kerf pitch sizes gain cp dp) {e m n : Int} (hm : 0 ≤ m) (hn : m < n) {x y : S97} (hx : CM len kerf pitch sizes gain cp dp V e m x) (hy : CM len kerf pitch sizes gain cp dp V e n y) : Ahead x y := by
  refine .inl ?_
  rw [hx.2.1, hy.2.1]
  have hk := L.kerf0
  have hp := L.pitch0
  unfold posM
  rw [if_neg (show ¬ n = 0 by omega)]
  have h1 := (mul_pos' (m := n) (by omega) hp).1
  split
  · omega
  · have h2 := (mul_pos' (m := n - m) (by omega) hp).1
    rw [Int.sub_mul] at h2
    omega
theorem beh_top (L : Ln len kerf pitch sizes gain cp dp) {a b : List S97} {e : Int} (h0 : 0 ≤ e) (hb : Bd len V e)
    (ha : e + pitch + kerf ≤ len → TopO (CM len kerf pitch sizes gain cp dp V (e + pitch + kerf) 0) (rd_T97 a (e + pitch + kerf)))
    (hB : e + pitch ≤ len → TopO (fun y => ∃ m, 1 ≤ m ∧ CM len kerf pitch sizes gain cp dp V (e + pitch) m y) (rd_T97 b (e + pitch))) :
    TopO (fun y => ∃ m, 1 ≤ m ∧ CM len kerf pitch sizes gain cp dp V e m y) (behE len kerf pitch cp dp a b e) := by
  have hk := L.kerf0
  have hp := L.pitch0
  have hl1 := L.len1
  unfold behE
  by_cases hl : e + pitch ≤ len
  · rw [if_pos hl]
    have hcs := L.c e (e + pitch) h0 (by omega) hl
    -- the first waste
    have h1 : TopO (CM len kerf pitch sizes gain cp dp V e 1) (beh1 len kerf pitch cp dp a e) := by
      unfold beh1
      by_cases hl2 : e + pitch + kerf ≤ len
      · have := ((ha hl2).shift (rd cp (e + pitch) - rd cp e + (rd dp (e + pitch + kerf) - rd dp (e + pitch)))).congr (fun y => CM_one.symm)
        by_cases hn : rd_T97 a (e + pitch + kerf) = noneC
        · rw [if_pos hn] at this
          rw [if_neg (fun h => h.2 hn)]
          exact this
        · rw [if_neg hn] at this
          rw [if_pos ⟨hl2, hn⟩]
          have hv := CM_bd L (by omega) (by omega) (fun x hx hx' => hb x (by omega) hx') ((ha hl2).val hn).2
          have hds := L.d (e + pitch) (e + pitch + kerf) (by omega) (by omega) hl2
          rw [wr_add, show wrap64 (wrap64 (wrap64 (rd cp (e + pitch) - rd cp e) + rd dp (e + pitch + kerf)) - rd dp (e + pitch) + (rd_T97 a (e + pitch + kerf)).f1) = rd cp (e + pitch) - rd cp e + (rd dp (e + pitch + kerf) - rd dp (e + pitch)) + (rd_T97 a (e + pitch + kerf)).f1 by
            rw [wr_add, show wrap64 (rd cp (e + pitch) - rd cp e + rd dp (e + pitch + kerf)) - rd dp (e + pitch) + (rd_T97 a (e + pitch + kerf)).f1 = wrap64 (rd cp (e + pitch) - rd cp e + rd dp (e + pitch + kerf)) + ((rd_T97 a (e + pitch + kerf)).f1 - rd dp (e + pitch)) by omega, wr_add]
            rw [IntWalk.wrap64_in _ (by omega)]
            omega]
          exact this
      · rw [if_neg (fun h => hl2 h.1)]
        refine .empty fun y hy => ?_
        have := (CM_bd L h0 (by decide) hb hy).2.2.2.2
        unfold posM at this
        rw [if_neg (by decide), Int.one_mul] at this
        omega
    have h2 := ((hB hl).shift (rd cp (e + pitch) - rd cp e))
    have h3 := h1.or h2 (fun x y hx hy => by
      obtain ⟨m, hm, hy⟩ := hy
      exact CM_ahead L (by decide) (show 1 < m + 1 by omega) hx ((CM_succ hm).mpr hy))
    refine TopO.congr (P := fun y => CM len kerf pitch sizes gain cp dp V e 1 y ∨ ∃ m, 1 ≤ m ∧ CM len kerf pitch sizes gain cp dp V (e + pitch) m ⟨y.f0, y.f1 - (rd cp (e + pitch) - rd cp e)⟩) (fun y => ?_) ?_
    · constructor
      · rintro (h | ⟨m, hm, h⟩)
        · exact ⟨1, by decide, h⟩
        · exact ⟨m + 1, by omega, (CM_succ hm).mpr h⟩
      · rintro ⟨m, hm, h⟩
        by_cases e1 : m = 1
        · exact .inl (e1 ▸ h)
        · refine .inr ⟨m - 1, by omega, (CM_succ (by omega)).mp ?_⟩
          rw [show m - 1 + 1 = m by omega]
          exact h
    · by_cases hn : rd_T97 b (e + pitch) = noneC
      · rw [if_pos hn, if_neg (fun h => h.1 rfl)] at h3
        rw [if_neg (fun h => h.1 hn)]
        exact h3
      · obtain ⟨i0, m, hm, hc⟩ := (hB hl).val hn
        have hv := CM_bd L (by omega) (by omega) (fun x hx hx' => hb x (by omega) hx') hc
        have hw : wrap64 (wrap64 (rd cp (e + pitch) - rd cp e) + (rd_T97 b (e + pitch)).f1) = rd cp (e + pitch) - rd cp e + (rd_T97 b (e + pitch)).f1 := by
          rw [wr_add]
          exact IntWalk.wrap64_in _ (by omega)
        have e1 : (⟨(rd_T97 b (e + pitch)).f0, rd cp (e + pitch) - rd cp e + (rd_T97 b (e + pitch)).f1⟩ : S97) ≠ noneC := not_noneC i0
        rw [if_neg hn] at h3
        simp only [ne_eq, e1, not_false_eq_true, true_and] at h3
        rw [hw]
        simp only [ne_eq, hn, not_false_eq_true, true_and]
        exact h3
  · rw [if_neg hl]
    refine .empty fun y hy => ?_
    obtain ⟨m, hm, hy⟩ := hy
    have := (CM_bd L h0 (by omega) hb hy).2.2.2.2
    unfold posM at this
    rw [if_neg (by omega)] at this
    have := (mul_pos' hm hp).1
    omega
/-- What holds of the lists at e. -/
structure Spec (len kerf pitch : Int) (sizes : List Int) (gain : List (List Int)) (cp dp : List Int) (V : Int → Int) (r : Tri) (e : Int) : Prop where
  a : TopO (CM len kerf pitch sizes gain cp dp V e 0) (rd_T97 r.a e)
  b : TopO (fun y => ∃ m, 1 ≤ m ∧ CM len kerf pitch sizes gain cp dp V e m y) (rd_T97 r.b e)
  c : TopB (fun y => ∃ m, 0 ≤ m ∧ CM len kerf pitch sizes gain cp dp V e m y) (rd cp len - rd cp e) (rd_T97 r.c e)
  d : -((len - e) * 1125899906842624) ≤ (rd_T97 r.c e).f1 ∧ (rd_T97 r.c e).f1 ≤ (len - e) * 1125899906842624
theorem spec_at (L : Ln len kerf pitch sizes gain cp dp) {r : Tri} (hE : ∀ e : Int, 0 ≤ e → e ≤ len → Eqs len kerf pitch sizes gain cp dp r e) :
    ∀ (n : Nat) (e : Int), 0 ≤ e → e ≤ len → (len - e).toNat = n → Spec len kerf pitch sizes gain cp dp (fun x => (rd_T97 r.c x).f1) r e := by
  intro n
  induction n using Nat.strongRecOn with
  | ind n ih =>
    intro e h0 h1 hn
    have I : ∀ x : Int, e < x → x ≤ len → Spec len kerf pitch sizes gain cp dp (fun x => (rd_T97 r.c x).f1) r x := fun x hx hx' => ih (len - x).toNat (by omega) x (by omega) hx' rfl
    have hb : Bd len (fun x => (rd_T97 r.c x).f1) e := fun x hx hx' => (I x hx hx').d
    have E := hE e h0 h1
    have hk := L.kerf0
    have hp := L.pitch0
    have hl1 := L.len1
    have ta : TopO (CM len kerf pitch sizes gain cp dp (fun x => (rd_T97 r.c x).f1) e 0) (rd_T97 r.a e) := by
      rw [E.a]
      refine (atN_top L h0 hb sizes.length (Nat.le_refl _)).congr fun y => ⟨fun h => h.1, fun h => ⟨h, (CM_zero.mp h).1.2.1⟩⟩
    have tb : TopO (fun y => ∃ m, 1 ≤ m ∧ CM len kerf pitch sizes gain cp dp (fun x => (rd_T97 r.c x).f1) e m y) (rd_T97 r.b e) := by
      rw [E.b]
      exact beh_top L h0 hb (fun h => (I _ (by omega) h).a) (fun h => (I _ (by omega) h).b)
    have hc := L.c e len h0 h1 (Int.le_refl _)
    have tc : TopB (fun y => ∃ m, 0 ≤ m ∧ CM len kerf pitch sizes gain cp dp (fun x => (rd_T97 r.c x).f1) e m y) (rd cp len - rd cp e) (rd_T97 r.c e) := by
      rw [E.c]
      unfold bestE
      rw [IntWalk.wrap64_in _ (by omega)]
      have t0 : TopB (fun _ => False) (rd cp len - rd cp e) ⟨⟨-1, -1⟩, rd cp len - rd cp e⟩ := .inl ⟨rfl, fun _ h => h.elim⟩
      have t1 := t0.or ta (fun _ _ h => h.elim)
      have t2 := t1.or tb (fun x y hx hy => by
        obtain ⟨m, hm, hy⟩ := hy
        rcases hx with hx | hx
        · exact hx.elim
        · exact CM_ahead L (Int.le_refl _) (by omega) hx hy)
      refine t2.congr fun y => ?_
      constructor
      · rintro ((h | h) | ⟨m, hm, h⟩)
        · exact h.elim
        · exact ⟨0, Int.le_refl _, h⟩
        · exact ⟨m, by omega, h⟩
      · rintro ⟨m, hm, h⟩
        by_cases e1 : m = 0
        · exact .inl (.inr (e1 ▸ h))
        · exact .inr ⟨m, by omega, h⟩
    refine ⟨ta, tb, tc, ?_⟩
    rcases tc with ⟨c1, c2⟩ | ⟨c1, ⟨m, hm, c2⟩, c3⟩
    · rw [c1]
      exact hc
    · have := CM_bd L h0 hm hb c2
      exact ⟨this.1, this.2.1⟩
end
section
variable {len kerf pitch : Int} {sizes : List Int} {gain : List (List Int)} {cp dp : List Int}
/-- The best choice at e, as Best lists it. -/
def bestC (len kerf pitch : Int) (sizes : List Int) (gain : List (List Int)) (cp dp : List Int) (e : Int) : S97 := rd_T97 (bestL len kerf pitch sizes gain cp dp) e
def bestV (len kerf pitch : Int) (sizes : List Int) (gain : List (List Int)) (cp dp : List Int) (e : Int) : Int := (bestC len kerf pitch sizes gain cp dp e).f1
theorem best_top (L : Ln len kerf pitch sizes gain cp dp) (e : Int) (h0 : 0 ≤ e) (h1 : e ≤ len) :
    TopB (fun y => ∃ m, 0 ≤ m ∧ CM len kerf pitch sizes gain cp dp (bestV len kerf pitch sizes gain cp dp) e m y) (rd cp len - rd cp e) (bestC len kerf pitch sizes gain cp dp e) ∧ -((len - e) * 1125899906842624) ≤ bestV len kerf pitch sizes gain cp dp e ∧ bestV len kerf pitch sizes gain cp dp e ≤ (len - e) * 1125899906842624 := by
  have S := spec_at L (r := runT len kerf pitch sizes gain cp dp (len.toNat + 1) (startT len)) (fun e h0 h1 => by
    obtain ⟨n, rfl⟩ := Int.eq_ofNat_of_zero_le h0
    exact runT_eqs L.kerf0 L.pitch0 (fun i a b => (L.sz i a b).1) (len.toNat + 1) (startT len) (by simp [startT]) (by simp [startT]) (by simp [startT]) n (by omega)) _ e h0 h1 rfl
  exact ⟨S.c, S.d⟩
theorem best_bd (L : Ln len kerf pitch sizes gain cp dp) (e : Int) (h0 : -1 ≤ e) : Bd len (bestV len kerf pitch sizes gain cp dp) e := fun x hx hx' => (best_top L x (by omega) hx').2
end
end Go.Proofs.YtoaicheopcojoaaDoor.P
