import Derived.Test.YtoaicheopcojoaaDoorHCV
namespace Go.Proofs.YtoaicheopcojoaaDoor.P
open Go.RowKit Go.Proofs.YtoaicheopcojoaaDoorW.PrintWords Go.Proofs.YtoaicheopcojoaaDoorW.PrintLast Go.Proofs.YtoaicheopcojoaaDoorW.PrintMore
set_option linter.unusedVariables false
set_option linter.unusedSimpArgs false

/-! Value's plain law: both answer the sum of the gains, the dust and the chips. -/
def spanSum (l : List Int) (a : Int) : Nat → Int
  | 0 => 0
  | n + 1 => rd l a + spanSum l (a + 1) n
def spansSum (l : List Int) : List S49 → Int
  | [] => 0
  | s :: t => spanSum l s.f0 (s.f1 - s.f0).toNat + spansSum l t
def gainSum (gain : List (List Int)) : List S69 → Int
  | [] => 0
  | x :: t => rd (rd_L1 gain x.f0) x.f1 + gainSum gain t
def okSpan (len : Int) (s : S49) : Prop := 0 ≤ s.f0 ∧ s.f1 ≤ len
def okPiece (gain : List (List Int)) (x : S69) : Prop := 0 ≤ x.f0 ∧ x.f0 < (gain.length : Int) ∧ 0 ≤ x.f1 ∧ x.f1 < ((rd_L1 gain x.f0).length : Int)
theorem okSpan_add {len : Int} {l : List S49} {a b : Int} (h : ∀ s ∈ l, okSpan len s) (ha : 0 ≤ a) (hb : b ≤ len) : ∀ s ∈ addS l a b, okSpan len s := by
  unfold addS
  split
  · intro s hs
    rcases List.mem_append.1 hs with hs | hs
    · exact h s hs
    · rw [List.mem_singleton.1 hs]; exact ⟨ha, hb⟩
  · exact h
section
variable {len kerf pitch : Int} {sizes : List Int} {gain : List (List Int)} {chip dust : List Int}
/-- Where cuts goes through: spans in the line, pieces that there are. -/
theorem cutsL_ok (O : OkLine len kerf pitch sizes gain chip dust) : ∀ (p : List S69) (edge : Int) (en : Bool) (d c d' c' : List S49), 0 ≤ edge → edge ≤ len → (∀ s ∈ d, okSpan len s) → (∀ s ∈ c, okSpan len s) → cutsL len kerf pitch sizes gain p edge en d c = (d', c', 0) →
    (∀ s ∈ d', okSpan len s) ∧ (∀ s ∈ c', okSpan len s) ∧ d'.length ≤ d.length + 2 * p.length ∧ c'.length ≤ c.length + p.length + 1 ∧ ∀ x ∈ p, okPiece gain x
  | [], edge, en, d, c, d', c', h0, h1, hd, hc, h => by
    rw [cutsL] at h
    simp only [Prod.mk.injEq] at h
    obtain ⟨rfl, rfl, _⟩ := h
    have := addS_len c edge len
    exact ⟨hd, okSpan_add hc h0 (Int.le_refl _), by simp, by simp; omega, by simp⟩
  | x :: p, edge, en, d, c, d', c', h0, h1, hd, hc, h => by
    simp only [cutsL] at h
    split at h
    · simp at h
    split at h
    · simp at h
    split at h
    · simp at h
    split at h
    · simp at h
    rename_i c1 c2 c3 c4
    have hl0 := O.len0
    have hk0 := O.kerf0
    have hp0 := O.pitch0
    have c1a : 0 ≤ x.f0 := by omega
    have c1b : x.f0 < (sizes.length : Int) := by omega
    have hs := O.sizes0 x.f0 c1a c1b
    have hng := O.ngain
    have hrow := O.rows x.f0 c1a c1b
    have c2a : 0 ≤ x.f1 := by omega
    have c2b : x.f1 ≤ len - rd sizes x.f0 := by omega
    have hm0 : 0 ≤ mn (x.f1 + rd sizes x.f0 + kerf) len := by unfold mn; split <;> omega
    have hm1 : mn (x.f1 + rd sizes x.f0 + kerf) len ≤ len := by unfold mn; split <;> omega
    have hx : okPiece gain x := ⟨c1a, by omega, c2a, by rw [hrow]; unfold mx; split <;> omega⟩
    have c5 : x.f1 ≠ edge → 0 ≤ x.f1 - kerf := by
      intro e
      have : pitch ≤ x.f1 - kerf - edge := Classical.byContradiction fun hh => c3 (.inr ⟨e, .inl (by omega)⟩)
      omega
    clear c1 c2 c3 c4 hrow
    split at h
    · have a1 := addS_len d (x.f1 + rd sizes x.f0) (mn (x.f1 + rd sizes x.f0 + kerf) len)
      obtain ⟨r1, r2, r3, r4, r5⟩ := cutsL_ok O p _ _ _ _ _ _ hm0 hm1 (okSpan_add hd (by omega) hm1) hc h
      refine ⟨r1, r2, by simp; omega, by simp; omega, ?_⟩
      intro y hy
      rcases List.mem_cons.1 hy with rfl | hy
      · exact hx
      · exact r5 y hy
    · rename_i e
      have c6 := c5 e
      have a1 := addS_len d (x.f1 - kerf) x.f1
      have a2 := addS_len (addS d (x.f1 - kerf) x.f1) (x.f1 + rd sizes x.f0) (mn (x.f1 + rd sizes x.f0 + kerf) len)
      have a3 := addS_len c edge (x.f1 - kerf)
      obtain ⟨r1, r2, r3, r4, r5⟩ := cutsL_ok O p _ _ _ _ _ _ hm0 hm1 (okSpan_add (okSpan_add hd c6 (by omega)) (by omega) hm1) (okSpan_add hc h0 (by omega)) h
      refine ⟨r1, r2, by simp; omega, by simp; omega, ?_⟩
      intro y hy
      rcases List.mem_cons.1 hy with rfl | hy
      · exact hx
      · exact r5 y hy
end
theorem wrap_zero : wrap64 0 = 0 := by unfold wrap64; omega

/-! the specification's sums -/
theorem sum_l1 (l : List Int) (sp : List S49) (i : Nat) (hi : i < sp.length) (hs : sp.length ≤ 1000000) (hl : l.length ≤ 1000000) (ho : (sp[i]).f1 ≤ l.length) (res : Int) : ∀ (n : Nat) (x a : Int), 0 ≤ x → ((sp[i]).f1 - x).toNat = n →
    Ev (fun k => sawmillref17_sum.l0 k l sp (wrap64 (a + spanSum l x n)) ((i + 1 : Nat) : Int)) res → Ev (fun k => sawmillref17_sum.l1 k l sp (wrap64 a) (i : Int) x) res
  | 0, x, a, h0, hn, E => by
    refine Ev.step (fun k => ?_) E
    rw [sawmillref17_sum.l1, if_pos (by omega), if_pos (by omega), rd_T49_eq _ _ hi, if_neg (by omega), wr1 i sp.length hi (by omega), spanSum, Int.add_zero]
  | n + 1, x, a, h0, hn, E => by
    have := sum_l1 l sp i hi hs hl ho res n (x + 1) (a + rd l x) (by omega) (by omega) (by rw [Int.add_assoc]; exact E)
    refine Ev.step (fun k => ?_) this
    rw [sawmillref17_sum.l1, if_pos (by omega), if_pos (by omega), rd_T49_eq _ _ hi, if_pos (by omega), if_pos h0, if_pos (by omega), wrap_add, IntWalk.wrap64_in (x + 1) (by omega)]
theorem sum_l0 (l : List Int) (sp : List S49) (hs : sp.length ≤ 1000000) (hl : l.length ≤ 1000000) (ho : ∀ s ∈ sp, okSpan l.length s) : ∀ (j i : Nat) (a : Int), i + j = sp.length → Ev (fun k => sawmillref17_sum.l0 k l sp (wrap64 a) (i : Int)) (wrap64 (a + spansSum l (sp.drop i)))
  | 0, i, a, h => by
    rw [List.drop_eq_nil_of_le (by omega), spansSum, Int.add_zero]
    exact Ev.step (f := fun _ => some (wrap64 a)) (fun k => by rw [sawmillref17_sum.l0, if_neg (by omega)]) (Ev.now _)
  | j + 1, i, a, h => by
    have hi : i < sp.length := by omega
    have hok := ho _ (List.getElem_mem hi)
    rw [List.drop_eq_getElem_cons hi, spansSum, ← Int.add_assoc]
    refine Ev.step (fun k => by rw [sawmillref17_sum.l0, if_pos (by omega), if_pos (by omega), rd_T49_eq _ _ hi]) ?_
    exact sum_l1 l sp i hi hs hl hok.2 _ _ _ _ hok.1 rfl (sum_l0 l sp hs hl ho j (i + 1) _ (by omega))
theorem sum_ev (l : List Int) (sp : List S49) (hs : sp.length ≤ 1000000) (hl : l.length ≤ 1000000) (ho : ∀ s ∈ sp, okSpan l.length s) : Ev (fun k => sawmillref17_sum.f k l sp) (wrap64 (spansSum l sp)) := by
  have := sum_l0 l sp hs hl ho sp.length 0 0 (by omega)
  rw [List.drop_zero, Int.zero_add, wrap_zero] at this
  exact this
section
variable (len kerf pitch : Int) (sizes : List Int) (gain : List (List Int)) (chip dust : List Int)
theorem rval_l0 (p : List S69) (hp : p.length ≤ 1000000) (ho : ∀ x ∈ p, okPiece gain x) : ∀ (j i : Nat) (a : Int), i + j = p.length → Ev (fun k => sawmillref17_Value.l0 k p (wrap64 a) (i : Int) len kerf pitch sizes gain chip dust) (wrap64 (a + gainSum gain (p.drop i)), 0)
  | 0, i, a, h => by
    rw [List.drop_eq_nil_of_le (by omega), gainSum, Int.add_zero]
    exact Ev.step (f := fun _ => some (wrap64 a, 0)) (fun k => by rw [sawmillref17_Value.l0, if_neg (by omega)]) (Ev.now _)
  | j + 1, i, a, h => by
    have hi : i < p.length := by omega
    obtain ⟨h1, h2, h3, h4⟩ := ho _ (List.getElem_mem hi)
    rw [List.drop_eq_getElem_cons hi, gainSum, ← Int.add_assoc]
    refine Ev.step (fun k => ?_) (rval_l0 p hp ho j (i + 1) _ (by omega))
    rw [sawmillref17_Value.l0, if_pos (by omega), if_pos (by omega), rd_T69_eq _ _ hi, if_pos h1, if_pos h2, if_pos h3, if_pos h4, wrap_add, wr1 i p.length hi (by omega)]
/-! cutting.Value's loops -/
theorem val_l4 (sp : List S49) (i : Nat) (hi : i < sp.length) (hs : sp.length ≤ 1000000) (hl : chip.length ≤ 1000000) (ho : (sp[i]).f1 ≤ chip.length) (q0 : Int) (res : Int × Int) : ∀ (n : Nat) (x a : Int), 0 ≤ x → ((sp[i]).f1 - x).toNat = n →
    Ev (fun k => cutting_Value.l3 k (wrap64 (a + spanSum chip x n)) sp sp.length ((i + 1 : Nat) : Int) len kerf pitch sizes gain chip dust) res → Ev (fun k => cutting_Value.l4 k (wrap64 a) x sp sp.length (i : Int) len kerf pitch sizes gain chip dust q0 (sp[i]).f1) res
  | 0, x, a, h0, hn, E => by
    refine Ev.step (fun k => ?_) E
    rw [cutting_Value.l4, if_neg (by omega), wr1 i sp.length hi (by omega), spanSum, Int.add_zero]
  | n + 1, x, a, h0, hn, E => by
    have := val_l4 sp i hi hs hl ho q0 res n (x + 1) (a + rd chip x) (by omega) (by omega) (by rw [Int.add_assoc]; exact E)
    refine Ev.step (fun k => ?_) this
    rw [cutting_Value.l4, if_pos (by omega), if_pos h0, if_pos (by omega), wrap_add, IntWalk.wrap64_in (x + 1) (by omega)]
theorem val_l3 (sp : List S49) (hs : sp.length ≤ 1000000) (hl : chip.length ≤ 1000000) (ho : ∀ s ∈ sp, okSpan chip.length s) : ∀ (j i : Nat) (a : Int), i + j = sp.length → Ev (fun k => cutting_Value.l3 k (wrap64 a) sp sp.length (i : Int) len kerf pitch sizes gain chip dust) (wrap64 (a + spansSum chip (sp.drop i)), 0)
  | 0, i, a, h => by
    rw [List.drop_eq_nil_of_le (by omega), spansSum, Int.add_zero]
    exact Ev.step (f := fun _ => some (wrap64 a, 0)) (fun k => by rw [cutting_Value.l3, if_neg (by omega)]) (Ev.now _)
  | j + 1, i, a, h => by
    have hi : i < sp.length := by omega
    have hok := ho _ (List.getElem_mem hi)
    rw [List.drop_eq_getElem_cons hi, spansSum, ← Int.add_assoc]
    refine Ev.step (fun k => by rw [cutting_Value.l3, if_pos (by omega), if_pos (by omega), if_pos (by omega), rd_T49_eq _ _ hi]) ?_
    exact val_l4 len kerf pitch sizes gain chip dust sp i hi hs hl hok.2 _ _ _ _ _ hok.1 rfl (val_l3 sp hs hl ho j (i + 1) _ (by omega))
theorem val_l2 (cs : List S49) (sp : List S49) (i : Nat) (hi : i < sp.length) (hs : sp.length ≤ 1000000) (hl : dust.length ≤ 1000000) (ho : (sp[i]).f1 ≤ dust.length) (q0 : Int) (res : Int × Int) : ∀ (n : Nat) (x a : Int), 0 ≤ x → ((sp[i]).f1 - x).toNat = n →
    Ev (fun k => cutting_Value.l1 k cs (wrap64 (a + spanSum dust x n)) sp sp.length ((i + 1 : Nat) : Int) len kerf pitch sizes gain chip dust) res → Ev (fun k => cutting_Value.l2 k cs (wrap64 a) x sp sp.length (i : Int) len kerf pitch sizes gain chip dust q0 (sp[i]).f1) res
  | 0, x, a, h0, hn, E => by
    refine Ev.step (fun k => ?_) E
    rw [cutting_Value.l2, if_neg (by omega), wr1 i sp.length hi (by omega), spanSum, Int.add_zero]
  | n + 1, x, a, h0, hn, E => by
    have := val_l2 cs sp i hi hs hl ho q0 res n (x + 1) (a + rd dust x) (by omega) (by omega) (by rw [Int.add_assoc]; exact E)
    refine Ev.step (fun k => ?_) this
    rw [cutting_Value.l2, if_pos (by omega), if_pos h0, if_pos (by omega), wrap_add, IntWalk.wrap64_in (x + 1) (by omega)]
theorem val_l1 (cs : List S49) (hcs : cs.length ≤ 1000000) (hcl : chip.length ≤ 1000000) (hco : ∀ s ∈ cs, okSpan chip.length s) (sp : List S49) (hs : sp.length ≤ 1000000) (hl : dust.length ≤ 1000000) (ho : ∀ s ∈ sp, okSpan dust.length s) : ∀ (j i : Nat) (a : Int), i + j = sp.length → Ev (fun k => cutting_Value.l1 k cs (wrap64 a) sp sp.length (i : Int) len kerf pitch sizes gain chip dust) (wrap64 (a + spansSum dust (sp.drop i) + spansSum chip cs), 0)
  | 0, i, a, h => by
    rw [List.drop_eq_nil_of_le (by omega), spansSum, Int.add_zero]
    refine Ev.step (fun k => by rw [cutting_Value.l1, if_neg (by omega)]) ?_
    exact val_l3 len kerf pitch sizes gain chip dust cs hcs hcl hco cs.length 0 a (by omega)
  | j + 1, i, a, h => by
    have hi : i < sp.length := by omega
    have hok := ho _ (List.getElem_mem hi)
    rw [List.drop_eq_getElem_cons hi, spansSum, ← Int.add_assoc]
    refine Ev.step (fun k => by rw [cutting_Value.l1, if_pos (by omega), if_pos (by omega), if_pos (by omega), rd_T49_eq _ _ hi]) ?_
    exact val_l2 len kerf pitch sizes gain chip dust cs sp i hi hs hl hok.2 _ _ _ _ _ hok.1 rfl (val_l1 cs hcs hcl hco sp hs hl ho j (i + 1) _ (by omega))
theorem val_l0 (ds cs : List S49) (hcs : cs.length ≤ 1000000) (hcl : chip.length ≤ 1000000) (hco : ∀ s ∈ cs, okSpan chip.length s) (hds : ds.length ≤ 1000000) (hdl : dust.length ≤ 1000000) (hdo : ∀ s ∈ ds, okSpan dust.length s) (p : List S69) (hp : p.length ≤ 1000000) (ho : ∀ x ∈ p, okPiece gain x) : ∀ (j i : Nat) (a : Int), i + j = p.length →
    Ev (fun k => cutting_Value.l0 k ds cs (wrap64 a) p p.length (i : Int) len kerf pitch sizes gain chip dust) (wrap64 (a + gainSum gain (p.drop i) + spansSum dust ds + spansSum chip cs), 0)
  | 0, i, a, h => by
    rw [List.drop_eq_nil_of_le (by omega), gainSum, Int.add_zero]
    refine Ev.step (fun k => by rw [cutting_Value.l0, if_neg (by omega)]) ?_
    exact val_l1 len kerf pitch sizes gain chip dust cs hcs hcl hco ds hds hdl hdo ds.length 0 a (by omega)
  | j + 1, i, a, h => by
    have hi : i < p.length := by omega
    obtain ⟨h1, h2, h3, h4⟩ := ho _ (List.getElem_mem hi)
    rw [List.drop_eq_getElem_cons hi, gainSum, ← Int.add_assoc]
    refine Ev.step (fun k => ?_) (val_l0 ds cs hcs hcl hco hds hdl hdo p hp ho j (i + 1) _ (by omega))
    rw [cutting_Value.l0, if_pos (by omega), if_pos (by omega), if_pos (by omega), rd_T69_eq _ _ hi, if_pos h1, if_pos h2, if_pos h3, if_pos h4, wrap_add, wr1 i p.length hi (by omega)]
/-- What both Values answer. -/
def valR (p : List S69) : Int × Int :=
  let r := cutsR len kerf pitch sizes gain chip dust p
  if r.2.2 = 0 then (wrap64 (gainSum gain p + spansSum dust r.1 + spansSum chip r.2.1), 0) else (0, r.2.2)
theorem cutsR_ok (p : List S69) (hp : p.length ≤ 300) (h : (cutsR len kerf pitch sizes gain chip dust p).2.2 = 0) : OkLine len kerf pitch sizes gain chip dust ∧
    (∀ s ∈ (cutsR len kerf pitch sizes gain chip dust p).1, okSpan len s) ∧ (∀ s ∈ (cutsR len kerf pitch sizes gain chip dust p).2.1, okSpan len s) ∧ (cutsR len kerf pitch sizes gain chip dust p).1.length ≤ 600 ∧ (cutsR len kerf pitch sizes gain chip dust p).2.1.length ≤ 301 ∧ ∀ x ∈ p, okPiece gain x := by
  by_cases hc : checkL len kerf pitch sizes gain chip dust = 0
  · have O := (okLine_iff _ _ _ _ _ _ _).mp hc
    have e : cutsR len kerf pitch sizes gain chip dust p = cutsL len kerf pitch sizes gain p 0 false [] [] := by rw [cutsR, if_pos hc]
    rw [e] at h ⊢
    obtain ⟨⟨d, c, z⟩, t⟩ : ∃ r, cutsL len kerf pitch sizes gain p 0 false [] [] = r := ⟨_, rfl⟩
    rw [t] at h
    obtain rfl : z = 0 := h
    rw [t]
    obtain ⟨r1, r2, r3, r4, r5⟩ := cutsL_ok O p 0 false [] [] d c (Int.le_refl _) O.len0 (by simp) (by simp) t
    simp at r3 r4
    exact ⟨O, r1, r2, by simp; omega, by simp; omega, r5⟩
  · exfalso
    rw [cutsR, if_neg hc] at h
    exact hc h
theorem rval_ev (p : List S69) (hp : p.length ≤ 300) : Ev (fun k => sawmillref17_Value.f k len kerf pitch sizes gain chip dust p) (valR len kerf pitch sizes gain chip dust p) := by
  unfold sawmillref17_Value.f valR
  refine Ev.bind (rcuts_ev len kerf pitch sizes gain chip dust p hp) ?_
  by_cases h : (cutsR len kerf pitch sizes gain chip dust p).2.2 = 0
  · simp only [h, if_true]
    obtain ⟨O, r1, r2, r3, r4, r5⟩ := cutsR_ok len kerf pitch sizes gain chip dust p hp h
    have h1 := O.nchip
    have h2 := O.ndust
    have h3 := O.len1
    refine Ev.bind (sum_ev dust _ (by omega) (by omega) (by rw [h2]; exact r1)) ?_
    refine Ev.bind (sum_ev chip _ (by omega) (by omega) (by rw [h1]; exact r2)) ?_
    have := rval_l0 len kerf pitch sizes gain chip dust p (by omega) r5 p.length 0 (spansSum dust (cutsR len kerf pitch sizes gain chip dust p).1 + wrap64 (spansSum chip (cutsR len kerf pitch sizes gain chip dust p).2.1)) (by omega)
    rw [List.drop_zero] at this
    rw [wrap_add]
    have e : wrap64 (spansSum dust (cutsR len kerf pitch sizes gain chip dust p).1 + wrap64 (spansSum chip (cutsR len kerf pitch sizes gain chip dust p).2.1) + gainSum gain p) = wrap64 (gainSum gain p + spansSum dust (cutsR len kerf pitch sizes gain chip dust p).1 + spansSum chip (cutsR len kerf pitch sizes gain chip dust p).2.1) := by
      rw [show spansSum dust (cutsR len kerf pitch sizes gain chip dust p).1 + wrap64 (spansSum chip (cutsR len kerf pitch sizes gain chip dust p).2.1) + gainSum gain p = wrap64 (spansSum chip (cutsR len kerf pitch sizes gain chip dust p).2.1) + (spansSum dust (cutsR len kerf pitch sizes gain chip dust p).1 + gainSum gain p) from by omega, wrap_add]
      congr 1
      omega
    rw [e] at this
    exact this
  · simp only [h, if_false]
    exact Ev.now _
theorem val_ev (p : List S69) (hp : p.length ≤ 300) (hw : ∀ x ∈ p, (Lit.int .i64 x.f0).wf = true ∧ (Lit.int .i64 x.f1).wf = true) : Ev (fun k => cutting_Value.f k len kerf pitch sizes gain chip dust p) (valR len kerf pitch sizes gain chip dust p) := by
  unfold cutting_Value.f valR
  refine Ev.bind (cuts_ev len kerf pitch sizes gain chip dust p (by omega) hw) ?_
  by_cases h : (cutsR len kerf pitch sizes gain chip dust p).2.2 = 0
  · simp only [h, if_true]
    obtain ⟨O, r1, r2, r3, r4, r5⟩ := cutsR_ok len kerf pitch sizes gain chip dust p hp h
    have h1 := O.nchip
    have h2 := O.ndust
    have h3 := O.len1
    have := val_l0 len kerf pitch sizes gain chip dust (cutsR len kerf pitch sizes gain chip dust p).1 (cutsR len kerf pitch sizes gain chip dust p).2.1 (by omega) (by omega) (by rw [h1]; exact r2) (by omega) (by omega) (by rw [h2]; exact r1) p (by omega) r5 p.length 0 0 (by omega)
    rw [List.drop_zero, wrap_zero, Int.zero_add] at this
    exact this
  · simp only [h, if_false]
    exact Ev.now _
end
end Go.Proofs.YtoaicheopcojoaaDoor.P
