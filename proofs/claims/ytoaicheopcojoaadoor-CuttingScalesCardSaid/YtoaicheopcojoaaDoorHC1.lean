import Derived.Test.YtoaicheopcojoaaDoorF19
import Derived.Test.YtoaicheopcojoaaDoorF20
namespace Go.Proofs.YtoaicheopcojoaaDoor.P
open Go.RowKit Go.Proofs.YtoaicheopcojoaaDoorW.PrintWords Go.Proofs.YtoaicheopcojoaaDoorW.PrintLast Go.Proofs.YtoaicheopcojoaaDoorW.PrintMore
set_option linter.unusedVariables false
set_option linter.unusedSimpArgs false

/-! What a line's Check answers, in plain words; both Checks answer so. -/
def okS (s : Int) : Bool := decide (1 ≤ s) && decide (s ≤ 2000)
def okG (g : Int) : Bool := decide (-1125899906842624 ≤ g) && decide (g ≤ 1125899906842624)
/-- The rows' lengths, from the i-th size on. -/
def rowsOk (len : Int) (sizes : List Int) (gain : List (List Int)) : Nat → Nat → Bool
  | _, 0 => true
  | i, j + 1 => decide (((rd_L1 gain i).length : Int) = mx 0 (len - rd sizes i + 1)) && rowsOk len sizes gain (i + 1) j
def headL (len kerf pitch : Int) (sizes : List Int) : Int :=
  if ¬ (0 ≤ len ∧ len ≤ 2000 ∧ 0 ≤ kerf ∧ kerf ≤ 20 ∧ 1 ≤ pitch ∧ pitch ≤ 2000) then 9 else
  if 32 < sizes.length then 4 else if sizes.all okS then 0 else 9
def checkL (len kerf pitch : Int) (sizes : List Int) (gain : List (List Int)) (chip dust : List Int) : Int :=
  if headL len kerf pitch sizes ≠ 0 then headL len kerf pitch sizes else
  if ¬ (gain.length = sizes.length ∧ (chip.length : Int) = len ∧ (dust.length : Int) = len) then 19 else
  if rowsOk len sizes gain 0 gain.length then (if chip.all okG && dust.all okG && gain.all (fun r => r.all okG) then 0 else 9) else 19

theorem rd_eq (l : List Int) (i : Nat) (h : i < l.length) : rd l (i : Int) = l[i] := by simp [rd, h]
theorem rd_L1_eq (l : List (List Int)) (i : Nat) (h : i < l.length) : rd_L1 l (i : Int) = l[i] := by simp [rd_L1, h]
theorem wr1 (i n : Nat) (h : i < n) (hn : n < 1000000000000000000) : wrap64 ((i : Int) + 1) = ((i + 1 : Nat) : Int) := by rw [IntWalk.wrap64_in _ (by omega)]; rfl
theorem inRange_eq (a b c : Int) : cutting_inRange.f a b c = some (decide (b ≤ a) && decide (a ≤ c)) := by
  unfold cutting_inRange.f
  split <;> simp [*]
theorem all_drop {α : Type} (p : α → Bool) (l : List α) (i : Nat) (h : i < l.length) : (l.drop i).all p = (p l[i] && (l.drop (i + 1)).all p) := by
  rw [List.drop_eq_getElem_cons h, List.all_cons]
theorem head_l0 (l : List Int) (hn : l.length < 1000000000000000000) : ∀ j i : Nat, i + j = l.length → Ev (fun k => cutting_head.l0 k l l.length (i : Int)) (if (l.drop i).all okS then 0 else 9)
  | 0, i, h => by
    refine Ev.step (f := fun _ => some 0) (fun k => by rw [cutting_head.l0, if_neg (by omega)]) ?_
    rw [List.drop_eq_nil_of_le (by omega)]
    exact Ev.now 0
  | j + 1, i, h => by
    have hi : i < l.length := by omega
    rw [all_drop _ _ _ hi]
    have hs : ∀ k, cutting_head.l0 (k + 1) l l.length (i : Int) = if okS l[i] = true then cutting_head.l0 k l l.length ((i + 1 : Nat) : Int) else some 9 := by
      intro k
      rw [cutting_head.l0, if_pos (by omega), if_pos (by omega), if_pos (by omega), inRange_eq, rd_eq _ _ hi, wr1 _ _ hi hn]
      rfl
    refine Ev.step hs ?_
    by_cases ho : okS l[i] = true
    · simp only [ho, if_true, Bool.true_and]
      exact head_l0 l hn j (i + 1) (by omega)
    · rw [Bool.not_eq_true] at ho
      simp only [ho, Bool.false_eq_true, if_false, Bool.false_and]
      exact Ev.now 9
theorem head_j0 (len kerf pitch : Int) (sizes : List Int) (gain : List (List Int)) (chip dust : List Int) (b : Bool) : Ev (fun k => cutting_head.j0 k b len kerf pitch sizes gain chip dust) (if b = true then 9 else if 32 < sizes.length then 4 else if sizes.all okS then 0 else 9) := by
  refine Ev.step (fun k => by rw [cutting_head.j0]) ?_
  cases b
  · simp only [Bool.false_eq_true, if_false]
    by_cases h : 32 < sizes.length
    · rw [if_pos h]
      exact Ev.congr (fun k => if_pos (by omega)) (Ev.now 4)
    · rw [if_neg h]
      refine Ev.congr (fun k => if_neg (by omega)) ?_
      have := head_l0 sizes (by omega) sizes.length 0 (by omega)
      rw [List.drop_zero] at this
      exact this
  · simp only [if_true]
    exact Ev.now 9
theorem head_ev (len kerf pitch : Int) (sizes : List Int) (gain : List (List Int)) (chip dust : List Int) : Ev (fun k => cutting_head.f k len kerf pitch sizes gain chip dust) (headL len kerf pitch sizes) := by
  unfold cutting_head.f headL
  simp only [inRange_eq, Option.bind_some]
  have h9 := head_j0 len kerf pitch sizes gain chip dust true
  simp only [if_true] at h9
  by_cases h1 : 0 ≤ len ∧ len ≤ 2000
  · by_cases h2 : 0 ≤ kerf ∧ kerf ≤ 20
    · have hb := head_j0 len kerf pitch sizes gain chip dust (!(decide (1 ≤ pitch) && decide (pitch ≤ 2000)))
      simp only [h1.1, h1.2, h2.1, h2.2, decide_true, Bool.and_true, if_true, true_and]
      by_cases h3 : 1 ≤ pitch ∧ pitch ≤ 2000
      · rw [if_neg (fun h => h h3)]
        simp only [h3.1, h3.2, decide_true, Bool.and_true, Bool.not_true, Bool.false_eq_true, if_false] at hb ⊢
        exact hb
      · rw [if_pos h3]
        have : (decide (1 ≤ pitch) && decide (pitch ≤ 2000)) = false := by
          rw [Bool.eq_false_iff]; intro h; simp at h; exact h3 h
        simp only [this, Bool.not_false, if_true] at hb ⊢
        exact hb
    · have : (decide (0 ≤ kerf) && decide (kerf ≤ 20)) = false := by
        rw [Bool.eq_false_iff]; intro h; simp at h; exact h2 h
      rw [if_pos (by rintro ⟨_, _, h, h', _⟩; exact h2 ⟨h, h'⟩)]
      simp only [h1.1, h1.2, decide_true, Bool.and_true, if_true, this, Bool.false_eq_true, if_false]
      exact h9
  · have : (decide (0 ≤ len) && decide (len ≤ 2000)) = false := by
      rw [Bool.eq_false_iff]; intro h; simp at h; exact h1 h
    rw [if_pos (by rintro ⟨h, h', _⟩; exact h1 ⟨h, h'⟩)]
    simp only [this, Bool.false_eq_true, if_false]
    exact h9
theorem headL_zero {len kerf pitch : Int} {sizes : List Int} (h : headL len kerf pitch sizes = 0) : 0 ≤ len ∧ len ≤ 2000 ∧ 0 ≤ kerf ∧ kerf ≤ 20 ∧ 1 ≤ pitch ∧ pitch ≤ 2000 ∧ sizes.length ≤ 32 ∧ sizes.all okS = true := by
  unfold headL at h
  split at h
  · cases h
  · rename_i h1
    split at h
    · cases h
    · split at h
      · rename_i h2 h3
        have := Classical.not_not.mp h1
        exact ⟨this.1, this.2.1, this.2.2.1, this.2.2.2.1, this.2.2.2.2.1, this.2.2.2.2.2, by omega, h3⟩
      · cases h

/-! cutting.Check -/
theorem check_l2 (rows : List (List Int)) (i : Int) (r : List Int) (hn : r.length < 1000000000000000000) (res : Int) (E : Ev (fun k => cutting_Check.l1 k rows rows.length (wrap64 (i + 1))) res) :
    ∀ j p : Nat, p + j = r.length → Ev (fun k => cutting_Check.l2 k rows rows.length i r r.length (p : Int)) (if (r.drop p).all okG then res else 9)
  | 0, p, h => by
    refine Ev.step (fun k => by rw [cutting_Check.l2, if_neg (by omega)]) ?_
    rw [List.drop_eq_nil_of_le (by omega)]
    exact E
  | j + 1, p, h => by
    have hp : p < r.length := by omega
    rw [all_drop _ _ _ hp]
    have hs : ∀ k, cutting_Check.l2 (k + 1) rows rows.length i r r.length (p : Int) = if okG r[p] = true then cutting_Check.l2 k rows rows.length i r r.length ((p + 1 : Nat) : Int) else some 9 := by
      intro k
      rw [cutting_Check.l2, if_pos (by omega), if_pos (by omega), if_pos (by omega), inRange_eq, rd_eq _ _ hp, wr1 _ _ hp hn]
      rfl
    refine Ev.step hs ?_
    by_cases ho : okG r[p] = true
    · simp only [ho, if_true, Bool.true_and]
      exact check_l2 rows i r hn res E j (p + 1) (by omega)
    · rw [Bool.not_eq_true] at ho
      simp only [ho, Bool.false_eq_true, if_false, Bool.false_and]
      exact Ev.now 9
theorem check_l1 (rows : List (List Int)) (hn : rows.length < 1000000000000000000) (hr : ∀ r ∈ rows, r.length < 1000000000000000000) :
    ∀ j i : Nat, i + j = rows.length → Ev (fun k => cutting_Check.l1 k rows rows.length (i : Int)) (if (rows.drop i).all (fun r => r.all okG) then 0 else 9)
  | 0, i, h => by
    refine Ev.step (f := fun _ => some 0) (fun k => by rw [cutting_Check.l1, if_neg (by omega)]) ?_
    rw [List.drop_eq_nil_of_le (by omega)]
    exact Ev.now 0
  | j + 1, i, h => by
    have hi : i < rows.length := by omega
    rw [all_drop _ _ _ hi]
    have hs : ∀ k, cutting_Check.l1 (k + 1) rows rows.length (i : Int) = cutting_Check.l2 k rows rows.length (i : Int) rows[i] rows[i].length 0 := by
      intro k
      rw [cutting_Check.l1, if_pos (by omega), if_pos (by omega), if_pos (by omega), rd_L1_eq _ _ hi]
    refine Ev.step hs ?_
    have := check_l2 rows (i : Int) rows[i] (hr _ (List.getElem_mem hi)) _ (by rw [wr1 _ _ hi hn]; exact check_l1 rows hn hr j (i + 1) (by omega)) rows[i].length 0 (by omega)
    rw [List.drop_zero] at this
    cases hb : rows[i].all okG <;> simp only [hb, Bool.false_eq_true, if_false, if_true, Bool.false_and, Bool.true_and] at this ⊢ <;> exact this
theorem check_l0 (len kerf pitch : Int) (sizes : List Int) (gain : List (List Int)) (chip dust : List Int) (hl0 : 0 ≤ len) (hl : len ≤ 2000) (hns : sizes.length ≤ 32) (hS : sizes.all okS = true) (hg : gain.length = sizes.length) (hc : (chip.length : Int) = len) (hd : (dust.length : Int) = len)
    (hrows : ∀ q : Nat, q < gain.length → ((rd_L1 gain q).length : Int) = mx 0 (len - rd sizes q + 1) ∨ True) :
    ∀ j i : Nat, i + j = gain.length → (∀ q : Nat, q < i → ((rd_L1 gain q).length : Int) = mx 0 (len - rd sizes q + 1)) →
      Ev (fun k => cutting_Check.l0 k gain gain.length (i : Int) len kerf pitch sizes gain chip dust) (if rowsOk len sizes gain i j then (if chip.all okG && dust.all okG && gain.all (fun r => r.all okG) then 0 else 9) else 19)
  | 0, i, h, hq => by
    have hb : ∀ r ∈ ([chip, dust] ++ gain), r.length < 1000000000000000000 := by
      intro r hr
      simp only [List.cons_append, List.nil_append, List.mem_cons] at hr
      rcases hr with rfl | rfl | hr
      · omega
      · omega
      · obtain ⟨q, hq1, rfl⟩ := List.getElem_of_mem hr
        have := hq q (by omega)
        rw [rd_L1_eq _ _ hq1] at this
        have hs : okS (rd sizes q) = true := by rw [rd_eq _ _ (by omega)]; exact List.all_eq_true.mp hS _ (List.getElem_mem _)
        simp only [okS, Bool.and_eq_true, decide_eq_true_eq] at hs
        unfold mx at this
        split at this <;> omega
    have E := check_l1 ([chip, dust] ++ gain) (by simp; omega) hb ([chip, dust] ++ gain).length 0 (by omega)
    refine Ev.step (f := fun k => cutting_Check.l1 k ([chip, dust] ++ gain) ([chip, dust] ++ gain).length 0) (fun k => ?_) ?_
    · rw [cutting_Check.l0, if_neg (by omega), Option.bind_some, if_pos (by simp; omega), Option.bind_some]
    · rw [List.drop_zero] at E
      simp only [rowsOk, if_true]
      simpa [Bool.and_assoc] using E
  | j + 1, i, h, hq => by
    have hi : i < gain.length := by omega
    have hi2 : i < sizes.length := by omega
    have hs : okS (rd sizes i) = true := by rw [rd_eq _ _ hi2]; exact List.all_eq_true.mp hS _ (List.getElem_mem _)
    simp only [okS, Bool.and_eq_true, decide_eq_true_eq] at hs
    have hw : wrap64 (wrap64 (len - rd sizes i) + 1) = len - rd sizes i + 1 := by
      rw [IntWalk.wrap64_in (len - rd sizes i) (by omega), IntWalk.wrap64_in _ (by omega)]
    have hs : ∀ k, cutting_Check.l0 (k + 1) gain gain.length (i : Int) len kerf pitch sizes gain chip dust = if ((rd_L1 gain i).length : Int) = mx 0 (len - rd sizes i + 1) then cutting_Check.l0 k gain gain.length ((i + 1 : Nat) : Int) len kerf pitch sizes gain chip dust else some 19 := by
      intro k
      rw [cutting_Check.l0, if_pos (by omega), if_pos (by omega), if_pos (by omega), if_pos (by omega), hw, wr1 _ _ hi (by omega)]
    refine Ev.step hs ?_
    rw [rowsOk]
    by_cases hr : ((rd_L1 gain i).length : Int) = mx 0 (len - rd sizes i + 1)
    · simp only [hr, if_true, decide_true, Bool.true_and]
      refine check_l0 len kerf pitch sizes gain chip dust hl0 hl hns hS hg hc hd hrows j (i + 1) (by omega) ?_
      intro q hq1
      by_cases e : q = i
      · subst e; exact hr
      · exact hq q (by omega)
    · simp only [hr, if_false, decide_false, Bool.false_and, Bool.false_eq_true]
      exact Ev.now 19
theorem check_ev (len kerf pitch : Int) (sizes : List Int) (gain : List (List Int)) (chip dust : List Int) : Ev (fun k => cutting_Check.f k len kerf pitch sizes gain chip dust) (checkL len kerf pitch sizes gain chip dust) := by
  unfold cutting_Check.f checkL
  refine Ev.bind (head_ev len kerf pitch sizes gain chip dust) ?_
  by_cases h0 : headL len kerf pitch sizes = 0
  · obtain ⟨h1, h2, h3, h4, h5, h6, h7, h8⟩ := headL_zero h0
    simp only [h0, if_true, ne_eq, not_true_eq_false, if_false]
    have h19 : Ev (fun k => cutting_Check.j0 k true len kerf pitch sizes gain chip dust) 19 := Ev.step (f := fun _ => some 19) (fun k => by rw [cutting_Check.j0]; rfl) (Ev.now 19)
    by_cases hg : gain.length = sizes.length
    · by_cases hc : (chip.length : Int) = len
      · by_cases hd : (dust.length : Int) = len
        · rw [if_neg (fun h => h ⟨hg, hc, hd⟩)]
          refine Ev.congr (fun k => by rw [if_pos (by omega), if_pos hc]) ?_
          refine Ev.step (f := fun k => cutting_Check.l0 k gain gain.length ((0 : Nat) : Int) len kerf pitch sizes gain chip dust) (fun k => ?_) ?_
          · rw [cutting_Check.j0, if_neg (by simp [hd])]; rfl
          · exact check_l0 len kerf pitch sizes gain chip dust h1 h2 h7 h8 hg hc hd (fun _ _ => .inr trivial) gain.length 0 (by omega) (fun q hq => by omega)
        · rw [if_pos (fun h => hd h.2.2)]
          refine Ev.congr (fun k => by rw [if_pos (by omega), if_pos hc, show ((dust.length : Int) != len) = true from bne_iff_ne.mpr hd]) h19
      · rw [if_pos (fun h => hc h.2.1)]
        exact Ev.congr (fun k => by rw [if_pos (by omega), if_neg hc]) h19
    · rw [if_pos (fun h => hg h.1)]
      exact Ev.congr (fun k => by rw [if_neg (by omega)]) h19
  · simp only [h0, if_false, ne_eq, not_false_eq_true, if_true]
    exact Ev.now _

/-! sawmillref17.Check -/
theorem small_l0 (l : List Int) (hn : l.length < 1000000000000000000) : ∀ j i : Nat, i + j = l.length → Ev (fun k => sawmillref17_small.l0 k l (i : Int)) ((l.drop i).all okG)
  | 0, i, h => by
    refine Ev.step (f := fun _ => some true) (fun k => by rw [sawmillref17_small.l0, if_neg (by omega)]) ?_
    rw [List.drop_eq_nil_of_le (by omega)]
    exact Ev.now true
  | j + 1, i, h => by
    have hi : i < l.length := by omega
    rw [all_drop _ _ _ hi]
    have hs : ∀ k, sawmillref17_small.l0 (k + 1) l (i : Int) = if okG l[i] = true then sawmillref17_small.l0 k l ((i + 1 : Nat) : Int) else some false := by
      intro k
      rw [sawmillref17_small.l0, if_pos (by omega), if_pos (by omega), rd_eq _ _ hi, wr1 _ _ hi hn]
      unfold okG
      by_cases h1 : l[i] < -1125899906842624
      · rw [if_pos h1, if_neg]; simp; omega
      · rw [if_neg h1]
        by_cases h2 : l[i] > 1125899906842624
        · rw [if_pos h2, if_neg]; simp; omega
        · rw [if_neg h2, if_pos]; simp; omega
    refine Ev.step hs ?_
    by_cases ho : okG l[i] = true
    · simp only [ho, if_true, Bool.true_and]
      exact small_l0 l hn j (i + 1) (by omega)
    · rw [Bool.not_eq_true] at ho
      simp only [ho, Bool.false_eq_true, if_false, Bool.false_and]
      exact Ev.now false
theorem small_ev (l : List Int) (hn : l.length < 1000000000000000000) : Ev (fun k => sawmillref17_small.f k l) (l.all okG) := by
  have := small_l0 l hn l.length 0 (by omega)
  rw [List.drop_zero] at this
  exact this
section
variable (len kerf pitch : Int) (sizes : List Int) (gain : List (List Int)) (chip dust : List Int)
theorem rcheck_l2 (hn : gain.length < 1000000000000000000) (hr : ∀ r ∈ gain, r.length < 1000000000000000000) : ∀ (j i : Nat) (b : Bool), i + j = gain.length → Ev (fun k => sawmillref17_Check.l2 k b (i : Int) len kerf pitch sizes gain chip dust) (if b && (gain.drop i).all (fun r => r.all okG) then 0 else 9)
  | 0, i, b, h => by
    rw [List.drop_eq_nil_of_le (by omega)]
    refine Ev.step (f := fun _ => some (if b = true then 0 else 9)) (fun k => by rw [sawmillref17_Check.l2, if_neg (by omega)]; split <;> rfl) ?_
    simp only [List.all_nil, Bool.and_true]
    exact Ev.now _
  | j + 1, i, b, h => by
    have hi : i < gain.length := by omega
    rw [all_drop _ _ _ hi]
    cases b
    · refine Ev.step (f := fun k => sawmillref17_Check.l2 k false ((i + 1 : Nat) : Int) len kerf pitch sizes gain chip dust) (fun k => by rw [sawmillref17_Check.l2, if_pos (by omega), if_neg (by simp), wr1 _ _ hi hn]) ?_
      exact rcheck_l2 hn hr j (i + 1) false (by omega)
    · refine Ev.step (f := fun k => (sawmillref17_small.f k gain[i]).bind fun t => sawmillref17_Check.l2 k t ((i + 1 : Nat) : Int) len kerf pitch sizes gain chip dust) (fun k => by rw [sawmillref17_Check.l2, if_pos (by omega), if_pos rfl, if_pos (by omega), rd_L1_eq _ _ hi, wr1 _ _ hi hn]) ?_
      refine Ev.bind (small_ev _ (hr _ (List.getElem_mem hi))) ?_
      rw [Bool.true_and]
      exact rcheck_l2 hn hr j (i + 1) _ (by omega)
theorem rcheck_l1 (hl0 : 0 ≤ len) (hl : len ≤ 2000) (hns : sizes.length ≤ 32) (hS : sizes.all okS = true) (hg : gain.length = sizes.length) (hc : (chip.length : Int) = len) (hd : (dust.length : Int) = len) :
    ∀ j i : Nat, i + j = gain.length → (∀ q : Nat, q < i → ((rd_L1 gain q).length : Int) = mx 0 (len - rd sizes q + 1)) →
      Ev (fun k => sawmillref17_Check.l1 k (i : Int) len kerf pitch sizes gain chip dust) (if rowsOk len sizes gain i j then (if chip.all okG && dust.all okG && gain.all (fun r => r.all okG) then 0 else 9) else 19)
  | 0, i, h, hq => by
    have hb : ∀ r ∈ gain, r.length < 1000000000000000000 := by
      intro r hr
      obtain ⟨q, hq1, rfl⟩ := List.getElem_of_mem hr
      have := hq q (by omega)
      rw [rd_L1_eq _ _ hq1] at this
      have hs : okS (rd sizes q) = true := by rw [rd_eq _ _ (by omega)]; exact List.all_eq_true.mp hS _ (List.getElem_mem _)
      simp only [okS, Bool.and_eq_true, decide_eq_true_eq] at hs
      unfold mx at this
      split at this <;> omega
    have E : ∀ b : Bool, Ev (fun k => sawmillref17_Check.j4 k b len kerf pitch sizes gain chip dust) (if b && gain.all (fun r => r.all okG) then 0 else 9) := by
      intro b
      have := rcheck_l2 len kerf pitch sizes gain chip dust (by omega) hb gain.length 0 b (by omega)
      rw [List.drop_zero] at this
      exact Ev.step (fun k => by rw [sawmillref17_Check.j4]; rfl) this
    refine Ev.step (fun k => by rw [sawmillref17_Check.l1, if_neg (by omega)]) ?_
    simp only [rowsOk, if_true]
    refine Ev.bind (small_ev chip (by omega)) ?_
    cases hcb : chip.all okG
    · simp only [Bool.false_eq_true, if_false, Bool.false_and]
      exact E false
    · simp only [if_true, Bool.true_and]
      refine Ev.bind (small_ev dust (by omega)) ?_
      exact E _
  | j + 1, i, h, hq => by
    have hi : i < gain.length := by omega
    have hi2 : i < sizes.length := by omega
    have hs : okS (rd sizes i) = true := by rw [rd_eq _ _ hi2]; exact List.all_eq_true.mp hS _ (List.getElem_mem _)
    simp only [okS, Bool.and_eq_true, decide_eq_true_eq] at hs
    have hw : wrap64 (wrap64 (len - rd sizes i) + 1) = len - rd sizes i + 1 := by
      rw [IntWalk.wrap64_in (len - rd sizes i) (by omega), IntWalk.wrap64_in _ (by omega)]
    have hs : ∀ k, sawmillref17_Check.l1 (k + 1) (i : Int) len kerf pitch sizes gain chip dust = if ((rd_L1 gain i).length : Int) = mx 0 (len - rd sizes i + 1) then sawmillref17_Check.l1 k ((i + 1 : Nat) : Int) len kerf pitch sizes gain chip dust else some 19 := by
      intro k
      rw [sawmillref17_Check.l1, if_pos (by omega), if_pos (by omega), if_pos (by omega), hw, wr1 _ _ hi (by omega)]
    refine Ev.step hs ?_
    rw [rowsOk]
    by_cases hr : ((rd_L1 gain i).length : Int) = mx 0 (len - rd sizes i + 1)
    · simp only [hr, if_true, decide_true, Bool.true_and]
      refine rcheck_l1 hl0 hl hns hS hg hc hd j (i + 1) (by omega) ?_
      intro q hq1
      by_cases e : q = i
      · subst e; exact hr
      · exact hq q (by omega)
    · simp only [hr, if_false, decide_false, Bool.false_and, Bool.false_eq_true]
      exact Ev.now 19
/-- Behind the sizes. -/
def tailL : Int := if ¬ (gain.length = sizes.length ∧ (chip.length : Int) = len ∧ (dust.length : Int) = len) then 19 else
  if rowsOk len sizes gain 0 gain.length then (if chip.all okG && dust.all okG && gain.all (fun r => r.all okG) then 0 else 9) else 19
theorem rcheck_l0 (hl0 : 0 ≤ len) (hl : len ≤ 2000) (hns : sizes.length ≤ 32) : ∀ j i : Nat, i + j = sizes.length → (sizes.take i).all okS = true →
      Ev (fun k => sawmillref17_Check.l0 k (i : Int) len kerf pitch sizes gain chip dust) (if (sizes.drop i).all okS then tailL len sizes gain chip dust else 9)
  | 0, i, h, hq => by
    rw [List.take_of_length_le (by omega)] at hq
    rw [List.drop_eq_nil_of_le (by omega)]
    simp only [List.all_nil, if_true]
    refine Ev.step (fun k => by rw [sawmillref17_Check.l0, if_neg (by omega)]) ?_
    have h19 : Ev (fun k => sawmillref17_Check.j2 k true len kerf pitch sizes gain chip dust) 19 := Ev.step (f := fun _ => some 19) (fun k => by rw [sawmillref17_Check.j2]; rfl) (Ev.now 19)
    unfold tailL
    by_cases hg : gain.length = sizes.length
    · by_cases hc : (chip.length : Int) = len
      · by_cases hd : (dust.length : Int) = len
        · rw [if_neg (fun h => h ⟨hg, hc, hd⟩)]
          refine Ev.congr (fun k => by rw [if_pos (by omega), if_pos hc]) ?_
          refine Ev.step (f := fun k => sawmillref17_Check.l1 k ((0 : Nat) : Int) len kerf pitch sizes gain chip dust) (fun k => ?_) ?_
          · rw [sawmillref17_Check.j2, if_neg (by simp [hd])]; rfl
          · exact rcheck_l1 len kerf pitch sizes gain chip dust hl0 hl hns hq hg hc hd gain.length 0 (by omega) (fun q hq => by omega)
        · rw [if_pos (fun h => hd h.2.2)]
          refine Ev.congr (fun k => by rw [if_pos (by omega), if_pos hc, show ((dust.length : Int) != len) = true from bne_iff_ne.mpr hd]) h19
      · rw [if_pos (fun h => hc h.2.1)]
        exact Ev.congr (fun k => by rw [if_pos (by omega), if_neg hc]) h19
    · rw [if_pos (fun h => hg h.1)]
      exact Ev.congr (fun k => by rw [if_neg (by omega)]) h19
  | j + 1, i, h, hq => by
    have hi : i < sizes.length := by omega
    rw [all_drop _ _ _ hi]
    have hs : ∀ k, sawmillref17_Check.l0 (k + 1) (i : Int) len kerf pitch sizes gain chip dust = if okS sizes[i] = true then sawmillref17_Check.l0 k ((i + 1 : Nat) : Int) len kerf pitch sizes gain chip dust else some 9 := by
      intro k
      rw [sawmillref17_Check.l0, if_pos (by omega), if_pos (by omega), rd_eq _ _ hi, wr1 _ _ hi (by omega)]
      unfold okS
      by_cases h1 : sizes[i] < 1
      · rw [if_pos h1, if_neg]; simp; omega
      · rw [if_neg h1]
        by_cases h2 : sizes[i] > 2000
        · rw [if_pos h2, if_neg]; simp; omega
        · rw [if_neg h2, if_pos]; simp; omega
    refine Ev.step hs ?_
    by_cases ho : okS sizes[i] = true
    · simp only [ho, if_true, Bool.true_and]
      refine rcheck_l0 hl0 hl hns j (i + 1) (by omega) ?_
      rw [List.take_succ_eq_append_getElem hi, List.all_append, hq]
      simp [ho]
    · rw [Bool.not_eq_true] at ho
      simp only [ho, Bool.false_eq_true, if_false, Bool.false_and]
      exact Ev.now 9
theorem rcheck_ev : Ev (fun k => sawmillref17_Check.f k len kerf pitch sizes gain chip dust) (checkL len kerf pitch sizes gain chip dust) := by
  unfold sawmillref17_Check.f checkL
  have h9 : Ev (fun k => sawmillref17_Check.j0 k true len kerf pitch sizes gain chip dust) 9 := Ev.step (f := fun _ => some 9) (fun k => by rw [sawmillref17_Check.j0]; rfl) (Ev.now 9)
  by_cases hh : 0 ≤ len ∧ len ≤ 2000 ∧ 0 ≤ kerf ∧ kerf ≤ 20 ∧ 1 ≤ pitch ∧ pitch ≤ 2000
  · have hH : headL len kerf pitch sizes = if 32 < sizes.length then 4 else if sizes.all okS then 0 else 9 := by rw [headL, if_neg (fun h => h hh)]
    rw [hH]
    obtain ⟨h1, h2, h3, h4, h5, h6⟩ := hh
    refine Ev.congr (fun k => by rw [if_neg (by omega), if_neg (by omega), if_neg (by omega), if_neg (by omega), if_neg (by omega), show decide (pitch > 2000) = false from by simp; omega]) ?_
    by_cases hn : 32 < sizes.length
    · refine Ev.step (f := fun _ => some 4) (fun k => by rw [sawmillref17_Check.j0, if_neg (by simp), if_pos (by omega)]) ?_
      simp only [hn, if_true]
      exact Ev.now 4
    · rw [if_neg hn]
      refine Ev.step (f := fun k => sawmillref17_Check.l0 k ((0 : Nat) : Int) len kerf pitch sizes gain chip dust) (fun k => by rw [sawmillref17_Check.j0, if_neg (by simp), if_neg (by omega)]; rfl) ?_
      have := rcheck_l0 len kerf pitch sizes gain chip dust h1 h2 (by omega) sizes.length 0 (by omega) (by simp)
      rw [List.drop_zero] at this
      cases hS : sizes.all okS
      · rw [hS] at this
        exact this
      · rw [hS] at this
        exact this
  · have hH : headL len kerf pitch sizes = 9 := by rw [headL, if_pos hh]
    rw [hH]
    refine Ev.congr (f := fun k => sawmillref17_Check.j0 k true len kerf pitch sizes gain chip dust) (fun k => ?_) h9
    by_cases h1 : len < 0
    · rw [if_pos h1]
    rw [if_neg h1]
    by_cases h2 : len > 2000
    · rw [if_pos h2]
    rw [if_neg h2]
    by_cases h3 : kerf < 0
    · rw [if_pos h3]
    rw [if_neg h3]
    by_cases h4 : kerf > 20
    · rw [if_pos h4]
    rw [if_neg h4]
    by_cases h5 : pitch < 1
    · rw [if_pos h5]
    rw [if_neg h5, show decide (pitch > 2000) = true from by simp; omega]
end
end Go.Proofs.YtoaicheopcojoaaDoor.P
