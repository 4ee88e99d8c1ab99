import Derived.Test.YtoaicheopcojoaaDoorHVal
import Derived.Test.YtoaicheopcojoaaDoorF39
namespace Go.Proofs.YtoaicheopcojoaaDoor.P
open Go.RowKit Go.Proofs.YtoaicheopcojoaaDoorW.PrintWords Go.Proofs.YtoaicheopcojoaaDoorW.PrintLast Go.Proofs.YtoaicheopcojoaaDoorW.PrintMore
set_option linter.unusedVariables false
set_option linter.unusedSimpArgs false

/-! The parts of a line: what spans and pieces cover, and what 'mark' counts. -/
attribute [local irreducible] mn mx rd rd_L1
def ind (a b : Int) (j : Nat) : Int := if a ≤ (j : Int) ∧ (j : Int) < b then 1 else 0
def cov : List S49 → Nat → Int
  | [], _ => 0
  | s :: t, j => ind s.f0 s.f1 j + cov t j
def covP (sizes : List Int) : List S69 → Nat → Int
  | [], _ => 0
  | x :: t, j => ind x.f1 (x.f1 + rd sizes x.f0) j + covP sizes t j
theorem cov_append (a b : List S49) (j : Nat) : cov (a ++ b) j = cov a j + cov b j := by
  induction a with
  | nil => simp [cov]
  | cons s t ih => rw [List.cons_append, cov, cov, ih]; omega
theorem ind_none {a b : Int} (h : b ≤ a) (j : Nat) : ind a b j = 0 := by unfold ind; rw [if_neg (by omega)]
theorem cov_add (l : List S49) (a b : Int) (j : Nat) : cov (addS l a b) j = cov l j + ind a b j := by
  unfold addS
  split
  · rw [cov_append]; simp [cov]
  · rw [ind_none (by omega)]; omega
/-- Two spans that follow each other. -/
theorem ind_join {a b c : Int} (h : a ≤ b) (h' : b ≤ c) (j : Nat) : ind a b j + ind b c j = ind a c j := by
  unfold ind
  by_cases h1 : a ≤ (j : Int) ∧ (j : Int) < b
  · rw [if_pos h1, if_neg (by omega), if_pos (by omega)]; rfl
  · rw [if_neg h1]
    by_cases h2 : b ≤ (j : Int) ∧ (j : Int) < c
    · rw [if_pos h2, if_pos (by omega)]; rfl
    · rw [if_neg h2, if_neg (by omega)]; rfl
/-- Spans in order. -/
def Good (n : Int) (l : List S49) : Prop := ∀ (i : Nat) (h : i < l.length), 0 ≤ (l[i]).f0 ∧ (l[i]).f0 < (l[i]).f1 ∧ (l[i]).f1 ≤ n ∧ ∀ h' : 0 < i, (l[i - 1]'(by omega)).f1 ≤ (l[i]).f0
theorem good_add {n a b : Int} {l : List S49} (h : Good n l) (ha : 0 ≤ a) (hb : b ≤ n) (hl : ∀ s ∈ l, s.f1 ≤ a) : Good n (addS l a b) := by
  unfold addS
  split
  · rename_i hab
    intro i hi
    rw [List.length_append, List.length_singleton] at hi
    by_cases e : i < l.length
    · have := h i e
      rw [List.getElem_append_left e]
      refine ⟨this.1, this.2.1, this.2.2.1, fun h' => ?_⟩
      rw [List.getElem_append_left (by omega)]
      exact this.2.2.2 h'
    · have e2 : i = l.length := by omega
      subst e2
      rw [List.getElem_append_right (by omega)]
      simp only [Nat.sub_self, List.getElem_cons_zero]
      refine ⟨ha, hab, hb, fun h' => ?_⟩
      rw [List.getElem_append_left (by omega)]
      exact hl _ (List.getElem_mem _)
  · exact h
theorem le_add {m a b : Int} {l : List S49} (hl : ∀ s ∈ l, s.f1 ≤ m) (hb : b ≤ m) : ∀ s ∈ addS l a b, s.f1 ≤ m := by
  unfold addS
  split
  · intro s hs
    rcases List.mem_append.1 hs with hs | hs
    · exact hl s hs
    · rw [List.mem_singleton.1 hs]; exact hb
  · exact hl
section
variable {len kerf pitch : Int} {sizes : List Int} {gain : List (List Int)} {chip dust : List Int}
theorem cuts_head' {x : S69} {ps : List S69} {edge : Int} {en : Bool} {d c d' c' : List S49} (h : cutsL len kerf pitch sizes gain (x :: ps) edge en d c = (d', c', 0)) :
    (0 ≤ x.f0 ∧ x.f0 < (sizes.length : Int)) ∧ (0 ≤ x.f1 ∧ x.f1 + rd sizes x.f0 ≤ len) ∧ (x.f1 = edge ∨ pitch ≤ x.f1 - kerf - edge) ∧
    cutsL len kerf pitch sizes gain ps (mn (x.f1 + rd sizes x.f0 + kerf) len) (x.f1 + rd sizes x.f0 == len) (if x.f1 = edge then addS d (x.f1 + rd sizes x.f0) (mn (x.f1 + rd sizes x.f0 + kerf) len) else addS (addS d (x.f1 - kerf) x.f1) (x.f1 + rd sizes x.f0) (mn (x.f1 + rd sizes x.f0 + kerf) len)) (if x.f1 = edge then c else addS c edge (x.f1 - kerf)) = (d', c', 0) := by
  simp only [cutsL] at h
  by_cases c1 : x.f0 < 0 ∨ (sizes.length : Int) ≤ x.f0
  · rw [if_pos c1] at h; simp at h
  rw [if_neg c1] at h
  by_cases c2 : x.f1 < 0 ∨ len - rd sizes x.f0 < x.f1
  · rw [if_pos c2] at h; simp at h
  rw [if_neg c2] at h
  by_cases c3 : en = true ∨ (x.f1 ≠ edge ∧ (x.f1 - kerf - edge < pitch ∨ (x.f1 - kerf - edge) % pitch ≠ 0))
  · rw [if_pos c3] at h; simp at h
  rw [if_neg c3] at h
  by_cases c4 : rd (rd_L1 gain x.f0) x.f1 < 0
  · rw [if_pos c4] at h; simp at h
  rw [if_neg c4] at h
  refine ⟨by omega, by omega, ?_, ?_⟩
  · by_cases e : x.f1 = edge
    · exact .inl e
    · exact .inr (Classical.byContradiction fun h' => c3 (.inr ⟨e, .inl (by omega)⟩))
  · by_cases e : x.f1 = edge
    · rw [if_pos e] at h
      rw [if_pos e, if_pos e]
      exact h
    · rw [if_neg e] at h
      rw [if_neg e, if_neg e]
      exact h
/-- Where cuts goes through: its spans are in order, and with the pieces they cover everything from the edge on once. -/
theorem cuts_cover (O : OkLine len kerf pitch sizes gain chip dust) : ∀ (p : List S69) (edge : Int) (en : Bool) (d c d' c' : List S49), 0 ≤ edge → edge ≤ len → Good len d → Good len c → (∀ s ∈ d, s.f1 ≤ edge) → (∀ s ∈ c, s.f1 ≤ edge) → cutsL len kerf pitch sizes gain p edge en d c = (d', c', 0) →
    Good len d' ∧ Good len c' ∧ ∀ j : Nat, cov d' j + cov c' j + covP sizes p j = cov d j + cov c j + ind edge len j
  | [], edge, en, d, c, d', c', h0, h1, gd, gc, ld, lc, h => by
    rw [cutsL] at h
    injection h with e1 e2
    injection e2 with e2 e3
    rw [← e1, ← e2]
    refine ⟨gd, good_add gc h0 (Int.le_refl _) lc, fun j => ?_⟩
    rw [cov_add, covP]
    omega
  | x :: ps, edge, en, d, c, d', c', h0, h1, gd, gc, ld, lc, h => by
    obtain ⟨a1, a2, a4, a6⟩ := cuts_head' h
    have hs := O.sizes0 x.f0 a1.1 a1.2
    have hk := O.kerf0
    have hp := O.pitch0
    have m1 : 0 ≤ mn (x.f1 + rd sizes x.f0 + kerf) len ∧ mn (x.f1 + rd sizes x.f0 + kerf) len ≤ len ∧ x.f1 + rd sizes x.f0 ≤ mn (x.f1 + rd sizes x.f0 + kerf) len := by unfold mn; split <;> omega
    generalize mn (x.f1 + rd sizes x.f0 + kerf) len = m at m1 a6
    by_cases e : x.f1 = edge
    · rw [if_pos e, if_pos e] at a6
      have l1 : ∀ s ∈ d, s.f1 ≤ x.f1 + rd sizes x.f0 := fun s hs => by have := ld s hs; omega
      obtain ⟨r1, r2, r3⟩ := cuts_cover O ps m _ _ _ d' c' m1.1 m1.2.1 (good_add gd (by omega) m1.2.1 l1) gc (le_add (fun s hs => by have := ld s hs; omega) (Int.le_refl _)) (fun s hs => by have := lc s hs; omega) a6
      refine ⟨r1, r2, fun j => ?_⟩
      have := r3 j
      have i1 := ind_join (a := x.f1) (b := x.f1 + rd sizes x.f0) (c := m) (by omega) m1.2.2 j
      have i2 := ind_join (a := x.f1) (b := m) (c := len) (by omega) m1.2.1 j
      rw [cov_add] at this
      rw [covP, ← e]
      omega
    · have a5 : pitch ≤ x.f1 - kerf - edge := by rcases a4 with a4 | a4; exact absurd a4 e; exact a4
      rw [if_neg e, if_neg e] at a6
      have l0 : ∀ s ∈ addS d (x.f1 - kerf) x.f1, s.f1 ≤ x.f1 := le_add (fun s hs => by have := ld s hs; omega) (Int.le_refl _)
      have g0 : Good len (addS d (x.f1 - kerf) x.f1) := good_add gd (by omega) (by omega) (fun s hs => by have := ld s hs; omega)
      obtain ⟨r1, r2, r3⟩ := cuts_cover O ps m _ _ _ d' c' m1.1 m1.2.1 (good_add g0 (by omega) m1.2.1 (fun s hs => by have := l0 s hs; omega)) (good_add gc h0 (by omega) lc) (le_add (fun s hs => by have := l0 s hs; omega) (Int.le_refl _)) (le_add (fun s hs => by have := lc s hs; omega) (by omega)) a6
      refine ⟨r1, r2, fun j => ?_⟩
      have := r3 j
      have i0 := ind_join (a := edge) (b := x.f1 - kerf) (c := x.f1) (by omega) (by omega) j
      have i1 := ind_join (a := edge) (b := x.f1) (c := x.f1 + rd sizes x.f0) (by omega) (by omega) j
      have i2 := ind_join (a := edge) (b := x.f1 + rd sizes x.f0) (c := m) (by omega) m1.2.2 j
      have i3 := ind_join (a := edge) (b := m) (c := len) (by omega) m1.2.1 j
      rw [cov_add, cov_add, cov_add] at this
      rw [covP]
      omega
/-- An error leaves no spans. -/
theorem cuts_none : ∀ (p : List S69) (edge : Int) (en : Bool) (d c : List S49), (cutsL len kerf pitch sizes gain p edge en d c).2.2 ≠ 0 → (cutsL len kerf pitch sizes gain p edge en d c).1 = [] ∧ (cutsL len kerf pitch sizes gain p edge en d c).2.1 = []
  | [], edge, en, d, c, h => by rw [cutsL] at h; exact absurd rfl h
  | x :: ps, edge, en, d, c, h => by
    simp only [cutsL] at h ⊢
    split
    · exact ⟨rfl, rfl⟩
    rename_i c1
    rw [if_neg c1] at h
    split
    · exact ⟨rfl, rfl⟩
    rename_i c2
    rw [if_neg c2] at h
    split
    · exact ⟨rfl, rfl⟩
    rename_i c3
    rw [if_neg c3] at h
    split
    · exact ⟨rfl, rfl⟩
    rename_i c4
    rw [if_neg c4] at h
    split
    · rename_i c5
      rw [if_pos c5] at h
      exact cuts_none ps _ _ _ _ h
    · rename_i c5
      rw [if_neg c5] at h
      exact cuts_none ps _ _ _ _ h
end
/-- A list of counts. -/
def SL (n : Nat) (f : Nat → Int) : List Int := (List.range n).map (fun j => wrap64 (f j))
theorem SL_len (n : Nat) (f : Nat → Int) : (SL n f).length = n := by simp [SL]
theorem SL_congr {n : Nat} {f g : Nat → Int} (h : ∀ j, f j = g j) : SL n f = SL n g := by rw [show f = g from funext h]
unseal rd in
theorem rd_SL (n : Nat) (f : Nat → Int) (x : Int) (h0 : 0 ≤ x) (h1 : x < n) : rd (SL n f) x = wrap64 (f x.toNat) := by
  have : x.toNat < n := by omega
  simp [rd, SL, this]
theorem SL_set (n : Nat) (f : Nat → Int) (x : Int) (h0 : 0 ≤ x) (h1 : x < n) : (SL n f).set x.toNat (wrap64 (rd (SL n f) x + 1)) = SL n (fun j => f j + ind x (x + 1) j) := by
  rw [rd_SL n f x h0 h1, wrap_add]
  apply List.ext_getElem?
  intro j
  by_cases hj : j < n
  · by_cases e : j = x.toNat
    · subst e
      rw [List.getElem?_set_self (by rw [SL_len]; omega)]
      simp only [SL, List.getElem?_map, List.getElem?_range hj, Option.map_some]
      congr 2
      unfold ind
      rw [if_pos (by omega)]
    · rw [List.getElem?_set_ne (by omega)]
      simp only [SL, List.getElem?_map, List.getElem?_range hj, Option.map_some]
      congr 2
      unfold ind
      rw [if_neg (by omega)]
      omega
  · rw [List.getElem?_eq_none (by rw [List.length_set, SL_len]; omega), List.getElem?_eq_none (by rw [SL_len]; omega)]
theorem mark_l1 {n : Nat} (hn : n ≤ 1000000) (sp : List S49) (hs : sp.length ≤ 1000000) (i : Nat) (hi : i < sp.length) (hb : (sp[i]).f1 ≤ n) (R : Bool × List Int) : ∀ (m : Nat) (x : Int) (f : Nat → Int), 0 ≤ x → x ≤ (sp[i]).f1 → ((sp[i]).f1 - x).toNat = m →
    Ev (fun k => sawmilllaw17_mark.l0 k (SL n (fun j => f j + ind x (sp[i]).f1 j)) sp ((i + 1 : Nat) : Int)) R → Ev (fun k => sawmilllaw17_mark.l1 k (SL n f) sp (i : Int) x) R
  | 0, x, f, h0, h1, hm, E => by
    rw [SL_congr (f := fun j => f j + ind x (sp[i]).f1 j) (g := f) (fun j => by rw [ind_none (by omega)]; omega)] at E
    refine Ev.step (fun k => ?_) E
    rw [sawmilllaw17_mark.l1, if_pos (by omega), if_pos (by omega), rd_T49_eq _ _ hi, if_neg (by omega), wr1 i sp.length hi (by omega)]
  | m + 1, x, f, h0, h1, hm, E => by
    have IH := mark_l1 hn sp hs i hi hb R m (x + 1) (fun j => f j + ind x (x + 1) j) (by omega) (by omega) (by omega) (by
      rw [SL_congr (g := fun j => f j + ind x (sp[i]).f1 j) (fun j => by have := ind_join (a := x) (b := x + 1) (c := (sp[i]).f1) (by omega) (by omega) j; omega)]
      exact E)
    refine Ev.step (fun k => ?_) IH
    rw [sawmilllaw17_mark.l1, if_pos (by omega), if_pos (by omega), rd_T49_eq _ _ hi, if_pos (by omega), if_pos h0, if_pos (by rw [SL_len]; omega), SL_set n f x h0 (by omega), IntWalk.wrap64_in (x + 1) (by omega)]
theorem mark_l0 {n : Nat} (hn : n ≤ 1000000) (sp : List S49) (hs : sp.length ≤ 1000000) (hg : Good n sp) : ∀ (j i : Nat) (f : Nat → Int), i + j = sp.length → Ev (fun k => sawmilllaw17_mark.l0 k (SL n f) sp (i : Int)) (true, SL n (fun q => f q + cov (sp.drop i) q))
  | 0, i, f, h => by
    rw [List.drop_eq_nil_of_le (by omega), SL_congr (f := fun q => f q + cov [] q) (g := f) (fun q => by rw [cov]; omega)]
    exact Ev.step (f := fun _ => some (true, SL n f)) (fun k => by rw [sawmilllaw17_mark.l0, if_neg (by omega)]) (Ev.now _)
  | j + 1, i, f, h => by
    have hi : i < sp.length := by omega
    obtain ⟨g1, g2, g3, g4⟩ := hg i hi
    have IH := mark_l0 hn sp hs hg j (i + 1) (fun q => f q + ind (sp[i]).f0 (sp[i]).f1 q) (by omega)
    rw [SL_congr (f := fun q => f q + ind (sp[i]).f0 (sp[i]).f1 q + cov (sp.drop (i + 1)) q) (g := fun q => f q + cov (sp.drop i) q) (fun q => by rw [List.drop_eq_getElem_cons hi, cov]; omega)] at IH
    have E1 := mark_l1 hn sp hs i hi g3 _ _ (sp[i]).f0 f g1 (by omega) rfl IH
    have E2 : Ev (fun k => sawmilllaw17_mark.j1 k (SL n f) sp (i : Int) false) (true, SL n (fun q => f q + cov (sp.drop i) q)) := by
      refine Ev.step (fun k => ?_) E1
      rw [sawmilllaw17_mark.j1, if_neg (by decide), if_pos (by omega), if_pos (by omega), rd_T49_eq _ _ hi]
    refine Ev.step (fun k => ?_) E2
    rw [sawmilllaw17_mark.l0, if_pos (by omega), if_pos (by omega), rd_T49_eq _ _ hi, if_neg (by omega), if_neg (by omega), if_neg (by rw [SL_len]; omega)]
    by_cases h0 : i = 0
    · rw [if_neg (by omega)]
    · rw [if_pos (by omega), IntWalk.wrap64_in ((i : Int) - 1) (by omega), if_pos (by omega), if_pos (by omega), show ((i : Int) - 1) = ((i - 1 : Nat) : Int) by omega, rd_T49_eq _ _ (show i - 1 < sp.length by omega), decide_eq_false (by have := g4 (by omega); omega)]
theorem mark_ev {n : Nat} (hn : n ≤ 1000000) (sp : List S49) (hs : sp.length ≤ 1000000) (hg : Good n sp) (f : Nat → Int) : Ev (fun k => sawmilllaw17_mark.f k (SL n f) sp) (true, SL n (fun q => f q + cov sp q)) := by
  have := mark_l0 hn sp hs hg sp.length 0 f (by omega)
  rw [List.drop_zero] at this
  exact this
end Go.Proofs.YtoaicheopcojoaaDoor.P
