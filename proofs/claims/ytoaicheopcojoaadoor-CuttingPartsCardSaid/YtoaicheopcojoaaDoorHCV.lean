import Derived.Test.YtoaicheopcojoaaDoorHC2
import Derived.Test.YtoaicheopcojoaaDoorF21
import Derived.Test.YtoaicheopcojoaaDoorF22d
import Derived.Test.YtoaicheopcojoaaDoorF23
import Derived.Test.YtoaicheopcojoaaDoorF24d
import Derived.Test.YtoaicheopcojoaaDoorF25
namespace Go.Proofs.YtoaicheopcojoaaDoor.P
open Go.RowKit Go.Proofs.YtoaicheopcojoaaDoorW.PrintWords Go.Proofs.YtoaicheopcojoaaDoorW.PrintLast Go.Proofs.YtoaicheopcojoaaDoorW.PrintMore
set_option linter.unusedVariables false
set_option linter.unusedSimpArgs false

/-! Cuts' and Value's plain laws. -/
attribute [local irreducible] mn mx rd rd_L1
theorem wrap_add (a b : Int) : wrap64 (wrap64 a + b) = wrap64 (a + b) := by unfold wrap64; omega
theorem rd_T69_eq (l : List S69) (i : Nat) (h : i < l.length) : rd_T69 l (i : Int) = l[i] := by simp [rd_T69, h]
theorem rd_T49_eq (l : List S49) (i : Nat) (h : i < l.length) : rd_T49 l (i : Int) = l[i] := by simp [rd_T49, h]
theorem add_eq (l : List S49) (a b : Int) (hl : l.length < 8796093022208) : sawmillref17_add.f l a b = some (addS l a b) := by
  unfold sawmillref17_add.f addS
  by_cases h : a ≥ b
  · rw [if_pos h, if_neg (by omega)]
  · rw [if_neg h, if_pos hl, if_pos (by omega)]
theorem addS_same (l : List S49) (a b : Int) (h : b ≤ a) : addS l a b = l := by unfold addS; rw [if_neg (by omega)]
theorem addS_len (l : List S49) (a b : Int) : (addS l a b).length ≤ l.length + 1 := by unfold addS; split <;> simp
section
variable (k : Nat) (p : List S69) (d c : List S49) (er i s w len kerf pitch : Int) (sizes : List Int) (gain : List (List Int)) (chip dust : List Int) (a b : Int)
/-- What Cuts asks of a piece's place in gain. -/
structure Tl : Prop where
  a0 : 0 ≤ a
  a1 : a < (gain.length : Int)
  b0 : 0 ≤ b
  b1 : b < ((rd_L1 gain a).length : Int)
  g : ¬ rd (rd_L1 gain a) b < 0
theorem rj3_a (T : Tl gain a b) (h : ¬ b > er) (h2 : wrap64 (b + s) = len) : sawmillref17_Cuts.j3 (k + 1) p d c er i s w false len kerf pitch sizes gain chip dust a b = sawmillref17_Cuts.l0 k p d c (-1) (wrap64 (i + 1)) len kerf pitch sizes gain chip dust := by
  rw [sawmillref17_Cuts.j3, if_neg Bool.false_ne_true, if_pos T.a0, if_pos T.a1, if_pos T.b0, if_pos T.b1, if_neg T.g, if_neg h, if_pos h2]
theorem rj3_b (T : Tl gain a b) (h : ¬ b > er) (h2 : ¬ wrap64 (b + s) = len) (m : Int) (hm : mn (wrap64 (wrap64 (b + s) + kerf)) len = m) (d' : List S49) (hd : sawmillref17_add.f d (wrap64 (b + s)) m = some d') : sawmillref17_Cuts.j3 (k + 1) p d c er i s w false len kerf pitch sizes gain chip dust a b = sawmillref17_Cuts.l0 k p d' c m (wrap64 (i + 1)) len kerf pitch sizes gain chip dust := by
  rw [sawmillref17_Cuts.j3, if_neg Bool.false_ne_true, if_pos T.a0, if_pos T.a1, if_pos T.b0, if_pos T.b1, if_neg T.g, if_neg h, if_neg h2, hm, hd, Option.bind_some]
theorem rj3_c (T : Tl gain a b) (h : b > er) (c' : List S49) (hc : sawmillref17_add.f c er (wrap64 (er + w)) = some c') (d' : List S49) (hd : sawmillref17_add.f d (wrap64 (er + w)) b = some d') (h2 : wrap64 (b + s) = len) : sawmillref17_Cuts.j3 (k + 1) p d c er i s w false len kerf pitch sizes gain chip dust a b = sawmillref17_Cuts.l0 k p d' c' (-1) (wrap64 (i + 1)) len kerf pitch sizes gain chip dust := by
  rw [sawmillref17_Cuts.j3, if_neg Bool.false_ne_true, if_pos T.a0, if_pos T.a1, if_pos T.b0, if_pos T.b1, if_neg T.g, if_pos h, hc, Option.bind_some, hd, Option.bind_some, if_pos h2]
theorem rj3_d (T : Tl gain a b) (h : b > er) (c' : List S49) (hc : sawmillref17_add.f c er (wrap64 (er + w)) = some c') (d' : List S49) (hd : sawmillref17_add.f d (wrap64 (er + w)) b = some d') (h2 : ¬ wrap64 (b + s) = len) (m : Int) (hm : mn (wrap64 (wrap64 (b + s) + kerf)) len = m) (d'' : List S49) (hd2 : sawmillref17_add.f d' (wrap64 (b + s)) m = some d'') : sawmillref17_Cuts.j3 (k + 1) p d c er i s w false len kerf pitch sizes gain chip dust a b = sawmillref17_Cuts.l0 k p d'' c' m (wrap64 (i + 1)) len kerf pitch sizes gain chip dust := by
  rw [sawmillref17_Cuts.j3, if_neg Bool.false_ne_true, if_pos T.a0, if_pos T.a1, if_pos T.b0, if_pos T.b1, if_neg T.g, if_pos h, hc, Option.bind_some, hd, Option.bind_some, if_neg h2, hm, hd2, Option.bind_some]
end
section
variable {len kerf pitch : Int} {sizes : List Int} {gain : List (List Int)} {chip dust : List Int}
theorem rcuts_tail (p ps : List S69) (d c : List S49) (er : Int) (i n : Nat) (s a b : Int) (T : Tl gain a b) (hn : n ≤ 300) (hi : i < n) (hd : d.length ≤ 2 * i) (hc : c.length ≤ i)
    (h0 : 0 ≤ er) (hl : 0 ≤ len) (hl2 : len ≤ 2000) (k0 : 0 ≤ kerf) (k1 : kerf ≤ 20) (s1 : 1 ≤ s) (s2 : s ≤ 2000) (hb : b + s ≤ len) (h5 : b = er ∨ 1 ≤ b - kerf - er)
    (ih : ∀ (d c : List S49) (edge : Int) (en : Bool) (er : Int), d.length ≤ 2 * (i + 1) → c.length ≤ i + 1 → 0 ≤ edge → edge ≤ len →
      ((en = false ∧ er = edge) ∨ (en = true ∧ er = -1 ∧ edge = len)) →
      Ev (fun k => sawmillref17_Cuts.l0 k p d c er ((i + 1 : Nat) : Int) len kerf pitch sizes gain chip dust) (cutsL len kerf pitch sizes gain ps edge en d c)) :
    Ev (fun k => sawmillref17_Cuts.j3 k p d c er (i : Int) s (b - kerf - er) false len kerf pitch sizes gain chip dust a b)
      (if b = er then cutsL len kerf pitch sizes gain ps (mn (b + s + kerf) len) (b + s == len) (addS d (b + s) (mn (b + s + kerf) len)) c
       else cutsL len kerf pitch sizes gain ps (mn (b + s + kerf) len) (b + s == len) (addS (addS d (b - kerf) b) (b + s) (mn (b + s + kerf) len)) (addS c er (b - kerf))) := by
  have b0 := T.b0
  have hwe : wrap64 (b + s) = b + s := IntWalk.wrap64_in _ (by omega)
  have hwk : wrap64 (wrap64 (b + s) + kerf) = b + s + kerf := by rw [hwe]; exact IntWalk.wrap64_in _ (by omega)
  have hwa : wrap64 (er + (b - kerf - er)) = b - kerf := by rw [show er + (b - kerf - er) = b - kerf by omega]; exact IntWalk.wrap64_in _ (by omega)
  have hw1 : ∀ _ : Unit, wrap64 ((i : Int) + 1) = ((i + 1 : Nat) : Int) := fun _ => wr1 i n hi (by omega)
  have hm0 : 0 ≤ mn (b + s + kerf) len := by unfold mn; split <;> omega
  have hm1 : mn (b + s + kerf) len ≤ len := by unfold mn; split <;> omega
  have hm2 : b + s = len → mn (b + s + kerf) len = len := by intro h; unfold mn; split <;> omega
  have hl1 := addS_len d (b + s) (mn (b + s + kerf) len)
  have hl3 := addS_len c er (b - kerf)
  have hl4 := addS_len d (b - kerf) b
  have hl5 := addS_len (addS d (b - kerf) b) (b + s) (mn (b + s + kerf) len)
  generalize hmm : mn (b + s + kerf) len = m at hm0 hm1 hm2 hl1 hl5 ⊢
  generalize h1d : addS d (b + s) m = d1 at hl1 ⊢
  generalize h3d : addS c er (b - kerf) = c3 at hl3 ⊢
  generalize h4d : addS d (b - kerf) b = d4 at hl4 hl5 ⊢
  generalize h5d : addS d4 (b + s) m = d5 at hl5 ⊢
  have f1 : sawmillref17_add.f d (wrap64 (b + s)) m = some d1 := by rw [hwe, ← h1d]; exact add_eq _ _ _ (by omega)
  have f3 : sawmillref17_add.f c er (wrap64 (er + (b - kerf - er))) = some c3 := by rw [hwa, ← h3d]; exact add_eq _ _ _ (by omega)
  have f4 : sawmillref17_add.f d (wrap64 (er + (b - kerf - er))) b = some d4 := by rw [hwa, ← h4d]; exact add_eq _ _ _ (by omega)
  have f5 : sawmillref17_add.f d4 (wrap64 (b + s)) m = some d5 := by rw [hwe, ← h5d]; exact add_eq _ _ _ (by omega)
  have f2 : mn (wrap64 (wrap64 (b + s) + kerf)) len = m := by rw [hwk, hmm]
  by_cases e : b = er
  · rw [if_pos e]
    by_cases e2 : b + s = len
    · have t := ih d c len true (-1) (by omega) (by omega) hl (Int.le_refl _) (.inr ⟨rfl, rfl, rfl⟩)
      have hd1 : d1 = d := by rw [← h1d, hm2 e2, e2]; exact addS_same _ _ _ (Int.le_refl _)
      rw [hm2 e2, beq_iff_eq.mpr e2, hd1]
      exact Ev.step (fun k => by rw [rj3_a _ _ _ _ _ _ _ _ _ _ _ _ _ _ _ _ _ T (by omega) (by rw [hwe]; exact e2), hw1 ()]) t
    · have t := ih d1 c m false m (by omega) (by omega) hm0 hm1 (.inl ⟨rfl, rfl⟩)
      rw [beq_eq_false_iff_ne.mpr e2]
      exact Ev.step (fun k => by rw [rj3_b _ _ _ _ _ _ _ _ _ _ _ _ _ _ _ _ _ T (by omega) (by rw [hwe]; exact e2) m f2 d1 f1, hw1 ()]) t
  · rw [if_neg e]
    replace h5 : 1 ≤ b - kerf - er := by rcases h5 with h5 | h5; exact absurd h5 e; exact h5
    by_cases e2 : b + s = len
    · have t := ih d4 c3 len true (-1) (by omega) (by omega) hl (Int.le_refl _) (.inr ⟨rfl, rfl, rfl⟩)
      have hd1 : d5 = d4 := by rw [← h5d, hm2 e2, e2]; exact addS_same _ _ _ (Int.le_refl _)
      rw [hm2 e2, beq_iff_eq.mpr e2, hd1]
      exact Ev.step (fun k => by rw [rj3_c _ _ _ _ _ _ _ _ _ _ _ _ _ _ _ _ _ T (by omega) c3 f3 d4 f4 (by rw [hwe]; exact e2), hw1 ()]) t
    · have t := ih d5 c3 m false m (by omega) (by omega) hm0 hm1 (.inl ⟨rfl, rfl⟩)
      rw [beq_eq_false_iff_ne.mpr e2]
      exact Ev.step (fun k => by rw [rj3_d _ _ _ _ _ _ _ _ _ _ _ _ _ _ _ _ _ T (by omega) c3 f3 d4 f4 (by rw [hwe]; exact e2) m f2 d5 f5, hw1 ()]) t
end
section
variable {len kerf pitch : Int} {sizes : List Int} {gain : List (List Int)} {chip dust : List Int}
theorem rcuts_l0 (O : OkLine len kerf pitch sizes gain chip dust) (p : List S69) (hp : p.length ≤ 300) : ∀ (j i : Nat) (d c : List S49) (edge : Int) (en : Bool) (er : Int), i + j = p.length → d.length ≤ 2 * i → c.length ≤ i → 0 ≤ edge → edge ≤ len →
      ((en = false ∧ er = edge) ∨ (en = true ∧ er = -1 ∧ edge = len)) →
      Ev (fun k => sawmillref17_Cuts.l0 k p d c er (i : Int) len kerf pitch sizes gain chip dust) (cutsL len kerf pitch sizes gain (p.drop i) edge en d c)
  | 0, i, d, c, edge, en, er, h, hd, hc, h0, h1, hr => by
    rw [List.drop_eq_nil_of_le (by omega), cutsL]
    rcases hr with ⟨rfl, rfl⟩ | ⟨rfl, rfl, rfl⟩
    · refine Ev.step (f := fun _ => some (d, addS c er len, 0)) (fun k => ?_) (Ev.now _)
      rw [sawmillref17_Cuts.l0, if_neg (by omega), if_pos (by omega), add_eq _ _ _ (by omega)]
      rfl
    · refine Ev.step (f := fun _ => some (d, c, 0)) (fun k => ?_) ?_
      · rw [sawmillref17_Cuts.l0, if_neg (by omega), if_neg (by omega)]
      · rw [addS_same _ _ _ (Int.le_refl _)]
        exact Ev.now _
  | j + 1, i, d, c, edge, en, er, h, hd, hc, h0, h1, hr => by
    have ih := fun d c edge en er a1 a2 => rcuts_l0 O p hp j (i + 1) d c edge en er (by omega) a1 a2
    have hi : i < p.length := by omega
    have hl0 := O.len0
    have hl1 := O.len1
    have hk0 := O.kerf0
    have hk1 := O.kerf1
    have hp0 := O.pitch0
    have hp1 := O.pitch1
    have hns := O.nsizes
    rw [List.drop_eq_getElem_cons hi]
    obtain ⟨x, hx⟩ : ∃ x, x = p[i] := ⟨_, rfl⟩
    rw [← hx]
    have hrx : rd_T69 p (i : Int) = x := by rw [rd_T69_eq _ _ hi, hx]
    simp only [cutsL]
    by_cases c1 : x.f0 < 0 ∨ (sizes.length : Int) ≤ x.f0
    · rw [if_pos c1]
      have hj : Ev (fun k => sawmillref17_Cuts.j1 k p d c er (i : Int) true len kerf pitch sizes gain chip dust x.f0 x.f1) (([], [], 9) : List S49 × List S49 × Int) := Ev.step (f := fun _ => some ([], [], 9)) (fun k => by rw [sawmillref17_Cuts.j1, if_pos rfl]) (Ev.now _)
      refine Ev.step (fun k => ?_) hj
      rw [sawmillref17_Cuts.l0, if_pos (by omega), if_pos (by omega), hrx]
      by_cases c2 : x.f0 < 0
      · rw [if_pos c2]
      · rw [if_neg c2, decide_eq_true (by omega)]
    rw [if_neg c1]
    have hs := O.sizes0 x.f0 (by omega) (by omega)
    have hng := O.ngain
    have hrow := O.rows x.f0 (by omega) (by omega)
    have hwl : wrap64 (len - rd sizes x.f0) = len - rd sizes x.f0 := IntWalk.wrap64_in _ (by omega)
    refine Ev.step (f := fun k => sawmillref17_Cuts.j1 k p d c er (i : Int) false len kerf pitch sizes gain chip dust x.f0 x.f1) (fun k => by rw [sawmillref17_Cuts.l0, if_pos (by omega), if_pos (by omega), hrx, if_neg (by omega), decide_eq_false (by omega)]) ?_
    by_cases c2 : x.f1 < 0 ∨ len - rd sizes x.f0 < x.f1
    · rw [if_pos c2]
      have hj : Ev (fun k => sawmillref17_Cuts.j2 k p d c er (i : Int) (rd sizes x.f0) true len kerf pitch sizes gain chip dust x.f0 x.f1) (([], [], 20) : List S49 × List S49 × Int) := Ev.step (f := fun _ => some ([], [], 20)) (fun k => by rw [sawmillref17_Cuts.j2, if_pos rfl]) (Ev.now _)
      refine Ev.step (fun k => ?_) hj
      rw [sawmillref17_Cuts.j1, if_neg (by decide), if_pos (by omega), if_pos (by omega), hwl]
      by_cases c3 : x.f1 < 0
      · rw [if_pos c3]
      · rw [if_neg c3, decide_eq_true (by omega)]
    rw [if_neg c2]
    refine Ev.step (f := fun k => sawmillref17_Cuts.j2 k p d c er (i : Int) (rd sizes x.f0) false len kerf pitch sizes gain chip dust x.f0 x.f1) (fun k => by rw [sawmillref17_Cuts.j1, if_neg (by decide), if_pos (by omega), if_pos (by omega), hwl, if_neg (by omega), decide_eq_false (by omega)]) ?_
    have hw : wrap64 (wrap64 (x.f1 - kerf) - er) = x.f1 - kerf - er := by
      rw [IntWalk.wrap64_in (x.f1 - kerf) (by omega), IntWalk.wrap64_in _ (by rcases hr with hr | hr <;> omega)]
    have h11 : Ev (fun k => sawmillref17_Cuts.j3 k p d c er (i : Int) (rd sizes x.f0) (x.f1 - kerf - er) true len kerf pitch sizes gain chip dust x.f0 x.f1) (([], [], 11) : List S49 × List S49 × Int) := Ev.step (f := fun _ => some ([], [], 11)) (fun k => by rw [sawmillref17_Cuts.j3, if_pos rfl]) (Ev.now _)
    rcases hr with ⟨rfl, rfl⟩ | ⟨rfl, rfl, rfl⟩
    rotate_left
    · rw [if_pos (.inl rfl)]
      refine Ev.step (fun k => ?_) h11
      rw [sawmillref17_Cuts.j2, if_neg (by decide), if_pos (by omega), hw]
    by_cases c3 : false = true ∨ (x.f1 ≠ er ∧ (x.f1 - kerf - er < pitch ∨ (x.f1 - kerf - er) % pitch ≠ 0))
    · rw [if_pos c3]
      have c4 : x.f1 ≠ er ∧ (x.f1 - kerf - er < pitch ∨ (x.f1 - kerf - er) % pitch ≠ 0) := by rcases c3 with c3 | c3; cases c3; exact c3
      refine Ev.step (fun k => ?_) h11
      rw [sawmillref17_Cuts.j2, if_neg (by decide), if_neg (by omega), if_neg c4.1, hw]
      by_cases c5 : x.f1 - kerf - er < 1
      · rw [if_pos c5]
      · rw [if_neg c5, if_neg (by omega)]
        have : (Int.tmod (x.f1 - kerf - er) pitch != 0) = true := by
          rw [Int.tmod_eq_emod_of_nonneg (by omega)]
          rcases c4.2 with c6 | c6
          · rw [Int.emod_eq_of_lt (by omega) c6]; simp; omega
          · simpa using c6
        rw [this]
    rw [if_neg c3]
    have c4 : x.f1 = er ∨ (pitch ≤ x.f1 - kerf - er ∧ (x.f1 - kerf - er) % pitch = 0) := by
      by_cases e : x.f1 = er
      · exact .inl e
      · refine .inr ⟨?_, ?_⟩
        · exact Classical.byContradiction fun h => c3 (.inr ⟨e, .inl (by omega)⟩)
        · exact Classical.byContradiction fun h => c3 (.inr ⟨e, .inr h⟩)
    clear c3
    refine Ev.step (f := fun k => sawmillref17_Cuts.j3 k p d c er (i : Int) (rd sizes x.f0) (x.f1 - kerf - er) false len kerf pitch sizes gain chip dust x.f0 x.f1) (fun k => ?_) ?_
    · rw [sawmillref17_Cuts.j2, if_neg (by decide), if_neg (by omega), hw]
      by_cases e : x.f1 = er
      · rw [if_pos e]
      · rw [if_neg e]
        have c5 : pitch ≤ x.f1 - kerf - er ∧ (x.f1 - kerf - er) % pitch = 0 := by rcases c4 with c4 | c4; exact absurd c4 e; exact c4
        rw [if_neg (by omega), if_neg (by omega), Int.tmod_eq_emod_of_nonneg (by omega), c5.2]
        rfl
    have c5 : x.f1 = er ∨ 1 ≤ x.f1 - kerf - er := by rcases c4 with c4 | c4; exact .inl c4; exact .inr (by omega)
    clear c4 h11 hw
    have c1a : 0 ≤ x.f0 := by omega
    have c1b : x.f0 < (sizes.length : Int) := by omega
    have c2a : 0 ≤ x.f1 := by omega
    have c2b : x.f1 ≤ len - rd sizes x.f0 := by omega
    clear c1 c2
    have hrl : x.f1 < ((rd_L1 gain x.f0).length : Int) := by rw [hrow]; unfold mx; split <;> omega
    by_cases c6 : rd (rd_L1 gain x.f0) x.f1 < 0
    · rw [if_pos c6]
      refine Ev.step (f := fun _ => some ([], [], 14)) (fun k => ?_) (Ev.now _)
      rw [sawmillref17_Cuts.j3, if_neg (by decide), if_pos (by omega), if_pos (by omega), if_pos (by omega), if_pos hrl, if_pos c6]
    rw [if_neg c6]
    exact rcuts_tail p (p.drop (i + 1)) d c er i p.length (rd sizes x.f0) x.f0 x.f1 ⟨c1a, by omega, c2a, hrl, c6⟩ hp hi hd hc h0 hl0 hl1 hk0 hk1 (by omega) (by omega) (by omega) c5
      (fun d c edge en er a1 a2 a3 a4 a5 => ih d c edge en er a1 a2 a3 a4 a5)
end
section
variable (len kerf pitch : Int) (sizes : List Int) (gain : List (List Int)) (chip dust : List Int) (p : List S69)
/-- What both Cuts answer. -/
def cutsR : List S49 × List S49 × Int := if checkL len kerf pitch sizes gain chip dust = 0 then cutsL len kerf pitch sizes gain p 0 false [] [] else ([], [], checkL len kerf pitch sizes gain chip dust)
theorem rcuts_ev (hp : p.length ≤ 300) : Ev (fun k => sawmillref17_Cuts.f k len kerf pitch sizes gain chip dust p) (cutsR len kerf pitch sizes gain chip dust p) := by
  unfold sawmillref17_Cuts.f cutsR
  refine Ev.bind (rcheck_ev len kerf pitch sizes gain chip dust) ?_
  by_cases h : checkL len kerf pitch sizes gain chip dust = 0
  · simp only [h, if_true]
    have O := (okLine_iff _ _ _ _ _ _ _).mp h
    have := rcuts_l0 O p hp p.length 0 [] [] 0 false 0 (by omega) (by simp) (by simp) (Int.le_refl _) O.len0 (.inl ⟨rfl, rfl⟩)
    rw [List.drop_zero] at this
    exact this
  · simp only [h, if_false]
    exact Ev.now _
theorem cuts_ev (hp : p.length ≤ 1000000) (hw : ∀ x ∈ p, (Lit.int .i64 x.f0).wf = true ∧ (Lit.int .i64 x.f1).wf = true) : Ev (fun k => cutting_Cuts.f k len kerf pitch sizes gain chip dust p) (cutsR len kerf pitch sizes gain chip dust p) := by
  unfold cutting_Cuts.f cutsR
  refine Ev.bind (check_ev len kerf pitch sizes gain chip dust) ?_
  by_cases h : checkL len kerf pitch sizes gain chip dust = 0
  · simp only [h, if_true]
    have O := (okLine_iff _ _ _ _ _ _ _).mp h
    unfold cutting_cuts.f
    rw [if_pos ⟨O, hp, hw⟩]
    exact Ev.now _
  · simp only [h, if_false]
    exact Ev.now _
end
theorem sameSpans_l0 (l : List S49) (hn : l.length < 1000000000000000000) : ∀ j i : Nat, i + j = l.length → Ev (fun k => sawmillref17_SameSpans.l0 k l l (i : Int)) true
  | 0, i, h => Ev.step (f := fun _ => some true) (fun k => by rw [sawmillref17_SameSpans.l0, if_neg (by omega)]) (Ev.now _)
  | j + 1, i, h => by
    refine Ev.step (fun k => ?_) (sameSpans_l0 l hn j (i + 1) (by omega))
    rw [sawmillref17_SameSpans.l0, if_pos (by omega), if_pos (by omega), if_pos (by omega), if_neg (by simp), wr1 i l.length (by omega) hn]
theorem sameSpans_ev (l : List S49) (hn : l.length < 1000000000000000000) : Ev (fun k => sawmillref17_SameSpans.f k l l) true := by
  unfold sawmillref17_SameSpans.f
  exact Ev.congr (fun k => if_pos rfl) (sameSpans_l0 l hn l.length 0 (by omega))
end Go.Proofs.YtoaicheopcojoaaDoor.P
