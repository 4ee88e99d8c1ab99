import Derived.Test.YtoaicheopcojoaaDoorHB1
import Derived.Test.YtoaicheopcojoaaDoorHCuts
namespace Go.Proofs.YtoaicheopcojoaaDoor.P
open Go.RowKit Go.Proofs.YtoaicheopcojoaaDoorW.PrintWords Go.Proofs.YtoaicheopcojoaaDoorW.PrintLast Go.Proofs.YtoaicheopcojoaaDoorW.PrintMore
set_option linter.unusedVariables false
set_option linter.unusedSimpArgs false

/-! Best's plain law: every choice is the first greatest of all candidates. -/
theorem wr_add (a b : Int) : wrap64 (wrap64 a + b) = wrap64 (a + b) := by unfold wrap64; omega
theorem wr_add' (a b : Int) : wrap64 (a + wrap64 b) = wrap64 (a + b) := by unfold wrap64; omega
theorem wr_sub (a b : Int) : wrap64 (wrap64 a - b) = wrap64 (a - b) := by unfold wrap64; omega
section
variable (len kerf pitch : Int) (sizes : List Int) (gain : List (List Int)) (cp dp : List Int) (V : Int → Int)
/-- A piece with its cut and the best behind it. -/
def aft (i q : Int) : Int := if q + rd sizes i < len then rd (rd_L1 gain i) q + (rd dp (mn (q + rd sizes i + kerf) len) - rd dp (q + rd sizes i) + V (mn (q + rd sizes i + kerf) len)) else rd (rd_L1 gain i) q
def Fit (i q : Int) : Prop := 0 ≤ i ∧ i < (sizes.length : Int) ∧ q + rd sizes i ≤ len ∧ 0 ≤ rd (rd_L1 gain i) q
def posM (e m : Int) : Int := if m = 0 then e else e + m * pitch + kerf
def paidM (e m : Int) : Int := if m = 0 then 0 else rd cp (e + m * pitch) - rd cp e + (rd dp (e + m * pitch + kerf) - rd dp (e + m * pitch))
/-- The candidates with m pitches of waste ahead of them. -/
def CM (e m : Int) (y : S97) : Prop := Fit len sizes gain y.f0.f0 y.f0.f1 ∧ y.f0.f1 = posM kerf pitch e m ∧ y.f1 = paidM kerf pitch cp dp e m + aft len kerf sizes gain dp V y.f0.f0 y.f0.f1
end
/-- x is worth no less than y, and does not lie behind it at the same value. -/
def Bt (x y : S97) : Prop := y.f1 < x.f1 ∨ (y.f1 = x.f1 ∧ (x.f0.f1 < y.f0.f1 ∨ (x.f0.f1 = y.f0.f1 ∧ x.f0.f0 ≤ y.f0.f0)))
def Ahead (x y : S97) : Prop := x.f0.f1 < y.f0.f1 ∨ (x.f0.f1 = y.f0.f1 ∧ x.f0.f0 < y.f0.f0)
/-- The first greatest of P; none where P is empty. -/
def TopO (P : S97 → Prop) (o : S97) : Prop := (o = noneC ∧ ∀ y, ¬ P y) ∨ (0 ≤ o.f0.f0 ∧ P o ∧ ∀ y, P y → Bt o y)
/-- The first greatest of P, if it is greater than the base. -/
def TopB (P : S97 → Prop) (base : Int) (o : S97) : Prop := (o = ⟨⟨-1, -1⟩, base⟩ ∧ ∀ y, P y → y.f1 ≤ base) ∨ (0 ≤ o.f0.f0 ∧ P o ∧ base < o.f1 ∧ ∀ y, P y → Bt o y)
theorem not_noneC {o : S97} (h : 0 ≤ o.f0.f0) : o ≠ noneC := by rintro rfl; simp [noneC] at h
theorem TopO.congr {P Q : S97 → Prop} {o : S97} (h : ∀ y, P y ↔ Q y) (t : TopO P o) : TopO Q o := by
  rcases t with ⟨h1, h2⟩ | ⟨h1, h2, h3⟩
  · exact .inl ⟨h1, fun y hy => h2 y ((h y).mpr hy)⟩
  · exact .inr ⟨h1, (h o).mp h2, fun y hy => h3 y ((h y).mpr hy)⟩
theorem TopB.congr {P Q : S97 → Prop} {base : Int} {o : S97} (h : ∀ y, P y ↔ Q y) (t : TopB P base o) : TopB Q base o := by
  rcases t with ⟨h1, h2⟩ | ⟨h1, h2, h3, h4⟩
  · exact .inl ⟨h1, fun y hy => h2 y ((h y).mpr hy)⟩
  · exact .inr ⟨h1, (h o).mp h2, h3, fun y hy => h4 y ((h y).mpr hy)⟩
theorem TopO.or {P Q : S97 → Prop} {a b : S97} (ha : TopO P a) (hb : TopO Q b) (hpq : ∀ x y, P x → Q y → Ahead x y) : TopO (fun y => P y ∨ Q y) (if b ≠ noneC ∧ (a = noneC ∨ a.f1 < b.f1) then b else a) := by
  rcases ha with ⟨a1, a2⟩ | ⟨a1, a2, a3⟩
  · rcases hb with ⟨b1, b2⟩ | ⟨b1, b2, b3⟩
    · rw [if_neg (fun h => h.1 b1)]
      exact .inl ⟨a1, fun y hy => hy.elim (a2 y) (b2 y)⟩
    · rw [if_pos ⟨not_noneC b1, .inl a1⟩]
      exact .inr ⟨b1, .inr b2, fun y hy => hy.elim (fun h => absurd h (a2 y)) (b3 y)⟩
  · rcases hb with ⟨b1, b2⟩ | ⟨b1, b2, b3⟩
    · rw [if_neg (fun h => h.1 b1)]
      exact .inr ⟨a1, .inl a2, fun y hy => hy.elim (a3 y) (fun h => absurd h (b2 y))⟩
    · by_cases h : a.f1 < b.f1
      · rw [if_pos ⟨not_noneC b1, .inr h⟩]
        refine .inr ⟨b1, .inr b2, fun y hy => hy.elim (fun h' => .inl ?_) (b3 y)⟩
        rcases a3 y h' with h'' | h'' <;> omega
      · rw [if_neg (fun h' => h'.2.elim (not_noneC a1) h)]
        refine .inr ⟨a1, .inl a2, fun y hy => hy.elim (a3 y) (fun h' => ?_)⟩
        have hq := hpq a y a2 h'
        have hb := b3 y h'
        unfold Ahead at hq
        unfold Bt at hb ⊢
        omega
theorem TopB.or {P Q : S97 → Prop} {base : Int} {a b : S97} (ha : TopB P base a) (hb : TopO Q b) (hpq : ∀ x y, P x → Q y → Ahead x y) : TopB (fun y => P y ∨ Q y) base (better b a) := by
  unfold better
  rcases ha with ⟨a1, a2⟩ | ⟨a1, a2, a4, a3⟩
  · have a0 : a.f1 = base := by rw [a1]
    rcases hb with ⟨b1, b2⟩ | ⟨b1, b2, b3⟩
    · rw [if_neg (fun h => h.1 b1)]
      exact .inl ⟨a1, fun y hy => hy.elim (a2 y) (fun h => absurd h (b2 y))⟩
    · by_cases h : a.f1 < b.f1
      · rw [if_pos ⟨not_noneC b1, h⟩]
        refine .inr ⟨b1, .inr b2, by omega, fun y hy => hy.elim (fun h' => .inl ?_) (b3 y)⟩
        have := a2 y h'
        omega
      · rw [if_neg (fun h' => h h'.2)]
        refine .inl ⟨a1, fun y hy => hy.elim (a2 y) (fun h' => ?_)⟩
        have hb := b3 y h'
        unfold Bt at hb
        omega
  · rcases hb with ⟨b1, b2⟩ | ⟨b1, b2, b3⟩
    · rw [if_neg (fun h => h.1 b1)]
      exact .inr ⟨a1, .inl a2, a4, fun y hy => hy.elim (a3 y) (fun h => absurd h (b2 y))⟩
    · by_cases h : a.f1 < b.f1
      · rw [if_pos ⟨not_noneC b1, h⟩]
        refine .inr ⟨b1, .inr b2, by omega, fun y hy => hy.elim (fun h' => .inl ?_) (b3 y)⟩
        rcases a3 y h' with h'' | h'' <;> omega
      · rw [if_neg (fun h' => h h'.2)]
        refine .inr ⟨a1, .inl a2, a4, fun y hy => hy.elim (a3 y) (fun h' => ?_)⟩
        have hq := hpq a y a2 h'
        have hb := b3 y h'
        unfold Ahead at hq
        unfold Bt at hb ⊢
        omega
theorem Bt.anti {x y : S97} (h : Bt x y) (h' : Bt y x) : x = y := by
  unfold Bt at h h'
  cases x with | mk a v => cases y with | mk b u =>
  cases a with | mk a1 a2 => cases b with | mk b1 b2 =>
  simp only at h h'
  have e1 : a1 = b1 := by omega
  have e2 : a2 = b2 := by omega
  have e3 : v = u := by omega
  rw [e1, e2, e3]
theorem TopB.unique {P : S97 → Prop} {base : Int} {a b : S97} (ha : TopB P base a) (hb : TopB P base b) : a = b := by
  rcases ha with ⟨a1, a2⟩ | ⟨a1, a2, a4, a3⟩
  · rcases hb with ⟨b1, b2⟩ | ⟨b1, b2, b4, b3⟩
    · rw [a1, b1]
    · have := a2 b b2; omega
  · rcases hb with ⟨b1, b2⟩ | ⟨b1, b2, b4, b3⟩
    · have := b2 a a2; omega
    · exact (a3 b b2).anti (b3 a a2)
theorem TopO.shift {P : S97 → Prop} {a : S97} (h : TopO P a) (s : Int) : TopO (fun y => P ⟨y.f0, y.f1 - s⟩) (if a = noneC then noneC else ⟨a.f0, s + a.f1⟩) := by
  rcases h with ⟨a1, a2⟩ | ⟨a1, a2, a3⟩
  · rw [if_pos a1]
    exact .inl ⟨rfl, fun y hy => a2 _ hy⟩
  · rw [if_neg (not_noneC a1)]
    refine .inr ⟨a1, ?_, fun y hy => ?_⟩
    · show P ⟨a.f0, s + a.f1 - s⟩
      rw [show s + a.f1 - s = a.f1 by omega]
      exact a2
    · have := a3 _ hy
      unfold Bt at this ⊢
      simp only at this ⊢
      omega
theorem TopO.empty {P : S97 → Prop} (h : ∀ y, ¬ P y) : TopO P noneC := .inl ⟨rfl, h⟩
theorem TopO.val {P : S97 → Prop} {a : S97} (h : TopO P a) : a ≠ noneC → 0 ≤ a.f0.f0 ∧ P a := by
  intro hn
  rcases h with ⟨a1, a2⟩ | ⟨a1, a2, a3⟩
  · exact absurd a1 hn
  · exact ⟨a1, a2⟩
end Go.Proofs.YtoaicheopcojoaaDoor.P
