import Derived.Test.YtoaicheopcojoaaDoorHP2
import Derived.Test.YtoaicheopcojoaaDoorHC2
import Derived.Test.YtoaicheopcojoaaDoorF56
namespace Go.Proofs.YtoaicheopcojoaaDoor.P
open Go.RowKit Go.Proofs.YtoaicheopcojoaaDoorW.PrintWords Go.Proofs.YtoaicheopcojoaaDoorW.PrintLast Go.Proofs.YtoaicheopcojoaaDoorW.PrintMore
set_option linter.unusedVariables false
set_option linter.unusedSimpArgs false

/-! Prefix sums. -/
def pre (l : List Int) : Nat → Int
  | 0 => 0
  | n + 1 => pre l n + rd l (n : Int)
def preL (l : List Int) : List Int := (List.range (l.length + 1)).map (pre l)
def OkL (l : List Int) : Prop := ∀ p : Int, 0 ≤ p → p < (l.length : Int) → -1125899906842624 ≤ rd l p ∧ rd l p ≤ 1125899906842624
theorem preL_len (l : List Int) : (preL l).length = l.length + 1 := by simp [preL]
theorem rd_preL (l : List Int) (x : Int) (h0 : 0 ≤ x) (h1 : x ≤ (l.length : Int)) : rd (preL l) x = pre l x.toNat := by
  have : x.toNat < l.length + 1 := by omega
  simp [rd, preL, this]
theorem pre_diff {l : List Int} (h : OkL l) (a n : Nat) (hn : a + n ≤ l.length) : -((n : Int) * 1125899906842624) ≤ pre l (a + n) - pre l a ∧ pre l (a + n) - pre l a ≤ (n : Int) * 1125899906842624 := by
  induction n with
  | zero => simp
  | succ n ih =>
    have := ih (by omega)
    have := h ((a + n : Nat) : Int) (by omega) (by omega)
    rw [← Nat.add_assoc, pre]
    omega
theorem pre_sums {l : List Int} {len : Int} (h : OkL l) (hl : (l.length : Int) = len) : Sums len (preL l) := by
  intro a b h0 h1 h2
  rw [rd_preL l a h0 (by omega), rd_preL l b (by omega) (by omega)]
  have := pre_diff h a.toNat (b - a).toNat (by omega)
  rw [show a.toNat + (b - a).toNat = b.toNat by omega] at this
  rw [show ((b - a).toNat : Int) = b - a by omega] at this
  exact this
theorem pre_bd {l : List Int} (h : OkL l) (hl : l.length ≤ 2000) (n : Nat) (hn : n ≤ l.length) : -2251799813685248000 ≤ pre l n ∧ pre l n ≤ 2251799813685248000 := by
  have := pre_diff h 0 n (by omega)
  rw [Nat.zero_add] at this
  simp only [pre] at this
  omega
theorem pre_wrap {l : List Int} (h : OkL l) (hl : l.length ≤ 2000) (n : Nat) (hn : n < l.length) : wrap64 (pre l n + rd l (n : Int)) = pre l (n + 1) := by
  have h1 := pre_bd h hl n (by omega)
  have h2 := h n (by omega) (by omega)
  rw [pre]
  exact IntWalk.wrap64_in _ (by omega)
theorem rd_of_get {l : List Int} {n : Nat} {v : Int} (h : l[n]? = some v) : rd l (n : Int) = v := by simp [rd, h]
theorem sums_l0 {l : List Int} (h : OkL l) (hl : l.length ≤ 2000) : ∀ (j i : Nat) (x : List Int), i + j = l.length → x.length = l.length + 1 → (∀ q : Nat, q ≤ i → x[q]? = some (pre l q)) → Ev (fun k => cutting_sums.l0 k x l (l.length : Int) (i : Int)) (preL l)
  | 0, i, x, hi, hx, hq => by
    have e : x = preL l := by
      apply List.ext_getElem?
      intro n
      by_cases hn : n ≤ l.length
      · rw [hq n (by omega)]
        simp [preL, show n < l.length + 1 by omega]
      · rw [List.getElem?_eq_none (by omega), List.getElem?_eq_none (by rw [preL_len]; omega)]
    refine Ev.step (f := fun _ => some x) (fun k => ?_) (e ▸ Ev.now _)
    rw [cutting_sums.l0, if_neg (by omega)]
  | j + 1, i, x, hi, hx, hq => by
    have hlt : i < l.length := by omega
    have hw : wrap64 ((i : Int) + 1) = ((i + 1 : Nat) : Int) := wr1 i l.length hlt (by omega)
    have t := sums_l0 h hl j (i + 1) (x.set (i + 1) (pre l (i + 1))) (by omega) (by rw [List.length_set]; exact hx) (fun q hqi => by
      by_cases e : q = i + 1
      · subst e
        rw [List.getElem?_set_self (by omega)]
      · rw [List.getElem?_set_ne (by omega)]
        exact hq q (by omega))
    refine Ev.step (fun k => ?_) t
    rw [cutting_sums.l0, if_pos (by omega), if_pos (by omega), if_pos (by omega), if_pos (by omega), hw, if_pos (by omega), if_pos (by omega), rd_of_get (hq i (Nat.le_refl _)), pre_wrap h hl i hlt, Int.toNat_natCast]
theorem sums_ev {l : List Int} (h : OkL l) (hl : l.length ≤ 2000) : Ev (fun k => cutting_sums.f k l) (preL l) := by
  have hw : wrap64 ((l.length : Int) + 1) = ((l.length + 1 : Nat) : Int) := by rw [IntWalk.wrap64_in _ (by omega)]; rfl
  have t := sums_l0 h hl l.length 0 (List.replicate (l.length + 1) 0) (by omega) (by simp) (fun q hq => by
    obtain rfl : q = 0 := by omega
    simp [pre])
  refine Ev.congr (fun k => ?_) t
  unfold cutting_sums.f
  rw [hw, if_pos (by omega), if_pos (by omega), Int.toNat_natCast]
  rfl
theorem ln_of {len kerf pitch : Int} {sizes : List Int} {gain : List (List Int)} {chip dust : List Int} (O : OkLine len kerf pitch sizes gain chip dust) : Ln len kerf pitch sizes gain (preL chip) (preL dust) := by
  refine ⟨O.len0, O.len1, O.kerf0, O.kerf1, O.pitch0, O.pitch1, O.sizes0, O.nsizes, O.ngain, O.rows, fun i q h0 hf => ?_, pre_sums (fun p a b => O.bchip p a (by have := O.nchip; omega)) O.nchip, pre_sums (fun p a b => O.bdust p a (by have := O.ndust; omega)) O.ndust⟩
  have hr := O.rows i hf.1 hf.2.1
  exact (O.bgain i hf.1 hf.2.1 q h0 (by rw [hr]; have := hf.2.2.1; unfold mx; split <;> omega)).2
end Go.Proofs.YtoaicheopcojoaaDoor.P
