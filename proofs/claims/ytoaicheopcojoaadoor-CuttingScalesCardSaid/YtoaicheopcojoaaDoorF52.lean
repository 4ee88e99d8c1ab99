import Derived.Test.YtoaicheopcojoaaDoorSq
namespace Go.Proofs.YtoaicheopcojoaaDoor.P
open Go.RowKit Go.Proofs.YtoaicheopcojoaaDoorW.PrintWords Go.Proofs.YtoaicheopcojoaaDoorW.PrintLast Go.Proofs.YtoaicheopcojoaaDoorW.PrintMore
attribute [local go_sem] max2_int min2_int max_two min_two max_three min_three max_four min_four   -- for this text's walks alone
set_option linter.unusedVariables false
set_option linter.unusedSimpArgs false
/-! ### sawmillref17_small: function 52 -/
def sawmillref17_small.l0 : Nat → List Int → Int → Option (Bool)
  | 0, _, _ => none
  | k + 1, x0, x3 => if x3 < (x0.length : Int) then (if 0 ≤ x3 then (if (rd x0 x3) < (-1125899906842624) then (some false) else (if (rd x0 x3) > 1125899906842624 then (some false) else (sawmillref17_small.l0 k x0 (wrap64 (x3 + 1))))) else (none)) else (some true)
def sawmillref17_small.f (k : Nat) (l0 : List Int) : Option (Bool) := sawmillref17_small.l0 k l0 0
theorem sawmillref17_small.mono_l : ∀ k, (∀ y0 y1, LeO (sawmillref17_small.l0 k y0 y1) (sawmillref17_small.l0 (k + 1) y0 y1))
  | 0 => fun _ _ r h => by simp [sawmillref17_small.l0] at h
  | k + 1 => by
    have ih0 := sawmillref17_small.mono_l k
    · intro y0 y1
      unfold sawmillref17_small.l0
      repeat' first
      | (with_reducible exact ih0 _ _)
      | (with_reducible exact LeO.refl _)
      | (with_reducible exact LeO.none _)
      | (with_reducible refine LeO.ite ?_ ?_)
      | (with_reducible refine LeO.bind ?_ (fun _ => ?_))
      | exact ih0 _ _
      | exact LeO.none _
      | refine LeO.ite ?_ ?_
      | refine LeO.bind ?_ (fun _ => ?_)
theorem sawmillref17_small.mono : ∀ a0 k, LeO (sawmillref17_small.f k a0) (sawmillref17_small.f (k + 1) a0) := by
  intro a0 k
  have ih0 := sawmillref17_small.mono_l k
  unfold sawmillref17_small.f
  repeat' first
      | (with_reducible exact ih0 _ _)
      | (with_reducible exact LeO.refl _)
      | (with_reducible exact LeO.none _)
      | (with_reducible refine LeO.ite ?_ ?_)
      | (with_reducible refine LeO.bind ?_ (fun _ => ?_))
      | exact ih0 _ _
      | exact LeO.none _
      | refine LeO.ite ?_ ?_
      | refine LeO.bind ?_ (fun _ => ?_)
set_option maxHeartbeats 8000000 in
set_option maxRecDepth 100000 in
theorem sawmillref17_small.calls (k : Nat) (A0 : Option Addr) (c0 : Nat) (l0 : List Int) (r : Bool) (w : World) (hr0 : Kd.C (Kd.int .i64) w A0 l0.length l0) (hc0 : l0.length ≤ c0) (h : sawmillref17_small.f k l0 = some r) :
    Calls Tryd.prog 52 #[.slice A0 l0.length c0] w fun e w' => e = .returned (.bool r) ∧ Drawn0 w w' := by
 have HR0 := Aside0.mk hr0
 have HC0 := Aside0.mk hc0
 clear hr0 hc0
 have H : (sawmillref17_small.l0 k l0 0) = some r := h
 clear h
 have H' := Aside0.mk H
 clear H
 go_enter Tryd.func52, Tryd.ntmps52
 go_wp2
 go_loopg [3] k (fun kq v3 w' => ∃ (x3_1 : Int), v3 = .int .i64 x3_1 ∧ Aside0 (sawmillref17_small.l0 kq l0 x3_1 = some r) ∧ Aside0 (kq ≤ k) ∧ Drawn0 w w')
 case atStart => exact ⟨(0), rs1, H', ⟨Nat.le_refl _⟩, dr1⟩
 clear H'
 obtain ⟨x3_1, rfl, HA, HK1, ⟨m1, rfl⟩⟩ := hrel
 rcases gk with _ | k1
 · exact absurd HA.out (by simp [sawmillref17_small.l0])
 have H := HA.out
 clear HA
 simp only [sawmillref17_small.l0] at H
 by_cases c2 : x3_1 < (l0.length : Int)
 rotate_left
 · rw [if_neg c2] at H
   have c2b0 : decide (x3_1 < (l0.length : Int)) = false := decide_eq_false c2
   clear c2
   obtain rfl := Option.some.inj H
   go_wp2
   go_ret
   exact ⟨by first | rfl | (simp; done) | (simp [*]; done), dr1⟩
 rw [if_pos c2] at H
 have c2b0 : decide (x3_1 < (l0.length : Int)) = true := decide_eq_true c2
 clear c2
 obtain ⟨c3, H⟩ := gd1 H
 have c3b0 : decide (0 ≤ x3_1) = true := decide_eq_true c3
 clear c3
 by_cases c4 : (rd l0 x3_1) < (-1125899906842624)
 · rw [if_pos c4] at H
   have c4b0 : decide ((rd l0 x3_1) < (-1125899906842624)) = true := decide_eq_true c4
   clear c4
   obtain rfl := Option.some.inj H
   have p251 : 0 ≤ (x3_1 : Int) := da1
   have q251 : x3_1 < (l0.length : Int) := da1
   obtain ⟨ad251, e251, hx251_0⟩ := Kd.at_int HR0.out x3_1 p251 q251
   cases e251
   replace p251 := eq_true p251
   replace q251 := eq_true q251
   go_wp2
   go_ret
   exact ⟨by first | rfl | (simp; done) | (simp [*]; done), dr1⟩
 rw [if_neg c4] at H
 have c4b0 : decide ((rd l0 x3_1) < (-1125899906842624)) = false := decide_eq_false c4
 clear c4
 by_cases c5 : (rd l0 x3_1) > 1125899906842624
 · rw [if_pos c5] at H
   have c5b0 : decide (1125899906842624 < (rd l0 x3_1)) = true := decide_eq_true c5
   clear c5
   obtain rfl := Option.some.inj H
   have p251 : 0 ≤ (x3_1 : Int) := da1
   have q251 : x3_1 < (l0.length : Int) := da1
   obtain ⟨ad251, e251, hx251_0⟩ := Kd.at_int HR0.out x3_1 p251 q251
   cases e251
   replace p251 := eq_true p251
   replace q251 := eq_true q251
   have p252 : 0 ≤ (x3_1 : Int) := da1
   have q252 : x3_1 < (l0.length : Int) := da1
   obtain ⟨ad252, e252, hx252_0⟩ := Kd.at_int HR0.out x3_1 p252 q252
   obtain rfl : ad251 = ad252 := (by injection e252)
   replace p252 := eq_true p252
   replace q252 := eq_true q252
   go_wp2
   go_ret
   exact ⟨by first | rfl | (simp; done) | (simp [*]; done), dr1⟩
 rw [if_neg c5] at H
 have c5b0 : decide (1125899906842624 < (rd l0 x3_1)) = false := decide_eq_false c5
 clear c5
 have H' := Aside0.mk H
 clear H
 have p251 : 0 ≤ (x3_1 : Int) := da1
 have q251 : x3_1 < (l0.length : Int) := da1
 obtain ⟨ad251, e251, hx251_0⟩ := Kd.at_int HR0.out x3_1 p251 q251
 cases e251
 replace p251 := eq_true p251
 replace q251 := eq_true q251
 have p252 : 0 ≤ (x3_1 : Int) := da1
 have q252 : x3_1 < (l0.length : Int) := da1
 obtain ⟨ad252, e252, hx252_0⟩ := Kd.at_int HR0.out x3_1 p252 q252
 obtain rfl : ad251 = ad252 := (by injection e252)
 replace p252 := eq_true p252
 replace q252 := eq_true q252
 go_wp2
 go_roundg k1
 case measure => have := HK1.out; omega
 case rel => exact ⟨(wrap64 (x3_1 + 1)), rs1, H', ⟨by have := HK1.out; omega⟩, dr1⟩
end Go.Proofs.YtoaicheopcojoaaDoor.P
