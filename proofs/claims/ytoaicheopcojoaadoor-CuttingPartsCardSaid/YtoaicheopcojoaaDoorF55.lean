import Derived.Test.YtoaicheopcojoaaDoorSq
namespace Go.Proofs.YtoaicheopcojoaaDoor.P
open Go.RowKit Go.Proofs.YtoaicheopcojoaaDoorW.PrintWords Go.Proofs.YtoaicheopcojoaaDoorW.PrintLast Go.Proofs.YtoaicheopcojoaaDoorW.PrintMore
attribute [local go_sem] max2_int min2_int max_two min_two max_three min_three max_four min_four   -- for this text's walks alone
set_option linter.unusedVariables false
set_option linter.unusedSimpArgs false
/-! ### sawmillref17_sum: function 55 -/
mutual
def sawmillref17_sum.l0 : Nat → List Int → List (S49) → Int → Int → Option (Int)
  | 0, _, _, _, _ => none
  | k + 1, x0, x1, x5, x6 => if x6 < (x1.length : Int) then (if 0 ≤ x6 then (sawmillref17_sum.l1 k x0 x1 x5 x6 ((rd_T49 x1 x6).f0)) else (none)) else (some x5)
def sawmillref17_sum.l1 : Nat → List Int → List (S49) → Int → Int → Int → Option (Int)
  | 0, _, _, _, _, _ => none
  | k + 1, x0, x1, x5, x6, x7 => if 0 ≤ x6 then (if x6 < (x1.length : Int) then (if x7 < ((rd_T49 x1 x6).f1) then (if 0 ≤ x7 then (if x7 < (x0.length : Int) then (sawmillref17_sum.l1 k x0 x1 (wrap64 (x5 + (rd x0 x7))) x6 (wrap64 (x7 + 1))) else (none)) else (none)) else (sawmillref17_sum.l0 k x0 x1 x5 (wrap64 (x6 + 1)))) else (none)) else (none)
end
def sawmillref17_sum.f (k : Nat) (l0 : List Int) (l1 : List (S49)) : Option (Int) := sawmillref17_sum.l0 k l0 l1 0 0
theorem sawmillref17_sum.mono_l : ∀ k, (∀ y0 y1 y2 y3, LeO (sawmillref17_sum.l0 k y0 y1 y2 y3) (sawmillref17_sum.l0 (k + 1) y0 y1 y2 y3)) ∧ (∀ y0 y1 y2 y3 y4, LeO (sawmillref17_sum.l1 k y0 y1 y2 y3 y4) (sawmillref17_sum.l1 (k + 1) y0 y1 y2 y3 y4))
  | 0 => ⟨fun _ _ _ _ r h => by simp [sawmillref17_sum.l0] at h, fun _ _ _ _ _ r h => by simp [sawmillref17_sum.l1] at h⟩
  | k + 1 => by
    obtain ⟨ih0, ih1⟩ := sawmillref17_sum.mono_l k
    refine ⟨?_, ?_⟩
    · intro y0 y1 y2 y3
      unfold sawmillref17_sum.l0
      repeat' first
      | (with_reducible exact ih0 _ _ _ _)
      | (with_reducible exact ih1 _ _ _ _ _)
      | (with_reducible exact LeO.refl _)
      | (with_reducible exact LeO.none _)
      | (with_reducible refine LeO.ite ?_ ?_)
      | (with_reducible refine LeO.bind ?_ (fun _ => ?_))
      | exact ih0 _ _ _ _
      | exact ih1 _ _ _ _ _
      | exact LeO.none _
      | refine LeO.ite ?_ ?_
      | refine LeO.bind ?_ (fun _ => ?_)
    · intro y0 y1 y2 y3 y4
      unfold sawmillref17_sum.l1
      repeat' first
      | (with_reducible exact ih0 _ _ _ _)
      | (with_reducible exact ih1 _ _ _ _ _)
      | (with_reducible exact LeO.refl _)
      | (with_reducible exact LeO.none _)
      | (with_reducible refine LeO.ite ?_ ?_)
      | (with_reducible refine LeO.bind ?_ (fun _ => ?_))
      | exact ih0 _ _ _ _
      | exact ih1 _ _ _ _ _
      | exact LeO.none _
      | refine LeO.ite ?_ ?_
      | refine LeO.bind ?_ (fun _ => ?_)
theorem sawmillref17_sum.mono : ∀ a0 a1 k, LeO (sawmillref17_sum.f k a0 a1) (sawmillref17_sum.f (k + 1) a0 a1) := by
  intro a0 a1 k
  obtain ⟨ih0, ih1⟩ := sawmillref17_sum.mono_l k
  unfold sawmillref17_sum.f
  repeat' first
      | (with_reducible exact ih0 _ _ _ _)
      | (with_reducible exact ih1 _ _ _ _ _)
      | (with_reducible exact LeO.refl _)
      | (with_reducible exact LeO.none _)
      | (with_reducible refine LeO.ite ?_ ?_)
      | (with_reducible refine LeO.bind ?_ (fun _ => ?_))
      | exact ih0 _ _ _ _
      | exact ih1 _ _ _ _ _
      | exact LeO.none _
      | refine LeO.ite ?_ ?_
      | refine LeO.bind ?_ (fun _ => ?_)
set_option maxHeartbeats 8000000 in
set_option maxRecDepth 100000 in
theorem sawmillref17_sum.calls (k : Nat) (A0 : Option Addr) (c0 : Nat) (l0 : List Int) (A1 : Option Addr) (c1 : Nat) (l1 : List (S49)) (r : Int) (w : World) (hr0 : Kd.C (Kd.int .i64) w A0 l0.length l0) (hc0 : l0.length ≤ c0) (hr1 : Kd.C k49 w A1 l1.length l1) (hc1 : l1.length ≤ c1) (h : sawmillref17_sum.f k l0 l1 = some r) :
    Calls Tryd.prog 55 #[.slice A0 l0.length c0, .slice A1 l1.length c1] w fun e w' => e = .returned (.int .i64 r) ∧ Drawn0 w w' := by
 have HR0 := Aside0.mk hr0
 have HC0 := Aside0.mk hc0
 clear hr0 hc0
 have HR1 := Aside0.mk hr1
 have HC1 := Aside0.mk hc1
 clear hr1 hc1
 have H : (sawmillref17_sum.l0 k l0 l1 0 0) = some r := h
 clear h
 have H' := Aside0.mk H
 clear H
 go_enter Tryd.func55, Tryd.ntmps55
 go_wp2
 go_loopg [5, 6] k (fun kq v5 v6 w' => ∃ (x5_1 : Int) (x6_1 : Int), v5 = .int .i64 x5_1 ∧ v6 = .int .i64 x6_1 ∧ Aside0 (sawmillref17_sum.l0 kq l0 l1 x5_1 x6_1 = some r) ∧ Aside0 (kq ≤ k) ∧ Drawn0 w w')
 case atStart => exact ⟨(0), (0), rs1, rs1, H', ⟨Nat.le_refl _⟩, dr1⟩
 clear H'; (try clear c1); (try clear p2)
 obtain ⟨x5_1, x6_1, rfl, rfl, HA, HK1, ⟨m1, rfl⟩⟩ := hrel
 rcases gk with _ | k1
 · exact absurd HA.out (by simp [sawmillref17_sum.l0])
 have H := HA.out
 clear HA
 simp only [sawmillref17_sum.l0] at H
 by_cases c3 : x6_1 < (l1.length : Int)
 rotate_left
 · rw [if_neg c3] at H
   have c3b0 : decide (x6_1 < (l1.length : Int)) = false := decide_eq_false c3
   clear c3
   obtain rfl := Option.some.inj H
   go_wp2
   go_ret
   exact ⟨by first | rfl | (simp; done) | (simp [*]; done), dr1⟩
 rw [if_pos c3] at H
 have c3b0 : decide (x6_1 < (l1.length : Int)) = true := decide_eq_true c3
 clear c3
 obtain ⟨c4, H⟩ := gd1 H
 have c4b0 : decide (0 ≤ x6_1) = true := decide_eq_true c4
 clear c4
 have H' := Aside0.mk H
 clear H
 have p294 : 0 ≤ (x6_1 : Int) := da1
 have q294 : x6_1 < (l1.length : Int) := da1
 obtain ⟨ad294, e294, hx294_0, hx294_1⟩ := at_T49 HR1.out x6_1 p294 q294
 cases e294
 replace p294 := eq_true p294
 replace q294 := eq_true q294
 go_wp2
 go_loopg [5, 7] k1 (fun kq v5 v7 w' => ∃ (x5_2 : Int) (x7_2 : Int), v5 = .int .i64 x5_2 ∧ v7 = .int .i64 x7_2 ∧ Aside0 (sawmillref17_sum.l1 kq l0 l1 x5_2 x6_1 x7_2 = some r) ∧ Aside0 (kq ≤ k1) ∧ Drawn0 w w')
 case atStart => exact ⟨(x5_1), ((rd_T49 l1 x6_1).f0), rs1, rs1, H', ⟨Nat.le_refl _⟩, dr1⟩
 clear H'; (try clear c1); (try clear p2); (try clear q2); (try clear hx2); (try clear c3); (try clear c3b0); (try clear c4); (try clear c4b0); (try clear hx294_0); (try clear hx294_1); (try clear p2); (try clear p294); (try clear q294)
 obtain ⟨x5_2, x7_2, rfl, rfl, HA, HK2, ⟨m2, rfl⟩⟩ := hrel
 rcases gk with _ | k2
 · exact absurd HA.out (by simp [sawmillref17_sum.l1])
 have H := HA.out
 clear HA
 simp only [sawmillref17_sum.l1] at H
 obtain ⟨c5, H⟩ := gd1 H
 have c5b0 : decide (0 ≤ x6_1) = true := decide_eq_true c5
 clear c5
 obtain ⟨c6, H⟩ := gd1 H
 have c6b0 : decide (x6_1 < (l1.length : Int)) = true := decide_eq_true c6
 clear c6
 by_cases c7 : x7_2 < ((rd_T49 l1 x6_1).f1)
 rotate_left
 · rw [if_neg c7] at H
   have c7b0 : decide (x7_2 < ((rd_T49 l1 x6_1).f1)) = false := decide_eq_false c7
   clear c7
   have H' := Aside0.mk H
   clear H
   have p295 : 0 ≤ (x6_1 : Int) := da1
   have q295 : x6_1 < (l1.length : Int) := da1
   obtain ⟨ad295, e295, hx295_0, hx295_1⟩ := at_T49 HR1.out x6_1 p295 q295
   obtain rfl : ad294 = ad295 := (by injection e295)
   replace p295 := eq_true p295
   replace q295 := eq_true q295
   go_wp2
   go_roundg k2
   case measure => have := HK1.out; have := HK2.out; omega
   case rel => exact ⟨(x5_2), (wrap64 (x6_1 + 1)), rs1, rs1, H', ⟨by have := HK1.out; have := HK2.out; omega⟩, dr1⟩
 rw [if_pos c7] at H
 have c7b0 : decide (x7_2 < ((rd_T49 l1 x6_1).f1)) = true := decide_eq_true c7
 clear c7
 obtain ⟨c8, H⟩ := gd1 H
 have c8b0 : decide (0 ≤ x7_2) = true := decide_eq_true c8
 clear c8
 obtain ⟨c9, H⟩ := gd1 H
 have c9b0 : decide (x7_2 < (l0.length : Int)) = true := decide_eq_true c9
 clear c9
 have H' := Aside0.mk H
 clear H
 have p295 : 0 ≤ (x6_1 : Int) := da1
 have q295 : x6_1 < (l1.length : Int) := da1
 obtain ⟨ad295, e295, hx295_0, hx295_1⟩ := at_T49 HR1.out x6_1 p295 q295
 obtain rfl : ad294 = ad295 := (by injection e295)
 replace p295 := eq_true p295
 replace q295 := eq_true q295
 have p296 : 0 ≤ (x7_2 : Int) := da1
 have q296 : x7_2 < (l0.length : Int) := da1
 obtain ⟨ad296, e296, hx296_0⟩ := Kd.at_int HR0.out x7_2 p296 q296
 cases e296
 replace p296 := eq_true p296
 replace q296 := eq_true q296
 go_wp2
 go_roundg k2
 case measure => have := HK1.out; have := HK2.out; omega
 case rel => exact ⟨(wrap64 (x5_2 + (rd l0 x7_2))), (wrap64 (x7_2 + 1)), rs1, rs1, H', ⟨by have := HK1.out; have := HK2.out; omega⟩, dr1⟩
end Go.Proofs.YtoaicheopcojoaaDoor.P
