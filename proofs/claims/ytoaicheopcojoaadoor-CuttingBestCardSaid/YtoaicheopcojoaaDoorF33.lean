import Derived.Test.YtoaicheopcojoaaDoorSq
import Derived.Test.YtoaicheopcojoaaDoorX4
namespace Go.Proofs.YtoaicheopcojoaaDoor.P
open Go.RowKit Go.Proofs.YtoaicheopcojoaaDoorW.PrintWords Go.Proofs.YtoaicheopcojoaaDoorW.PrintLast Go.Proofs.YtoaicheopcojoaaDoorW.PrintMore
attribute [local go_sem] max2_int min2_int max_two min_two max_three min_three max_four min_four   -- for this text's walks alone
set_option linter.unusedVariables false
set_option linter.unusedSimpArgs false
attribute [local go_sem high] eqA69
/-! ### sawmilllaw17_before: function 33 -/
mutual
def sawmilllaw17_before.l0 : Nat → List (S69) → List (S69) → Int → Option (Bool)
  | 0, _, _, _ => none
  | k + 1, x0, x1, x5 => if x5 < (x0.length : Int) then (sawmilllaw17_before.j1 k x0 x1 x5 (decide (x5 < (x1.length : Int)))) else (sawmilllaw17_before.j1 k x0 x1 x5 false)
def sawmilllaw17_before.j1 : Nat → List (S69) → List (S69) → Int → Bool → Option (Bool)
  | 0, _, _, _, _ => none
  | k + 1, x0, x1, x5, x15 => if x15 = true then (if 0 ≤ x5 then (if x5 < (x0.length : Int) then (if x5 < (x1.length : Int) then (if (!(((rd_T69 x0 x5).f0) == ((rd_T69 x1 x5).f0)) || (!(((rd_T69 x0 x5).f1) == ((rd_T69 x1 x5).f1)))) = true then (if ((rd_T69 x0 x5).f1) < ((rd_T69 x1 x5).f1) then (some true) else (if ((rd_T69 x0 x5).f1) = ((rd_T69 x1 x5).f1) then (some (decide (((rd_T69 x0 x5).f0) < ((rd_T69 x1 x5).f0)))) else (some false))) else (sawmilllaw17_before.l0 k x0 x1 (wrap64 (x5 + 1)))) else (none)) else (none)) else (none)) else (some (decide ((x0.length : Int) < (x1.length : Int))))
end
def sawmilllaw17_before.f (k : Nat) (l0 : List (S69)) (l1 : List (S69)) : Option (Bool) := sawmilllaw17_before.l0 k l0 l1 0
theorem sawmilllaw17_before.mono_l : ∀ k, (∀ y0 y1 y2, LeO (sawmilllaw17_before.l0 k y0 y1 y2) (sawmilllaw17_before.l0 (k + 1) y0 y1 y2)) ∧ (∀ y0 y1 y2 y3, LeO (sawmilllaw17_before.j1 k y0 y1 y2 y3) (sawmilllaw17_before.j1 (k + 1) y0 y1 y2 y3))
  | 0 => ⟨fun _ _ _ r h => by simp [sawmilllaw17_before.l0] at h, fun _ _ _ _ r h => by simp [sawmilllaw17_before.j1] at h⟩
  | k + 1 => by
    obtain ⟨ih0, ih1⟩ := sawmilllaw17_before.mono_l k
    refine ⟨?_, ?_⟩
    · intro y0 y1 y2
      unfold sawmilllaw17_before.l0
      repeat' first
      | (with_reducible exact ih0 _ _ _)
      | (with_reducible exact ih1 _ _ _ _)
      | (with_reducible exact LeO.refl _)
      | (with_reducible exact LeO.none _)
      | (with_reducible refine LeO.ite ?_ ?_)
      | (with_reducible refine LeO.bind ?_ (fun _ => ?_))
      | exact ih0 _ _ _
      | exact ih1 _ _ _ _
      | exact LeO.none _
      | refine LeO.ite ?_ ?_
      | refine LeO.bind ?_ (fun _ => ?_)
    · intro y0 y1 y2 y3
      unfold sawmilllaw17_before.j1
      repeat' first
      | (with_reducible exact ih0 _ _ _)
      | (with_reducible exact ih1 _ _ _ _)
      | (with_reducible exact LeO.refl _)
      | (with_reducible exact LeO.none _)
      | (with_reducible refine LeO.ite ?_ ?_)
      | (with_reducible refine LeO.bind ?_ (fun _ => ?_))
      | exact ih0 _ _ _
      | exact ih1 _ _ _ _
      | exact LeO.none _
      | refine LeO.ite ?_ ?_
      | refine LeO.bind ?_ (fun _ => ?_)
theorem sawmilllaw17_before.mono : ∀ a0 a1 k, LeO (sawmilllaw17_before.f k a0 a1) (sawmilllaw17_before.f (k + 1) a0 a1) := by
  intro a0 a1 k
  obtain ⟨ih0, ih1⟩ := sawmilllaw17_before.mono_l k
  unfold sawmilllaw17_before.f
  repeat' first
      | (with_reducible exact ih0 _ _ _)
      | (with_reducible exact ih1 _ _ _ _)
      | (with_reducible exact LeO.refl _)
      | (with_reducible exact LeO.none _)
      | (with_reducible refine LeO.ite ?_ ?_)
      | (with_reducible refine LeO.bind ?_ (fun _ => ?_))
      | exact ih0 _ _ _
      | exact ih1 _ _ _ _
      | exact LeO.none _
      | refine LeO.ite ?_ ?_
      | refine LeO.bind ?_ (fun _ => ?_)
set_option maxHeartbeats 8000000 in
set_option maxRecDepth 100000 in
theorem sawmilllaw17_before.calls (k : Nat) (A0 : Option Addr) (c0 : Nat) (l0 : List (S69)) (A1 : Option Addr) (c1 : Nat) (l1 : List (S69)) (r : Bool) (w : World) (hr0 : Kd.C k69 w A0 l0.length l0) (hc0 : l0.length ≤ c0) (hr1 : Kd.C k69 w A1 l1.length l1) (hc1 : l1.length ≤ c1) (h : sawmilllaw17_before.f k l0 l1 = some r) :
    Calls Tryd.prog 33 #[.slice A0 l0.length c0, .slice A1 l1.length c1] w fun e w' => e = .returned (.bool r) ∧ Drawn0 w w' := by
 have hu69 := Tryd.underlying69
 have HR0 := Aside0.mk hr0
 have HC0 := Aside0.mk hc0
 clear hr0 hc0
 have HR1 := Aside0.mk hr1
 have HC1 := Aside0.mk hc1
 clear hr1 hc1
 have H : (sawmilllaw17_before.l0 k l0 l1 0) = some r := h
 clear h
 have H' := Aside0.mk H
 clear H
 go_enter Tryd.func33, Tryd.ntmps33
 go_wp2
 repeat (go_quiet (fail); try go_wp2)
 go_loopg [5] k (fun kq v5 w' => ∃ (x5_1 : Int), v5 = .int .i64 x5_1 ∧ Aside0 (sawmilllaw17_before.l0 kq l0 l1 x5_1 = some r) ∧ Aside0 (kq ≤ k) ∧ Drawn0 w w')
 case atStart => exact ⟨(0), rs1, H', ⟨Nat.le_refl _⟩, dr1⟩
 clear H'; (try clear c1); (try clear p2)
 obtain ⟨x5_1, rfl, HA, HK1, ⟨m1, rfl⟩⟩ := hrel
 rcases gk with _ | k1
 · exact absurd HA.out (by simp [sawmilllaw17_before.l0])
 have H := HA.out
 clear HA
 simp only [sawmilllaw17_before.l0] at H
 have HC3 := Aside0.mk H
 clear H
 go_upto_region 2 with (fail)
 repeat (go_quiet (fail); go_upto_region 2 with (fail))
 go_cut [15] (fun v15 wc => ∃ (kq : Nat) (x15_2 : Bool), v15 = .bool x15_2 ∧ Aside0 (sawmilllaw17_before.j1 kq l0 l1 x5_1 x15_2 = some r) ∧ Aside0 (kq ≤ k1) ∧ Drawn0 w wc)
 case first =>
  have H := HC3.out
  clear HC3
  by_cases c4 : x5_1 < (l0.length : Int)
  rotate_left
  · rw [if_neg c4] at H
    have c4b0 : decide (x5_1 < (l0.length : Int)) = false := decide_eq_false c4
    clear c4
    (first | rw [c4b0] | (simp only [i64_w, i32_w]; rw [c4b0]) | skip)
    have H' := Aside0.mk H
    clear H
    go_wp2
    repeat (go_quiet (fail); try go_wp2)
    go_meet
    case rel => exact ⟨_, (false), rs1, H', ⟨by have := HK1.out; first | omega | exact Nat.le_refl _⟩, dr1⟩
  rw [if_pos c4] at H
  have c4b0 : decide (x5_1 < (l0.length : Int)) = true := decide_eq_true c4
  clear c4
  (first | rw [c4b0] | (simp only [i64_w, i32_w]; rw [c4b0]) | skip)
  have H' := Aside0.mk H
  clear H
  go_wp2
  repeat (go_quiet (fail); try go_wp2)
  go_meet
  case rel => exact ⟨_, (decide (x5_1 < (l1.length : Int))), rs1, H', ⟨by have := HK1.out; first | omega | exact Nat.le_refl _⟩, dr1⟩
 clear HC3; (try clear c1); (try clear p2); (try clear c3); (try clear c4); (try clear c4b0); (try clear p2)
 obtain ⟨kq, x15_2, rfl, HA, HJ2, ⟨mc2, rfl⟩⟩ := hcut
 rcases kq with _ | kj2
 · exact absurd HA.out (by simp [sawmilllaw17_before.j1])
 have H := HA.out
 clear HA
 simp only [sawmilllaw17_before.j1] at H
 by_cases c5 : x15_2 = true
 rotate_left
 · replace c5 := Bool.eq_false_iff.mpr c5
   subst c5
   have H1 : (some (decide ((l0.length : Int) < (l1.length : Int)))) = some r := by rw [if_neg (show ¬ (false = true) by decide)] at H; exact H
   clear H
   have H := H1
   clear H1
   obtain rfl := Option.some.inj H
   go_wp2
   repeat (go_quiet (fail); try go_wp2)
   go_ret
   exact ⟨by first | rfl | (simp; done) | (simp [*]; done), dr1⟩
 subst c5
 have H1 : (if 0 ≤ x5_1 then (if x5_1 < (l0.length : Int) then (if x5_1 < (l1.length : Int) then (if (!(((rd_T69 l0 x5_1).f0) == ((rd_T69 l1 x5_1).f0)) || (!(((rd_T69 l0 x5_1).f1) == ((rd_T69 l1 x5_1).f1)))) = true then (if ((rd_T69 l0 x5_1).f1) < ((rd_T69 l1 x5_1).f1) then (some true) else (if ((rd_T69 l0 x5_1).f1) = ((rd_T69 l1 x5_1).f1) then (some (decide (((rd_T69 l0 x5_1).f0) < ((rd_T69 l1 x5_1).f0)))) else (some false))) else (sawmilllaw17_before.l0 kj2 l0 l1 (wrap64 (x5_1 + 1)))) else (none)) else (none)) else (none)) = some r := by rw [if_pos rfl] at H; exact H
 clear H
 have H := H1
 clear H1
 obtain ⟨c6, H⟩ := gd1 H
 have c6b0 : decide (0 ≤ x5_1) = true := decide_eq_true c6
 clear c6
 obtain ⟨c7, H⟩ := gd1 H
 have c7b0 : decide (x5_1 < (l0.length : Int)) = true := decide_eq_true c7
 clear c7
 obtain ⟨c8, H⟩ := gd1 H
 have c8b0 : decide (x5_1 < (l1.length : Int)) = true := decide_eq_true c8
 clear c8
 by_cases c9 : (!(((rd_T69 l0 x5_1).f0) == ((rd_T69 l1 x5_1).f0)) || (!(((rd_T69 l0 x5_1).f1) == ((rd_T69 l1 x5_1).f1)))) = true
 rotate_left
 · rw [if_neg c9] at H
   have c9b0 : (!(((rd_T69 l0 x5_1).f0) == ((rd_T69 l1 x5_1).f0)) || (!(((rd_T69 l0 x5_1).f1) == ((rd_T69 l1 x5_1).f1)))) = false := by simpa using c9
   clear c9
   have H' := Aside0.mk H
   clear H
   have p253 : 0 ≤ (x5_1 : Int) := da1
   have q253 : x5_1 < (l0.length : Int) := da1
   obtain ⟨ad253, e253, hx253_0, hx253_1⟩ := at_T69 HR0.out x5_1 p253 q253
   cases e253
   replace p253 := eq_true p253
   replace q253 := eq_true q253
   have p254 : 0 ≤ (x5_1 : Int) := da1
   have q254 : x5_1 < (l1.length : Int) := da1
   obtain ⟨ad254, e254, hx254_0, hx254_1⟩ := at_T69 HR1.out x5_1 p254 q254
   cases e254
   replace p254 := eq_true p254
   replace q254 := eq_true q254
   go_wp2
   repeat (go_quiet (fail); try go_wp2)
   go_roundg kj2
   case measure => have := HK1.out; have := HJ2.out; omega
   case rel => exact ⟨(wrap64 (x5_1 + 1)), rs1, H', ⟨by have := HK1.out; have := HJ2.out; omega⟩, dr1⟩
 rw [if_pos c9] at H
 have c9b0 : (!(((rd_T69 l0 x5_1).f0) == ((rd_T69 l1 x5_1).f0)) || (!(((rd_T69 l0 x5_1).f1) == ((rd_T69 l1 x5_1).f1)))) = true := c9
 clear c9
 by_cases c10 : ((rd_T69 l0 x5_1).f1) < ((rd_T69 l1 x5_1).f1)
 · rw [if_pos c10] at H
   have c10b0 : decide (((rd_T69 l0 x5_1).f1) < ((rd_T69 l1 x5_1).f1)) = true := decide_eq_true c10
   clear c10
   obtain rfl := Option.some.inj H
   have p253 : 0 ≤ (x5_1 : Int) := da1
   have q253 : x5_1 < (l0.length : Int) := da1
   obtain ⟨ad253, e253, hx253_0, hx253_1⟩ := at_T69 HR0.out x5_1 p253 q253
   cases e253
   replace p253 := eq_true p253
   replace q253 := eq_true q253
   have p254 : 0 ≤ (x5_1 : Int) := da1
   have q254 : x5_1 < (l1.length : Int) := da1
   obtain ⟨ad254, e254, hx254_0, hx254_1⟩ := at_T69 HR1.out x5_1 p254 q254
   cases e254
   replace p254 := eq_true p254
   replace q254 := eq_true q254
   have p255 : 0 ≤ (x5_1 : Int) := da1
   have q255 : x5_1 < (l0.length : Int) := da1
   obtain ⟨ad255, e255, hx255_0, hx255_1⟩ := at_T69 HR0.out x5_1 p255 q255
   obtain rfl : ad253 = ad255 := (by injection e255)
   replace p255 := eq_true p255
   replace q255 := eq_true q255
   have p256 : 0 ≤ (x5_1 : Int) := da1
   have q256 : x5_1 < (l1.length : Int) := da1
   obtain ⟨ad256, e256, hx256_0, hx256_1⟩ := at_T69 HR1.out x5_1 p256 q256
   obtain rfl : ad254 = ad256 := (by injection e256)
   replace p256 := eq_true p256
   replace q256 := eq_true q256
   go_wp2
   repeat (go_quiet (fail); try go_wp2)
   go_ret
   exact ⟨by first | rfl | (simp; done) | (simp [*]; done), dr1⟩
 rw [if_neg c10] at H
 have c10b0 : decide (((rd_T69 l0 x5_1).f1) < ((rd_T69 l1 x5_1).f1)) = false := decide_eq_false c10
 clear c10
 by_cases c11 : ((rd_T69 l0 x5_1).f1) = ((rd_T69 l1 x5_1).f1)
 rotate_left
 · rw [if_neg c11] at H
   have c11b0 : (((rd_T69 l0 x5_1).f1) == ((rd_T69 l1 x5_1).f1)) = false := beq_eq_false_iff_ne.mpr c11
   have c11b1 : (((rd_T69 l0 x5_1).f1) != ((rd_T69 l1 x5_1).f1)) = true := bne_iff_ne.mpr c11
   obtain rfl := Option.some.inj H
   have p253 : 0 ≤ (x5_1 : Int) := da1
   have q253 : x5_1 < (l0.length : Int) := da1
   obtain ⟨ad253, e253, hx253_0, hx253_1⟩ := at_T69 HR0.out x5_1 p253 q253
   cases e253
   replace p253 := eq_true p253
   replace q253 := eq_true q253
   have p254 : 0 ≤ (x5_1 : Int) := da1
   have q254 : x5_1 < (l1.length : Int) := da1
   obtain ⟨ad254, e254, hx254_0, hx254_1⟩ := at_T69 HR1.out x5_1 p254 q254
   cases e254
   replace p254 := eq_true p254
   replace q254 := eq_true q254
   have p255 : 0 ≤ (x5_1 : Int) := da1
   have q255 : x5_1 < (l0.length : Int) := da1
   obtain ⟨ad255, e255, hx255_0, hx255_1⟩ := at_T69 HR0.out x5_1 p255 q255
   obtain rfl : ad253 = ad255 := (by injection e255)
   replace p255 := eq_true p255
   replace q255 := eq_true q255
   have p256 : 0 ≤ (x5_1 : Int) := da1
   have q256 : x5_1 < (l1.length : Int) := da1
   obtain ⟨ad256, e256, hx256_0, hx256_1⟩ := at_T69 HR1.out x5_1 p256 q256
   obtain rfl : ad254 = ad256 := (by injection e256)
   replace p256 := eq_true p256
   replace q256 := eq_true q256
   have p257 : 0 ≤ (x5_1 : Int) := da1
   have q257 : x5_1 < (l0.length : Int) := da1
   obtain ⟨ad257, e257, hx257_0, hx257_1⟩ := at_T69 HR0.out x5_1 p257 q257
   obtain rfl : ad253 = ad257 := (by injection e257)
   replace p257 := eq_true p257
   replace q257 := eq_true q257
   have p258 : 0 ≤ (x5_1 : Int) := da1
   have q258 : x5_1 < (l1.length : Int) := da1
   obtain ⟨ad258, e258, hx258_0, hx258_1⟩ := at_T69 HR1.out x5_1 p258 q258
   obtain rfl : ad254 = ad258 := (by injection e258)
   replace p258 := eq_true p258
   replace q258 := eq_true q258
   go_wp2
   repeat (go_quiet (fail); try go_wp2)
   go_ret
   exact ⟨by first | rfl | (simp; done) | (simp [*]; done), dr1⟩
 rw [if_pos c11] at H
 have c11b0 : (((rd_T69 l0 x5_1).f1) == ((rd_T69 l1 x5_1).f1)) = true := beq_iff_eq.mpr c11
 have c11b1 : (((rd_T69 l0 x5_1).f1) != ((rd_T69 l1 x5_1).f1)) = false := bne_eq_false_iff_eq.mpr c11
 have c9b1 : (!(((rd_T69 l0 x5_1).f0) == ((rd_T69 l1 x5_1).f0))) = true := by rw [c11b0] at c9b0; simpa using c9b0
 clear c11
 obtain rfl := Option.some.inj H
 have p253 : 0 ≤ (x5_1 : Int) := da1
 have q253 : x5_1 < (l0.length : Int) := da1
 obtain ⟨ad253, e253, hx253_0, hx253_1⟩ := at_T69 HR0.out x5_1 p253 q253
 cases e253
 replace p253 := eq_true p253
 replace q253 := eq_true q253
 have p254 : 0 ≤ (x5_1 : Int) := da1
 have q254 : x5_1 < (l1.length : Int) := da1
 obtain ⟨ad254, e254, hx254_0, hx254_1⟩ := at_T69 HR1.out x5_1 p254 q254
 cases e254
 replace p254 := eq_true p254
 replace q254 := eq_true q254
 have p255 : 0 ≤ (x5_1 : Int) := da1
 have q255 : x5_1 < (l0.length : Int) := da1
 obtain ⟨ad255, e255, hx255_0, hx255_1⟩ := at_T69 HR0.out x5_1 p255 q255
 obtain rfl : ad253 = ad255 := (by injection e255)
 replace p255 := eq_true p255
 replace q255 := eq_true q255
 have p256 : 0 ≤ (x5_1 : Int) := da1
 have q256 : x5_1 < (l1.length : Int) := da1
 obtain ⟨ad256, e256, hx256_0, hx256_1⟩ := at_T69 HR1.out x5_1 p256 q256
 obtain rfl : ad254 = ad256 := (by injection e256)
 replace p256 := eq_true p256
 replace q256 := eq_true q256
 have p257 : 0 ≤ (x5_1 : Int) := da1
 have q257 : x5_1 < (l0.length : Int) := da1
 obtain ⟨ad257, e257, hx257_0, hx257_1⟩ := at_T69 HR0.out x5_1 p257 q257
 obtain rfl : ad253 = ad257 := (by injection e257)
 replace p257 := eq_true p257
 replace q257 := eq_true q257
 have p258 : 0 ≤ (x5_1 : Int) := da1
 have q258 : x5_1 < (l1.length : Int) := da1
 obtain ⟨ad258, e258, hx258_0, hx258_1⟩ := at_T69 HR1.out x5_1 p258 q258
 obtain rfl : ad254 = ad258 := (by injection e258)
 replace p258 := eq_true p258
 replace q258 := eq_true q258
 have p259 : 0 ≤ (x5_1 : Int) := da1
 have q259 : x5_1 < (l0.length : Int) := da1
 obtain ⟨ad259, e259, hx259_0, hx259_1⟩ := at_T69 HR0.out x5_1 p259 q259
 obtain rfl : ad253 = ad259 := (by injection e259)
 replace p259 := eq_true p259
 replace q259 := eq_true q259
 have p260 : 0 ≤ (x5_1 : Int) := da1
 have q260 : x5_1 < (l1.length : Int) := da1
 obtain ⟨ad260, e260, hx260_0, hx260_1⟩ := at_T69 HR1.out x5_1 p260 q260
 obtain rfl : ad254 = ad260 := (by injection e260)
 replace p260 := eq_true p260
 replace q260 := eq_true q260
 go_wp2
 repeat (go_quiet (fail); try go_wp2)
 go_ret
 exact ⟨by first | rfl | (simp; done) | (simp [*]; done), dr1⟩
end Go.Proofs.YtoaicheopcojoaaDoor.P
