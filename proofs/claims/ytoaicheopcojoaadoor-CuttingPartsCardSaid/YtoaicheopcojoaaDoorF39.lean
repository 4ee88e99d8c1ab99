import Derived.Test.YtoaicheopcojoaaDoorSq
namespace Go.Proofs.YtoaicheopcojoaaDoor.P
open Go.RowKit Go.Proofs.YtoaicheopcojoaaDoorW.PrintWords Go.Proofs.YtoaicheopcojoaaDoorW.PrintLast Go.Proofs.YtoaicheopcojoaaDoorW.PrintMore
attribute [local go_sem] max2_int min2_int max_two min_two max_three min_three max_four min_four   -- for this text's walks alone
set_option linter.unusedVariables false
set_option linter.unusedSimpArgs false
/-! ### sawmilllaw17_mark: function 39 -/
mutual
def sawmilllaw17_mark.l0 : Nat → List Int → List (S49) → Int → Option (Bool × List Int)
  | 0, _, _, _ => none
  | k + 1, x0, x1, x5 => if x5 < (x1.length : Int) then (if 0 ≤ x5 then (if ((rd_T49 x1 x5).f0) < 0 then (sawmilllaw17_mark.j1 k x0 x1 x5 true) else (if ((rd_T49 x1 x5).f0) ≥ ((rd_T49 x1 x5).f1) then (sawmilllaw17_mark.j1 k x0 x1 x5 true) else (if ((rd_T49 x1 x5).f1) > (x0.length : Int) then (sawmilllaw17_mark.j1 k x0 x1 x5 true) else (if x5 > 0 then (if 0 ≤ (wrap64 (x5 - 1)) then (if (wrap64 (x5 - 1)) < (x1.length : Int) then (sawmilllaw17_mark.j1 k x0 x1 x5 (decide (((rd_T49 x1 x5).f0) < ((rd_T49 x1 (wrap64 (x5 - 1))).f1)))) else (none)) else (none)) else (sawmilllaw17_mark.j1 k x0 x1 x5 false))))) else (none)) else (some (true, x0))
def sawmilllaw17_mark.j1 : Nat → List Int → List (S49) → Int → Bool → Option (Bool × List Int)
  | 0, _, _, _, _ => none
  | k + 1, x0, x1, x5, x59 => if x59 = true then (some (false, x0)) else (if 0 ≤ x5 then (if x5 < (x1.length : Int) then (sawmilllaw17_mark.l1 k x0 x1 x5 ((rd_T49 x1 x5).f0)) else (none)) else (none))
def sawmilllaw17_mark.l1 : Nat → List Int → List (S49) → Int → Int → Option (Bool × List Int)
  | 0, _, _, _, _ => none
  | k + 1, x0, x1, x5, x6 => if 0 ≤ x5 then (if x5 < (x1.length : Int) then (if x6 < ((rd_T49 x1 x5).f1) then (if 0 ≤ x6 then (if x6 < (x0.length : Int) then (sawmilllaw17_mark.l1 k (x0.set (x6 : Int).toNat (wrap64 ((rd x0 x6) + 1))) x1 x5 (wrap64 (x6 + 1))) else (none)) else (none)) else (sawmilllaw17_mark.l0 k x0 x1 (wrap64 (x5 + 1)))) else (none)) else (none)
end
def sawmilllaw17_mark.f (k : Nat) (l0 : List Int) (l1 : List (S49)) : Option (Bool × List Int) := sawmilllaw17_mark.l0 k l0 l1 0
theorem sawmilllaw17_mark.mono_l : ∀ k, (∀ y0 y1 y2, LeO (sawmilllaw17_mark.l0 k y0 y1 y2) (sawmilllaw17_mark.l0 (k + 1) y0 y1 y2)) ∧ (∀ y0 y1 y2 y3, LeO (sawmilllaw17_mark.j1 k y0 y1 y2 y3) (sawmilllaw17_mark.j1 (k + 1) y0 y1 y2 y3)) ∧ (∀ y0 y1 y2 y3, LeO (sawmilllaw17_mark.l1 k y0 y1 y2 y3) (sawmilllaw17_mark.l1 (k + 1) y0 y1 y2 y3))
  | 0 => ⟨fun _ _ _ r h => by simp [sawmilllaw17_mark.l0] at h, fun _ _ _ _ r h => by simp [sawmilllaw17_mark.j1] at h, fun _ _ _ _ r h => by simp [sawmilllaw17_mark.l1] at h⟩
  | k + 1 => by
    obtain ⟨ih0, ih1, ih2⟩ := sawmilllaw17_mark.mono_l k
    refine ⟨?_, ?_, ?_⟩
    · intro y0 y1 y2
      unfold sawmilllaw17_mark.l0
      repeat' first
      | (with_reducible exact ih0 _ _ _)
      | (with_reducible exact ih1 _ _ _ _)
      | (with_reducible exact ih2 _ _ _ _)
      | (with_reducible exact LeO.refl _)
      | (with_reducible exact LeO.none _)
      | (with_reducible refine LeO.ite ?_ ?_)
      | (with_reducible refine LeO.bind ?_ (fun _ => ?_))
      | exact ih0 _ _ _
      | exact ih1 _ _ _ _
      | exact ih2 _ _ _ _
      | exact LeO.none _
      | refine LeO.ite ?_ ?_
      | refine LeO.bind ?_ (fun _ => ?_)
    · intro y0 y1 y2 y3
      unfold sawmilllaw17_mark.j1
      repeat' first
      | (with_reducible exact ih0 _ _ _)
      | (with_reducible exact ih1 _ _ _ _)
      | (with_reducible exact ih2 _ _ _ _)
      | (with_reducible exact LeO.refl _)
      | (with_reducible exact LeO.none _)
      | (with_reducible refine LeO.ite ?_ ?_)
      | (with_reducible refine LeO.bind ?_ (fun _ => ?_))
      | exact ih0 _ _ _
      | exact ih1 _ _ _ _
      | exact ih2 _ _ _ _
      | exact LeO.none _
      | refine LeO.ite ?_ ?_
      | refine LeO.bind ?_ (fun _ => ?_)
    · intro y0 y1 y2 y3
      unfold sawmilllaw17_mark.l1
      repeat' first
      | (with_reducible exact ih0 _ _ _)
      | (with_reducible exact ih1 _ _ _ _)
      | (with_reducible exact ih2 _ _ _ _)
      | (with_reducible exact LeO.refl _)
      | (with_reducible exact LeO.none _)
      | (with_reducible refine LeO.ite ?_ ?_)
      | (with_reducible refine LeO.bind ?_ (fun _ => ?_))
      | exact ih0 _ _ _
      | exact ih1 _ _ _ _
      | exact ih2 _ _ _ _
      | exact LeO.none _
      | refine LeO.ite ?_ ?_
      | refine LeO.bind ?_ (fun _ => ?_)
theorem sawmilllaw17_mark.mono : ∀ a0 a1 k, LeO (sawmilllaw17_mark.f k a0 a1) (sawmilllaw17_mark.f (k + 1) a0 a1) := by
  intro a0 a1 k
  obtain ⟨ih0, ih1, ih2⟩ := sawmilllaw17_mark.mono_l k
  unfold sawmilllaw17_mark.f
  repeat' first
      | (with_reducible exact ih0 _ _ _)
      | (with_reducible exact ih1 _ _ _ _)
      | (with_reducible exact ih2 _ _ _ _)
      | (with_reducible exact LeO.refl _)
      | (with_reducible exact LeO.none _)
      | (with_reducible refine LeO.ite ?_ ?_)
      | (with_reducible refine LeO.bind ?_ (fun _ => ?_))
      | exact ih0 _ _ _
      | exact ih1 _ _ _ _
      | exact ih2 _ _ _ _
      | exact LeO.none _
      | refine LeO.ite ?_ ?_
      | refine LeO.bind ?_ (fun _ => ?_)
theorem L39_0 {p_ : Prop} (k_ : p_ := by
  go_wp2
  repeat (go_quiet (fail); try go_wp2)
  go_meet
  case rel => exact ⟨_, (true), rs1, H', ⟨by have := HK1.out; first | omega | exact Nat.le_refl _⟩, ⟨by (with_reducible repeat (first | apply Kd.R_alloc | apply Kd.R_drewN | apply Kd.R_drew)); exact HO_0.out⟩, ⟨kl⟩, ⟨bl⟩⟩) : p_ := k_
theorem L39_1 {p_ : Prop} (k_ : p_ := by
  go_wp2
  repeat (go_quiet (fail); try go_wp2)
  go_ret
  exact ⟨fe1, by (with_reducible repeat (first | apply Kd.R_alloc | apply Kd.R_drewN | apply Kd.R_drew)); exact HO_0.out, bl, kl⟩) : p_ := k_
set_option maxHeartbeats 8000000 in
set_option maxRecDepth 100000 in
theorem sawmilllaw17_mark.calls (k : Nat) (P0_ : Nat → Prop) (u9000_ : Value) (l0 : List Int) (A1 : Option Addr) (c1 : Nat) (l1 : List (S49)) (r1 : Bool) (r2 : List Int) (w0 w : World) (hB : Below w0.heap.size w0 w) (ho0 : Kd.R (Kd.int .i64) 3 w w0.heap.size P0_ u9000_ l0) (hr1 : ∀ W_, Kept w W_ (fun k_ => P0_ k_) → Kd.C k49 W_ A1 l1.length l1) (hc1 : l1.length ≤ c1) (h : sawmilllaw17_mark.f k l0 l1 = some (r1, r2)) :
    Calls Tryd.prog 39 #[u9000_, .slice A1 l1.length c1] w fun e w' => e = .returned (.bool r1) ∧ Kd.R (Kd.int .i64) 3 w' w0.heap.size (fun k_ => (P0_ k_ ∨ w.heap.size ≤ k_)) u9000_ r2 ∧ Below w0.heap.size w0 w' ∧ Kept w w' (fun k_ => P0_ k_) := by
 have HO0 := Aside0.mk (show Kd.R (Kd.int .i64) 3 w w0.heap.size (fun k_ => (P0_ k_ ∨ w.heap.size ≤ k_)) u9000_ l0 from Kd.R_mono ho0 (fun k_ hk => (.inl hk)))
 have HR1 := Aside0.mk hr1
 have HC1 := Aside0.mk hc1
 clear hr1 hc1
 have HK := Aside0.mk (Kept.refl w (fun k_ => P0_ k_))
 have HW0 := Aside0.mk hB.size
 have HB := Aside0.mk hB
 clear hB
 have H : (sawmilllaw17_mark.l0 k l0 l1 0) = some (r1, r2) := h
 clear h
 have H' := Aside0.mk H
 clear H
 go_enter Tryd.func39, Tryd.ntmps39
 go_wp2
 repeat (go_quiet (fail); try go_wp2)
 go_loopg [5] k (fun kq v5 w' => ∃ (x0_1 : List Int) (x5_1 : Int), v5 = .int .i64 x5_1 ∧ Aside0 (sawmilllaw17_mark.l0 kq x0_1 l1 x5_1 = some (r1, r2)) ∧ Aside0 (kq ≤ k) ∧ Aside0 (Kd.R (Kd.int .i64) 3 w' w0.heap.size (fun k_ => (P0_ k_ ∨ w.heap.size ≤ k_)) u9000_ x0_1) ∧ Aside0 (Kept w w' (fun k_ => P0_ k_)) ∧ Aside0 (Below w0.heap.size w0 w'))
 case atStart => exact ⟨(l0), (0), rs1, H', ⟨Nat.le_refl _⟩, ⟨by (with_reducible repeat (first | apply Kd.R_alloc | apply Kd.R_drewN | apply Kd.R_drew)); exact HO0.out⟩, ⟨kl⟩, ⟨bl⟩⟩
 clear H'; (try clear c1); (try clear p2)
 obtain ⟨x0_1, x5_1, rfl, HA, HK1, HO_0, HK, HB⟩ := hrel
 rcases gk with _ | k1
 · exact absurd HA.out (by simp [sawmilllaw17_mark.l0])
 have H := HA.out
 clear HA
 simp only [sawmilllaw17_mark.l0] at H
 by_cases c3 : x5_1 < (l1.length : Int)
 rotate_left
 · rw [if_neg c3] at H
   have c3b0 : decide (x5_1 < (l1.length : Int)) = false := decide_eq_false c3
   clear c3
   simp only [Option.some.injEq, Prod.mk.injEq] at H
   obtain ⟨rfl, rfl⟩ := H
   exact L39_1
 rw [if_pos c3] at H
 have c3b0 : decide (x5_1 < (l1.length : Int)) = true := decide_eq_true c3
 clear c3
 have HC4 := Aside0.mk H
 clear H
 go_upto_region 4 with (fail)
 repeat (go_quiet (fail); go_upto_region 4 with (fail))
 go_cut [59] (fun v59 wc => ∃ (kq : Nat) (x59_3 : Bool), v59 = .bool x59_3 ∧ Aside0 (sawmilllaw17_mark.j1 kq x0_1 l1 x5_1 x59_3 = some (r1, r2)) ∧ Aside0 (kq ≤ k1) ∧ Aside0 (Kd.R (Kd.int .i64) 3 wc w0.heap.size (fun k_ => (P0_ k_ ∨ w.heap.size ≤ k_)) u9000_ x0_1) ∧ Aside0 (Kept w wc (fun k_ => P0_ k_)) ∧ Aside0 (Below w0.heap.size w0 wc))
 case first =>
  have H := HC4.out
  clear HC4
  obtain ⟨c5, H⟩ := gd1 H
  have c5b0 : decide (0 ≤ x5_1) = true := decide_eq_true c5
  clear c5
  (first | rw [c5b0] | (simp only [i64_w, i32_w]; rw [c5b0]) | skip)
  by_cases c6 : ((rd_T49 l1 x5_1).f0) < 0
  · rw [if_pos c6] at H
    have c6b0 : decide (((rd_T49 l1 x5_1).f0) < 0) = true := decide_eq_true c6
    clear c6
    have H' := Aside0.mk H
    clear H
    have p513 : 0 ≤ (x5_1 : Int) := da1
    have q513 : x5_1 < (l1.length : Int) := da1
    obtain ⟨ad513, e513, hx513_0, hx513_1⟩ := at_T49 (Kd.C_kept_now HR1.out HK.out) x5_1 p513 q513
    cases e513
    replace p513 := eq_true p513
    replace q513 := eq_true q513
    exact L39_0
  rw [if_neg c6] at H
  have c6b0 : decide (((rd_T49 l1 x5_1).f0) < 0) = false := decide_eq_false c6
  clear c6
  by_cases c7 : ((rd_T49 l1 x5_1).f0) ≥ ((rd_T49 l1 x5_1).f1)
  · rw [if_pos c7] at H
    have c7b0 : decide (((rd_T49 l1 x5_1).f1) ≤ ((rd_T49 l1 x5_1).f0)) = true := decide_eq_true c7
    clear c7
    have H' := Aside0.mk H
    clear H
    have p513 : 0 ≤ (x5_1 : Int) := da1
    have q513 : x5_1 < (l1.length : Int) := da1
    obtain ⟨ad513, e513, hx513_0, hx513_1⟩ := at_T49 (Kd.C_kept_now HR1.out HK.out) x5_1 p513 q513
    cases e513
    replace p513 := eq_true p513
    replace q513 := eq_true q513
    have p514 : 0 ≤ (x5_1 : Int) := da1
    have q514 : x5_1 < (l1.length : Int) := da1
    obtain ⟨ad514, e514, hx514_0, hx514_1⟩ := at_T49 (Kd.C_kept_now HR1.out HK.out) x5_1 p514 q514
    obtain rfl : ad513 = ad514 := (by injection e514)
    replace p514 := eq_true p514
    replace q514 := eq_true q514
    have p515 : 0 ≤ (x5_1 : Int) := da1
    have q515 : x5_1 < (l1.length : Int) := da1
    obtain ⟨ad515, e515, hx515_0, hx515_1⟩ := at_T49 (Kd.C_kept_now HR1.out HK.out) x5_1 p515 q515
    obtain rfl : ad513 = ad515 := (by injection e515)
    replace p515 := eq_true p515
    replace q515 := eq_true q515
    exact L39_0
  rw [if_neg c7] at H
  have c7b0 : decide (((rd_T49 l1 x5_1).f1) ≤ ((rd_T49 l1 x5_1).f0)) = false := decide_eq_false c7
  clear c7
  by_cases c8 : ((rd_T49 l1 x5_1).f1) > (x0_1.length : Int)
  · rw [if_pos c8] at H
    have c8b0 : decide ((x0_1.length : Int) < ((rd_T49 l1 x5_1).f1)) = true := decide_eq_true c8
    clear c8
    have H' := Aside0.mk H
    clear H
    have p513 : 0 ≤ (x5_1 : Int) := da1
    have q513 : x5_1 < (l1.length : Int) := da1
    obtain ⟨ad513, e513, hx513_0, hx513_1⟩ := at_T49 (Kd.C_kept_now HR1.out HK.out) x5_1 p513 q513
    cases e513
    replace p513 := eq_true p513
    replace q513 := eq_true q513
    have p514 : 0 ≤ (x5_1 : Int) := da1
    have q514 : x5_1 < (l1.length : Int) := da1
    obtain ⟨ad514, e514, hx514_0, hx514_1⟩ := at_T49 (Kd.C_kept_now HR1.out HK.out) x5_1 p514 q514
    obtain rfl : ad513 = ad514 := (by injection e514)
    replace p514 := eq_true p514
    replace q514 := eq_true q514
    have p515 : 0 ≤ (x5_1 : Int) := da1
    have q515 : x5_1 < (l1.length : Int) := da1
    obtain ⟨ad515, e515, hx515_0, hx515_1⟩ := at_T49 (Kd.C_kept_now HR1.out HK.out) x5_1 p515 q515
    obtain rfl : ad513 = ad515 := (by injection e515)
    replace p515 := eq_true p515
    replace q515 := eq_true q515
    have p516 : 0 ≤ (x5_1 : Int) := da1
    have q516 : x5_1 < (l1.length : Int) := da1
    obtain ⟨ad516, e516, hx516_0, hx516_1⟩ := at_T49 (Kd.C_kept_now HR1.out HK.out) x5_1 p516 q516
    obtain rfl : ad513 = ad516 := (by injection e516)
    replace p516 := eq_true p516
    replace q516 := eq_true q516
    obtain ⟨Ao9, co9, eo9⟩ := Kd.R_slice HO_0.out
    subst eo9
    exact L39_0
  rw [if_neg c8] at H
  have c8b0 : decide ((x0_1.length : Int) < ((rd_T49 l1 x5_1).f1)) = false := decide_eq_false c8
  clear c8
  by_cases c10 : x5_1 > 0
  rotate_left
  · rw [if_neg c10] at H
    have c10b0 : decide (0 < x5_1) = false := decide_eq_false c10
    clear c10
    have H' := Aside0.mk H
    clear H
    have p513 : 0 ≤ (x5_1 : Int) := da1
    have q513 : x5_1 < (l1.length : Int) := da1
    obtain ⟨ad513, e513, hx513_0, hx513_1⟩ := at_T49 (Kd.C_kept_now HR1.out HK.out) x5_1 p513 q513
    cases e513
    replace p513 := eq_true p513
    replace q513 := eq_true q513
    have p514 : 0 ≤ (x5_1 : Int) := da1
    have q514 : x5_1 < (l1.length : Int) := da1
    obtain ⟨ad514, e514, hx514_0, hx514_1⟩ := at_T49 (Kd.C_kept_now HR1.out HK.out) x5_1 p514 q514
    obtain rfl : ad513 = ad514 := (by injection e514)
    replace p514 := eq_true p514
    replace q514 := eq_true q514
    have p515 : 0 ≤ (x5_1 : Int) := da1
    have q515 : x5_1 < (l1.length : Int) := da1
    obtain ⟨ad515, e515, hx515_0, hx515_1⟩ := at_T49 (Kd.C_kept_now HR1.out HK.out) x5_1 p515 q515
    obtain rfl : ad513 = ad515 := (by injection e515)
    replace p515 := eq_true p515
    replace q515 := eq_true q515
    have p516 : 0 ≤ (x5_1 : Int) := da1
    have q516 : x5_1 < (l1.length : Int) := da1
    obtain ⟨ad516, e516, hx516_0, hx516_1⟩ := at_T49 (Kd.C_kept_now HR1.out HK.out) x5_1 p516 q516
    obtain rfl : ad513 = ad516 := (by injection e516)
    replace p516 := eq_true p516
    replace q516 := eq_true q516
    obtain ⟨Ao15, co15, eo15⟩ := Kd.R_slice HO_0.out
    subst eo15
    go_wp2
    repeat (go_quiet (fail); try go_wp2)
    go_meet
    case rel => exact ⟨_, (false), rs1, H', ⟨by have := HK1.out; first | omega | exact Nat.le_refl _⟩, ⟨by (with_reducible repeat (first | apply Kd.R_alloc | apply Kd.R_drewN | apply Kd.R_drew)); exact HO_0.out⟩, ⟨kl⟩, ⟨bl⟩⟩
  rw [if_pos c10] at H
  have c10b0 : decide (0 < x5_1) = true := decide_eq_true c10
  clear c10
  obtain ⟨ji11, hji11⟩ : ∃ j_ : Int, (wrap64 (x5_1 - 1)) = j_ := ⟨_, rfl⟩
  replace H : (if 0 ≤ (ji11) then (if (ji11) < (l1.length : Int) then (sawmilllaw17_mark.j1 k1 x0_1 l1 x5_1 (decide (((rd_T49 l1 x5_1).f0) < ((rd_T49 l1 (ji11)).f1)))) else (none)) else (none)) = some (r1, r2) := by first | (rw [hji11] at H; exact H) | (simp only [hji11] at H ⊢; exact H)
  have hji11w : (IntKind.i64.wrap (x5_1 - 1)) = ji11 := (i64_w _).trans hji11
  obtain ⟨c12, H⟩ := gd1 H
  have c12b0 : decide (0 ≤ (ji11)) = true := decide_eq_true c12
  clear c12
  obtain ⟨c13, H⟩ := gd1 H
  have c13b0 : decide ((ji11) < (l1.length : Int)) = true := decide_eq_true c13
  clear c13
  have H' := Aside0.mk H
  clear H
  have p513 : 0 ≤ (x5_1 : Int) := da1
  have q513 : x5_1 < (l1.length : Int) := da1
  obtain ⟨ad513, e513, hx513_0, hx513_1⟩ := at_T49 (Kd.C_kept_now HR1.out HK.out) x5_1 p513 q513
  cases e513
  replace p513 := eq_true p513
  replace q513 := eq_true q513
  have p514 : 0 ≤ (x5_1 : Int) := da1
  have q514 : x5_1 < (l1.length : Int) := da1
  obtain ⟨ad514, e514, hx514_0, hx514_1⟩ := at_T49 (Kd.C_kept_now HR1.out HK.out) x5_1 p514 q514
  obtain rfl : ad513 = ad514 := (by injection e514)
  replace p514 := eq_true p514
  replace q514 := eq_true q514
  have p515 : 0 ≤ (x5_1 : Int) := da1
  have q515 : x5_1 < (l1.length : Int) := da1
  obtain ⟨ad515, e515, hx515_0, hx515_1⟩ := at_T49 (Kd.C_kept_now HR1.out HK.out) x5_1 p515 q515
  obtain rfl : ad513 = ad515 := (by injection e515)
  replace p515 := eq_true p515
  replace q515 := eq_true q515
  have p516 : 0 ≤ (x5_1 : Int) := da1
  have q516 : x5_1 < (l1.length : Int) := da1
  obtain ⟨ad516, e516, hx516_0, hx516_1⟩ := at_T49 (Kd.C_kept_now HR1.out HK.out) x5_1 p516 q516
  obtain rfl : ad513 = ad516 := (by injection e516)
  replace p516 := eq_true p516
  replace q516 := eq_true q516
  obtain ⟨Ao14, co14, eo14⟩ := Kd.R_slice HO_0.out
  subst eo14
  have p517 : 0 ≤ (x5_1 : Int) := da1
  have q517 : x5_1 < (l1.length : Int) := da1
  obtain ⟨ad517, e517, hx517_0, hx517_1⟩ := at_T49 (Kd.C_kept_now HR1.out HK.out) x5_1 p517 q517
  obtain rfl : ad513 = ad517 := (by injection e517)
  replace p517 := eq_true p517
  replace q517 := eq_true q517
  have p518 : 0 ≤ ((ji11) : Int) := da1
  have q518 : (ji11) < (l1.length : Int) := da1
  obtain ⟨ad518, e518, hx518_0, hx518_1⟩ := at_T49 (Kd.C_kept_now HR1.out HK.out) (ji11) p518 q518
  obtain rfl : ad513 = ad518 := (by injection e518)
  replace p518 := eq_true p518
  replace q518 := eq_true q518
  go_wp2
  repeat (go_quiet (fail); try go_wp2)
  go_meet
  case rel => exact ⟨_, (decide (((rd_T49 l1 x5_1).f0) < ((rd_T49 l1 (ji11)).f1))), (by first | rfl | (simp; done) | (simp only [← hji11] <;> (first | rfl | simp)) | (simp [*]; done)), H', ⟨by have := HK1.out; first | omega | exact Nat.le_refl _⟩, ⟨by (with_reducible repeat (first | apply Kd.R_alloc | apply Kd.R_drewN | apply Kd.R_drew)); exact HO_0.out⟩, ⟨kl⟩, ⟨bl⟩⟩
 clear HC4; (try clear c1); (try clear p2); (try clear c3); (try clear c3b0); (try clear c5); (try clear c5b0); (try clear p5); (try clear q5); (try clear hx5); (try clear c6); (try clear c6b0); (try clear p6); (try clear c7); (try clear c7b0); (try clear c8); (try clear c8b0); (try clear c10); (try clear c10b0); (try clear c12); (try clear c12b0); (try clear c13); (try clear c13b0); (try clear hx513_0); (try clear hx513_1); (try clear hx514_0); (try clear hx514_1); (try clear hx515_0); (try clear hx515_1); (try clear hx516_0); (try clear hx516_1); (try clear hx517_0); (try clear hx517_1); (try clear hx518_0); (try clear hx518_1); (try clear p2); (try clear p513); (try clear p514); (try clear p515); (try clear p516); (try clear p517); (try clear p518); (try clear q513); (try clear q514); (try clear q515); (try clear q516); (try clear q517); (try clear q518)
 obtain ⟨kq, x59_3, rfl, HA, HJ3, HO_0, HK, HB⟩ := hcut
 rcases kq with _ | kj3
 · exact absurd HA.out (by simp [sawmilllaw17_mark.j1])
 have H := HA.out
 clear HA
 simp only [sawmilllaw17_mark.j1] at H
 by_cases c16 : x59_3 = true
 · subst c16
   have H1 : (some (false, x0_1)) = some (r1, r2) := by rw [if_pos rfl] at H; exact H
   clear H
   have H := H1
   clear H1
   simp only [Option.some.injEq, Prod.mk.injEq] at H
   obtain ⟨rfl, rfl⟩ := H
   exact L39_1
 replace c16 := Bool.eq_false_iff.mpr c16
 subst c16
 have H1 : (if 0 ≤ x5_1 then (if x5_1 < (l1.length : Int) then (sawmilllaw17_mark.l1 kj3 x0_1 l1 x5_1 ((rd_T49 l1 x5_1).f0)) else (none)) else (none)) = some (r1, r2) := by rw [if_neg (show ¬ (false = true) by decide)] at H; exact H
 clear H
 have H := H1
 clear H1
 obtain ⟨c17, H⟩ := gd1 H
 have c17b0 : decide (0 ≤ x5_1) = true := decide_eq_true c17
 clear c17
 obtain ⟨c18, H⟩ := gd1 H
 have c18b0 : decide (x5_1 < (l1.length : Int)) = true := decide_eq_true c18
 clear c18
 have H' := Aside0.mk H
 clear H
 have p519 : 0 ≤ (x5_1 : Int) := da1
 have q519 : x5_1 < (l1.length : Int) := da1
 obtain ⟨ad519, e519, hx519_0, hx519_1⟩ := at_T49 (Kd.C_kept_now HR1.out HK.out) x5_1 p519 q519
 cases e519
 replace p519 := eq_true p519
 replace q519 := eq_true q519
 go_wp2
 repeat (go_quiet (fail); try go_wp2)
 go_loopg [6] kj3 (fun kq v6 w' => ∃ (x0_3 : List Int) (x6_3 : Int), v6 = .int .i64 x6_3 ∧ Aside0 (sawmilllaw17_mark.l1 kq x0_3 l1 x5_1 x6_3 = some (r1, r2)) ∧ Aside0 (kq ≤ kj3) ∧ Aside0 (Kd.R (Kd.int .i64) 3 w' w0.heap.size (fun k_ => (P0_ k_ ∨ w.heap.size ≤ k_)) u9000_ x0_3) ∧ Aside0 (Kept w w' (fun k_ => P0_ k_)) ∧ Aside0 (Below w0.heap.size w0 w'))
 case atStart => exact ⟨(x0_1), ((rd_T49 l1 x5_1).f0), rs1, H', ⟨Nat.le_refl _⟩, ⟨by (with_reducible repeat (first | apply Kd.R_alloc | apply Kd.R_drewN | apply Kd.R_drew)); exact HO_0.out⟩, ⟨kl⟩, ⟨bl⟩⟩
 clear H'; (try clear c1); (try clear p2); (try clear c3); (try clear c3b0); (try clear c5); (try clear c5b0); (try clear p5); (try clear q5); (try clear hx5); (try clear c6); (try clear c6b0); (try clear p6); (try clear c7); (try clear c7b0); (try clear c8); (try clear c8b0); (try clear c10); (try clear c10b0); (try clear c12); (try clear c12b0); (try clear c13); (try clear c13b0); (try clear c16); (try clear c17); (try clear c17b0); (try clear c18); (try clear c18b0); (try clear hx513_0); (try clear hx513_1); (try clear hx514_0); (try clear hx514_1); (try clear hx515_0); (try clear hx515_1); (try clear hx516_0); (try clear hx516_1); (try clear hx517_0); (try clear hx517_1); (try clear hx518_0); (try clear hx518_1); (try clear hx519_0); (try clear hx519_1); (try clear p2); (try clear p5); (try clear p513); (try clear p514); (try clear p515); (try clear p516); (try clear p517); (try clear p518); (try clear p519); (try clear p6); (try clear q5); (try clear q513); (try clear q514); (try clear q515); (try clear q516); (try clear q517); (try clear q518); (try clear q519)
 obtain ⟨x0_3, x6_3, rfl, HA, HK3, HO_0, HK, HB⟩ := hrel
 rcases gk with _ | k3
 · exact absurd HA.out (by simp [sawmilllaw17_mark.l1])
 have H := HA.out
 clear HA
 simp only [sawmilllaw17_mark.l1] at H
 obtain ⟨c19, H⟩ := gd1 H
 have c19b0 : decide (0 ≤ x5_1) = true := decide_eq_true c19
 clear c19
 obtain ⟨c20, H⟩ := gd1 H
 have c20b0 : decide (x5_1 < (l1.length : Int)) = true := decide_eq_true c20
 clear c20
 by_cases c21 : x6_3 < ((rd_T49 l1 x5_1).f1)
 rotate_left
 · rw [if_neg c21] at H
   have c21b0 : decide (x6_3 < ((rd_T49 l1 x5_1).f1)) = false := decide_eq_false c21
   clear c21
   have H' := Aside0.mk H
   clear H
   have p520 : 0 ≤ (x5_1 : Int) := da1
   have q520 : x5_1 < (l1.length : Int) := da1
   obtain ⟨ad520, e520, hx520_0, hx520_1⟩ := at_T49 (Kd.C_kept_now HR1.out HK.out) x5_1 p520 q520
   obtain rfl : ad519 = ad520 := (by injection e520)
   replace p520 := eq_true p520
   replace q520 := eq_true q520
   go_wp2
   repeat (go_quiet (fail); try go_wp2)
   go_roundg k3
   case measure => have := HK1.out; have := HJ3.out; have := HK3.out; omega
   case rel => exact ⟨(x0_3), (wrap64 (x5_1 + 1)), rs1, H', ⟨by have := HK1.out; have := HJ3.out; have := HK3.out; omega⟩, ⟨by (with_reducible repeat (first | apply Kd.R_alloc | apply Kd.R_drewN | apply Kd.R_drew)); exact HO_0.out⟩, ⟨kl⟩, ⟨bl⟩⟩
 rw [if_pos c21] at H
 have c21b0 : decide (x6_3 < ((rd_T49 l1 x5_1).f1)) = true := decide_eq_true c21
 clear c21
 obtain ⟨c22, H⟩ := gd1 H
 have c22b0 : decide (0 ≤ x6_3) = true := decide_eq_true c22
 clear c22
 obtain ⟨c23, H⟩ := gd1 H
 have c23b0 : decide (x6_3 < (x0_3.length : Int)) = true := decide_eq_true c23
 clear c23
 obtain ⟨y522, hy522⟩ : ∃ y_ : List Int, y_ = (x0_3.set (x6_3 : Int).toNat (wrap64 ((rd x0_3 x6_3) + 1))) := ⟨_, rfl⟩
 replace H : (sawmilllaw17_mark.l1 k3 y522 l1 x5_1 (wrap64 (x6_3 + 1))) = some (r1, r2) := by first | (rw [hy522]; with_reducible exact H) | (have H2_ := (Option.bind_some _ _).symm.trans H; rw [hy522]; with_reducible exact H2_) | (have H2_ := (Option.bind_some _ _).symm.trans H; with_reducible exact H2_) | with_reducible exact H | (rw [hy522]; exact H) | exact H
 have Ny522 := Aside0.mk hy522
 clear hy522
 have H' := Aside0.mk H
 clear H
 have p520 : 0 ≤ (x5_1 : Int) := da1
 have q520 : x5_1 < (l1.length : Int) := da1
 obtain ⟨ad520, e520, hx520_0, hx520_1⟩ := at_T49 (Kd.C_kept_now HR1.out HK.out) x5_1 p520 q520
 obtain rfl : ad519 = ad520 := (by injection e520)
 replace p520 := eq_true p520
 replace q520 := eq_true q520
 obtain ⟨Ao25, co25, eo25⟩ := Kd.R_slice HO_0.out
 subst eo25
 have p521 : 0 ≤ (x6_3 : Int) := da1
 have q521 : x6_3 < (x0_3.length : Int) := da1
 obtain ⟨ad521, e521, hx521_0⟩ := Kd.at_int (Kd.R_reads' HO_0.out).2.2 x6_3 p521 q521
 cases e521
 replace p521 := eq_true p521
 replace q521 := eq_true q521
 have p24 : 0 ≤ (x6_3 : Int) := da1
 have q24 : (x6_3 : Int) < ((x0_3.length : Int) : Int) := da1
 obtain ⟨go24, co24, eo24, gb24, gl24, cl24, HG24⟩ := Kd.R_form HO_0.out (by omega)
 (first | cases eo24 | (injection eo24 with ea_ en_ ec_; (first | subst ea_ | (injection ea_ with ea_; subst ea_)); subst ec_; clear en_))
 have GB24 := Aside0.mk gb24
 have GG24 := Aside0.mk HG24
 clear gb24 gl24 HG24
 have HMgo24 := Aside0.mk (show (P0_ go24 ∨ w.heap.size ≤ go24) from (HO_0.out.1 _ rfl))
 (first | simp only [add_plain] at hx521_0 | skip)
 obtain ⟨hx24_0, hf24_0⟩ := Kd.R_celln 0 HO_0.out (x6_3 : Int) p24 q24
 replace p24 := eq_true p24
 replace q24 := eq_true q24
 have HP26 := Kd.R_putg HO_0.out (x6_3 : Int) (wrap64 ((rd x0_3 x6_3) + 1))
 go_wp2_with (first | ((with_reducible refine gate_store (t := 3) (p := 79) rfl ?_); (try (rw [drewN_self wr]; generalize hq_ : World.drewN wr _ = wr; have n0_ := Aside0.mk (Kd.R_at hq_ HO_0.out); have n1_ := Aside0.mk (kept_at hq_ HK.out); have n2_ := Aside0.mk (below_at hq_ HB.out); clear hq_ HO_0 HK HB; have HO_0 := n0_; have HK := n1_; have HB := n2_; clear n0_ n1_ n2_; (try (have HP26 := Kd.R_putg HO_0.out (x6_3 : Int) (wrap64 ((rd x0_3 x6_3) + 1)))))); refine store_event (t := 3) (p := 79) (v := ?vo_w27) (w1 := (wr.setCell ⟨go24, (x6_3 : Int).toNat, none⟩ (.int .i64 (wrap64 ((rd x0_3 x6_3) + 1))))) ?hg ?ho ?hn ?hr ?_; (case ho => rfl); (case hg => rfl); (case hn => rfl); (case hr => first | (go_simp; done) | (go_simp; rfl)); intro w27 hw; have hg : wr.grownBy w27 (some go24) := (by rw [hw]; exact HP26.2); have hp_ : Kd.R (Kd.int .i64) 3 w27 w0.heap.size (fun k_ => (P0_ k_ ∨ w.heap.size ≤ k_)) (.slice (some ⟨go24, 0, none⟩) x0_3.length co25) y522 := (by rw [hw, Ny522.out]; exact HP26.1); clear HP26; have n0_ := Aside0.mk (hp_); have n1_ := Aside0.mk ((by rw [hw]; exact below_set (HB.out) GB24.out : Below w0.heap.size w0 w27)); have n2_ := Aside0.mk (Kept.of_grown (S := (fun k_ => P0_ k_)) hg kl (fun k_ e_ => (HO_0.out.1 k_ e_))); clear HO_0; clear HB; clear HK; have HO_0 := n0_; have HB := n1_; have HK := n2_; clear n0_ n1_ n2_; clear hg hw hp_))
 repeat (go_quiet (first | ((with_reducible refine gate_store (t := 3) (p := 79) rfl ?_); (try (rw [drewN_self wr]; generalize hq_ : World.drewN wr _ = wr; have n0_ := Aside0.mk (Kd.R_at hq_ HO_0.out); have n1_ := Aside0.mk (kept_at hq_ HK.out); have n2_ := Aside0.mk (below_at hq_ HB.out); clear hq_ HO_0 HK HB; have HO_0 := n0_; have HK := n1_; have HB := n2_; clear n0_ n1_ n2_; (try (have HP26 := Kd.R_putg HO_0.out (x6_3 : Int) (wrap64 ((rd x0_3 x6_3) + 1)))))); refine store_event (t := 3) (p := 79) (v := ?vo_w27) (w1 := (wr.setCell ⟨go24, (x6_3 : Int).toNat, none⟩ (.int .i64 (wrap64 ((rd x0_3 x6_3) + 1))))) ?hg ?ho ?hn ?hr ?_; (case ho => rfl); (case hg => rfl); (case hn => rfl); (case hr => first | (go_simp; done) | (go_simp; rfl)); intro w27 hw; have hg : wr.grownBy w27 (some go24) := (by rw [hw]; exact HP26.2); have hp_ : Kd.R (Kd.int .i64) 3 w27 w0.heap.size (fun k_ => (P0_ k_ ∨ w.heap.size ≤ k_)) (.slice (some ⟨go24, 0, none⟩) x0_3.length co25) y522 := (by rw [hw, Ny522.out]; exact HP26.1); clear HP26; have n0_ := Aside0.mk (hp_); have n1_ := Aside0.mk ((by rw [hw]; exact below_set (HB.out) GB24.out : Below w0.heap.size w0 w27)); have n2_ := Aside0.mk (Kept.of_grown (S := (fun k_ => P0_ k_)) hg kl (fun k_ e_ => (HO_0.out.1 k_ e_))); clear HO_0; clear HB; clear HK; have HO_0 := n0_; have HB := n1_; have HK := n2_; clear n0_ n1_ n2_; clear hg hw hp_)); try go_wp2_with (first | ((with_reducible refine gate_store (t := 3) (p := 79) rfl ?_); (try (rw [drewN_self wr]; generalize hq_ : World.drewN wr _ = wr; have n0_ := Aside0.mk (Kd.R_at hq_ HO_0.out); have n1_ := Aside0.mk (kept_at hq_ HK.out); have n2_ := Aside0.mk (below_at hq_ HB.out); clear hq_ HO_0 HK HB; have HO_0 := n0_; have HK := n1_; have HB := n2_; clear n0_ n1_ n2_; (try (have HP26 := Kd.R_putg HO_0.out (x6_3 : Int) (wrap64 ((rd x0_3 x6_3) + 1)))))); refine store_event (t := 3) (p := 79) (v := ?vo_w27) (w1 := (wr.setCell ⟨go24, (x6_3 : Int).toNat, none⟩ (.int .i64 (wrap64 ((rd x0_3 x6_3) + 1))))) ?hg ?ho ?hn ?hr ?_; (case ho => rfl); (case hg => rfl); (case hn => rfl); (case hr => first | (go_simp; done) | (go_simp; rfl)); intro w27 hw; have hg : wr.grownBy w27 (some go24) := (by rw [hw]; exact HP26.2); have hp_ : Kd.R (Kd.int .i64) 3 w27 w0.heap.size (fun k_ => (P0_ k_ ∨ w.heap.size ≤ k_)) (.slice (some ⟨go24, 0, none⟩) x0_3.length co25) y522 := (by rw [hw, Ny522.out]; exact HP26.1); clear HP26; have n0_ := Aside0.mk (hp_); have n1_ := Aside0.mk ((by rw [hw]; exact below_set (HB.out) GB24.out : Below w0.heap.size w0 w27)); have n2_ := Aside0.mk (Kept.of_grown (S := (fun k_ => P0_ k_)) hg kl (fun k_ e_ => (HO_0.out.1 k_ e_))); clear HO_0; clear HB; clear HK; have HO_0 := n0_; have HB := n1_; have HK := n2_; clear n0_ n1_ n2_; clear hg hw hp_)))
 go_roundg k3
 case measure => have := HK1.out; have := HJ3.out; have := HK3.out; omega
 case rel => exact ⟨(y522), (wrap64 (x6_3 + 1)), rs1, H', ⟨by have := HK1.out; have := HJ3.out; have := HK3.out; omega⟩, ⟨by (with_reducible repeat (first | apply Kd.R_alloc | apply Kd.R_drewN | apply Kd.R_drew)); exact HO_0.out⟩, ⟨kl⟩, ⟨bl⟩⟩
end Go.Proofs.YtoaicheopcojoaaDoor.P
