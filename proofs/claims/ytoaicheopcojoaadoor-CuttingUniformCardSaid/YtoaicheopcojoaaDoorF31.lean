import Derived.Test.YtoaicheopcojoaaDoorSq
import Derived.Test.YtoaicheopcojoaaDoorF20
import Derived.Test.YtoaicheopcojoaaDoorF60
namespace Go.Proofs.YtoaicheopcojoaaDoor.P
open Go.RowKit Go.Proofs.YtoaicheopcojoaaDoorW.PrintWords Go.Proofs.YtoaicheopcojoaaDoorW.PrintLast Go.Proofs.YtoaicheopcojoaaDoorW.PrintMore
attribute [local go_sem] max2_int min2_int max_two min_two max_three min_three max_four min_four   -- for this text's walks alone
set_option linter.unusedVariables false
set_option linter.unusedSimpArgs false
/-! ### sawmillref17_Uniform: function 31 -/
mutual
def sawmillref17_Uniform.j0 : Nat → Int → List Int → List Int → Int → Int → Bool → Int → Int → Int → List Int → Option (Int × Int × Int × List Int × (List (List Int)) × List Int × List Int × Int)
  | 0, _, _, _, _, _, _, _, _, _, _ => none
  | k + 1, x0, x3, x4, x5, x6, x40, x421000, x421001, x421002, x421003 => if x40 = true then (some (0, 0, 0, ([] : List Int), ([] : List (List Int)), ([] : List Int), ([] : List Int), 9)) else (sawmillref17_Uniform.l0 k x0 x3 x4 x5 x6 0 x421000 x421001 x421002 x421003 ([] : List Int) ([] : List Int))
def sawmillref17_Uniform.l0 : Nat → Int → List Int → List Int → Int → Int → Int → Int → Int → Int → List Int → List Int → List Int → Option (Int × Int × Int × List Int × (List (List Int)) × List Int × List Int × Int)
  | 0, _, _, _, _, _, _, _, _, _, _, _, _ => none
  | k + 1, x0, x3, x4, x5, x6, x17, x421000, x421001, x421002, x421003, x421005, x421006 => if x17 < x0 then (if x421005.length < 17592186044416 then (if x421006.length < 17592186044416 then (sawmillref17_Uniform.l0 k x0 x3 x4 x5 x6 (wrap64 (x17 + 1)) x421000 x421001 x421002 x421003 (x421005 ++ [x5]) (x421006 ++ [x6])) else (none)) else (none)) else (if (x3.length : Int) > 32 then ((sawmillref17_headless.f x421000 x421001 x421002 x421003 ([] : List (List Int)) x421005 x421006).bind fun t427 => (some (0, 0, 0, ([] : List Int), ([] : List (List Int)), ([] : List Int), ([] : List Int), t427))) else (sawmillref17_Uniform.l1 k x0 x3 x4 0 x421000 x421001 x421002 x421003 ([] : List (List Int)) x421005 x421006))
def sawmillref17_Uniform.l1 : Nat → Int → List Int → List Int → Int → Int → Int → Int → List Int → List (List Int) → List Int → List Int → Option (Int × Int × Int × List Int × (List (List Int)) × List Int × List Int × Int)
  | 0, _, _, _, _, _, _, _, _, _, _, _ => none
  | k + 1, x0, x3, x4, x18, x421000, x421001, x421002, x421003, x421004, x421005, x421006 => if x18 < (x3.length : Int) then (sawmillref17_Uniform.l2 k x0 x3 x4 x18 ([] : List Int) 0 x421000 x421001 x421002 x421003 x421004 x421005 x421006) else ((sawmillref17_Check.f k x421000 x421001 x421002 x421003 x421004 x421005 x421006).bind fun t428 => (if t428 = 0 then (some (x421000, x421001, x421002, x421003, x421004, x421005, x421006, 0)) else (some (0, 0, 0, ([] : List Int), ([] : List (List Int)), ([] : List Int), ([] : List Int), t428))))
def sawmillref17_Uniform.l2 : Nat → Int → List Int → List Int → Int → List Int → Int → Int → Int → Int → List Int → List (List Int) → List Int → List Int → Option (Int × Int × Int × List Int × (List (List Int)) × List Int × List Int × Int)
  | 0, _, _, _, _, _, _, _, _, _, _, _, _, _ => none
  | k + 1, x0, x3, x4, x18, x19, x20, x421000, x421001, x421002, x421003, x421004, x421005, x421006 => if 0 ≤ x18 then (if x18 < (x3.length : Int) then (if x20 < (wrap64 ((wrap64 (x0 - (mx 1 (mn (rd x3 x18) 2000)))) + 1)) then (if x18 < (x4.length : Int) then (if x19.length < 17592186044416 then (sawmillref17_Uniform.l2 k x0 x3 x4 x18 (x19 ++ [rd x4 x18]) (wrap64 (x20 + 1)) x421000 x421001 x421002 x421003 x421004 x421005 x421006) else (none)) else (none)) else (if x421004.length < 5864062014805 then (sawmillref17_Uniform.l1 k x0 x3 x4 (wrap64 (x18 + 1)) x421000 x421001 x421002 x421003 (x421004 ++ [x19]) x421005 x421006) else (none))) else (none)) else (none)
end
def sawmillref17_Uniform.f (k : Nat) (a0 : Int) (a1 : Int) (a2 : Int) (l3 : List Int) (l4 : List Int) (a5 : Int) (a6 : Int) : Option (Int × Int × Int × List Int × (List (List Int)) × List Int × List Int × Int) := if (l4.length : Int) = (l3.length : Int) then ((some (([] : List Int) : List Int)).bind fun y414 => (if y414.length + l3.length < 17592186044416 then ((some (y414 ++ l3 : List Int)).bind fun y417 => (if a0 < 0 then (sawmillref17_Uniform.j0 k a0 l3 l4 a5 a6 true a0 a1 a2 y417) else (sawmillref17_Uniform.j0 k a0 l3 l4 a5 a6 (decide (a0 > 2000)) a0 a1 a2 y417))) else (none))) else (some (0, 0, 0, ([] : List Int), ([] : List (List Int)), ([] : List Int), ([] : List Int), 19))
theorem sawmillref17_Uniform.mono_l : ∀ k, (∀ y0 y1 y2 y3 y4 y5 y6 y7 y8 y9, LeO (sawmillref17_Uniform.j0 k y0 y1 y2 y3 y4 y5 y6 y7 y8 y9) (sawmillref17_Uniform.j0 (k + 1) y0 y1 y2 y3 y4 y5 y6 y7 y8 y9)) ∧ (∀ y0 y1 y2 y3 y4 y5 y6 y7 y8 y9 y10 y11, LeO (sawmillref17_Uniform.l0 k y0 y1 y2 y3 y4 y5 y6 y7 y8 y9 y10 y11) (sawmillref17_Uniform.l0 (k + 1) y0 y1 y2 y3 y4 y5 y6 y7 y8 y9 y10 y11)) ∧ (∀ y0 y1 y2 y3 y4 y5 y6 y7 y8 y9 y10, LeO (sawmillref17_Uniform.l1 k y0 y1 y2 y3 y4 y5 y6 y7 y8 y9 y10) (sawmillref17_Uniform.l1 (k + 1) y0 y1 y2 y3 y4 y5 y6 y7 y8 y9 y10)) ∧ (∀ y0 y1 y2 y3 y4 y5 y6 y7 y8 y9 y10 y11 y12, LeO (sawmillref17_Uniform.l2 k y0 y1 y2 y3 y4 y5 y6 y7 y8 y9 y10 y11 y12) (sawmillref17_Uniform.l2 (k + 1) y0 y1 y2 y3 y4 y5 y6 y7 y8 y9 y10 y11 y12))
  | 0 => ⟨fun _ _ _ _ _ _ _ _ _ _ r h => by simp [sawmillref17_Uniform.j0] at h, fun _ _ _ _ _ _ _ _ _ _ _ _ r h => by simp [sawmillref17_Uniform.l0] at h, fun _ _ _ _ _ _ _ _ _ _ _ r h => by simp [sawmillref17_Uniform.l1] at h, fun _ _ _ _ _ _ _ _ _ _ _ _ _ r h => by simp [sawmillref17_Uniform.l2] at h⟩
  | k + 1 => by
    obtain ⟨ih0, ih1, ih2, ih3⟩ := sawmillref17_Uniform.mono_l k
    refine ⟨?_, ?_, ?_, ?_⟩
    · intro y0 y1 y2 y3 y4 y5 y6 y7 y8 y9
      unfold sawmillref17_Uniform.j0
      repeat' first
      | (with_reducible exact ih0 _ _ _ _ _ _ _ _ _ _)
      | (with_reducible exact ih1 _ _ _ _ _ _ _ _ _ _ _ _)
      | (with_reducible exact ih2 _ _ _ _ _ _ _ _ _ _ _)
      | (with_reducible exact ih3 _ _ _ _ _ _ _ _ _ _ _ _ _)
      | (with_reducible exact sawmillref17_Check.mono _ _ _ _ _ _ _ _)
      | (with_reducible exact LeO.refl _)
      | (with_reducible exact LeO.none _)
      | (with_reducible refine LeO.ite ?_ ?_)
      | (with_reducible refine LeO.bind ?_ (fun _ => ?_))
      | exact ih0 _ _ _ _ _ _ _ _ _ _
      | exact ih1 _ _ _ _ _ _ _ _ _ _ _ _
      | exact ih2 _ _ _ _ _ _ _ _ _ _ _
      | exact ih3 _ _ _ _ _ _ _ _ _ _ _ _ _
      | exact sawmillref17_Check.mono _ _ _ _ _ _ _ _
      | exact LeO.none _
      | refine LeO.ite ?_ ?_
      | refine LeO.bind ?_ (fun _ => ?_)
    · intro y0 y1 y2 y3 y4 y5 y6 y7 y8 y9 y10 y11
      unfold sawmillref17_Uniform.l0
      repeat' first
      | (with_reducible exact ih0 _ _ _ _ _ _ _ _ _ _)
      | (with_reducible exact ih1 _ _ _ _ _ _ _ _ _ _ _ _)
      | (with_reducible exact ih2 _ _ _ _ _ _ _ _ _ _ _)
      | (with_reducible exact ih3 _ _ _ _ _ _ _ _ _ _ _ _ _)
      | (with_reducible exact sawmillref17_Check.mono _ _ _ _ _ _ _ _)
      | (with_reducible exact LeO.refl _)
      | (with_reducible exact LeO.none _)
      | (with_reducible refine LeO.ite ?_ ?_)
      | (with_reducible refine LeO.bind ?_ (fun _ => ?_))
      | exact ih0 _ _ _ _ _ _ _ _ _ _
      | exact ih1 _ _ _ _ _ _ _ _ _ _ _ _
      | exact ih2 _ _ _ _ _ _ _ _ _ _ _
      | exact ih3 _ _ _ _ _ _ _ _ _ _ _ _ _
      | exact sawmillref17_Check.mono _ _ _ _ _ _ _ _
      | exact LeO.none _
      | refine LeO.ite ?_ ?_
      | refine LeO.bind ?_ (fun _ => ?_)
    · intro y0 y1 y2 y3 y4 y5 y6 y7 y8 y9 y10
      unfold sawmillref17_Uniform.l1
      repeat' first
      | (with_reducible exact ih0 _ _ _ _ _ _ _ _ _ _)
      | (with_reducible exact ih1 _ _ _ _ _ _ _ _ _ _ _ _)
      | (with_reducible exact ih2 _ _ _ _ _ _ _ _ _ _ _)
      | (with_reducible exact ih3 _ _ _ _ _ _ _ _ _ _ _ _ _)
      | (with_reducible exact sawmillref17_Check.mono _ _ _ _ _ _ _ _)
      | (with_reducible exact LeO.refl _)
      | (with_reducible exact LeO.none _)
      | (with_reducible refine LeO.ite ?_ ?_)
      | (with_reducible refine LeO.bind ?_ (fun _ => ?_))
      | exact ih0 _ _ _ _ _ _ _ _ _ _
      | exact ih1 _ _ _ _ _ _ _ _ _ _ _ _
      | exact ih2 _ _ _ _ _ _ _ _ _ _ _
      | exact ih3 _ _ _ _ _ _ _ _ _ _ _ _ _
      | exact sawmillref17_Check.mono _ _ _ _ _ _ _ _
      | exact LeO.none _
      | refine LeO.ite ?_ ?_
      | refine LeO.bind ?_ (fun _ => ?_)
    · intro y0 y1 y2 y3 y4 y5 y6 y7 y8 y9 y10 y11 y12
      unfold sawmillref17_Uniform.l2
      repeat' first
      | (with_reducible exact ih0 _ _ _ _ _ _ _ _ _ _)
      | (with_reducible exact ih1 _ _ _ _ _ _ _ _ _ _ _ _)
      | (with_reducible exact ih2 _ _ _ _ _ _ _ _ _ _ _)
      | (with_reducible exact ih3 _ _ _ _ _ _ _ _ _ _ _ _ _)
      | (with_reducible exact sawmillref17_Check.mono _ _ _ _ _ _ _ _)
      | (with_reducible exact LeO.refl _)
      | (with_reducible exact LeO.none _)
      | (with_reducible refine LeO.ite ?_ ?_)
      | (with_reducible refine LeO.bind ?_ (fun _ => ?_))
      | exact ih0 _ _ _ _ _ _ _ _ _ _
      | exact ih1 _ _ _ _ _ _ _ _ _ _ _ _
      | exact ih2 _ _ _ _ _ _ _ _ _ _ _
      | exact ih3 _ _ _ _ _ _ _ _ _ _ _ _ _
      | exact sawmillref17_Check.mono _ _ _ _ _ _ _ _
      | exact LeO.none _
      | refine LeO.ite ?_ ?_
      | refine LeO.bind ?_ (fun _ => ?_)
theorem sawmillref17_Uniform.mono : ∀ a0 a1 a2 a3 a4 a5 a6 k, LeO (sawmillref17_Uniform.f k a0 a1 a2 a3 a4 a5 a6) (sawmillref17_Uniform.f (k + 1) a0 a1 a2 a3 a4 a5 a6) := by
  intro a0 a1 a2 a3 a4 a5 a6 k
  obtain ⟨ih0, ih1, ih2, ih3⟩ := sawmillref17_Uniform.mono_l k
  unfold sawmillref17_Uniform.f
  repeat' first
      | (with_reducible exact ih0 _ _ _ _ _ _ _ _ _ _)
      | (with_reducible exact ih1 _ _ _ _ _ _ _ _ _ _ _ _)
      | (with_reducible exact ih2 _ _ _ _ _ _ _ _ _ _ _)
      | (with_reducible exact ih3 _ _ _ _ _ _ _ _ _ _ _ _ _)
      | (with_reducible exact sawmillref17_Check.mono _ _ _ _ _ _ _ _)
      | (with_reducible exact LeO.refl _)
      | (with_reducible exact LeO.none _)
      | (with_reducible refine LeO.ite ?_ ?_)
      | (with_reducible refine LeO.bind ?_ (fun _ => ?_))
      | exact ih0 _ _ _ _ _ _ _ _ _ _
      | exact ih1 _ _ _ _ _ _ _ _ _ _ _ _
      | exact ih2 _ _ _ _ _ _ _ _ _ _ _
      | exact ih3 _ _ _ _ _ _ _ _ _ _ _ _ _
      | exact sawmillref17_Check.mono _ _ _ _ _ _ _ _
      | exact LeO.none _
      | refine LeO.ite ?_ ?_
      | refine LeO.bind ?_ (fun _ => ?_)
set_option maxHeartbeats 8000000 in
set_option maxRecDepth 100000 in
theorem sawmillref17_Uniform.calls (k : Nat) (a0 : Int) (a1 : Int) (a2 : Int) (A3 : Option Addr) (c3 : Nat) (l3 : List Int) (A4 : Option Addr) (c4 : Nat) (l4 : List Int) (a5 : Int) (a6 : Int) (r1 : Int) (r2 : Int) (r3 : Int) (r4 : List Int) (r5 : List (List Int)) (r6 : List Int) (r7 : List Int) (r8 : Int) (w : World) (hr3 : Kd.C (Kd.int .i64) w A3 l3.length l3) (hc3 : l3.length ≤ c3) (hr4 : Kd.C (Kd.int .i64) w A4 l4.length l4) (hc4 : l4.length ≤ c4) (h : sawmillref17_Uniform.f k a0 a1 a2 l3 l4 a5 a6 = some (r1, r2, r3, r4, r5, r6, r7, r8)) :
    Calls Tryd.prog 31 #[.int .i64 a0, .int .i64 a1, .int .i64 a2, .slice A3 l3.length c3, .slice A4 l4.length c4, .int .i64 a5, .int .i64 a6] w fun e w' => ∃ v3_ v4_ v5_ v6_ : Value, e = .returned (.tuple #[.agg #[.int .i64 r1, .int .i64 r2, .int .i64 r3, v3_, v4_, v5_, v6_], .int .i64 r8]) ∧ Kd.R (Kd.int .i64) 3 w' w.heap.size (fun k_ => some k_ ≠ (v5_ : Value).ownBlock ∧ some k_ ≠ (v6_ : Value).ownBlock) v3_ r4 ∧ Kd.S (Kd.slice 3 (Kd.int .i64)) 22 w' w.heap.size (fun k_ => some k_ ≠ (v3_ : Value).ownBlock ∧ some k_ ≠ (v5_ : Value).ownBlock ∧ some k_ ≠ (v6_ : Value).ownBlock) v4_ r5 ∧ Kd.R (Kd.int .i64) 3 w' w.heap.size (fun k_ => some k_ ≠ (v3_ : Value).ownBlock ∧ some k_ ≠ (v6_ : Value).ownBlock) v5_ r6 ∧ Kd.R (Kd.int .i64) 3 w' w.heap.size (fun k_ => some k_ ≠ (v3_ : Value).ownBlock ∧ some k_ ≠ (v5_ : Value).ownBlock) v6_ r7 ∧ Below w.heap.size w w' := by
 have hu25 := Tryd.underlying25
 have HR3 := Aside0.mk hr3
 have HC3 := Aside0.mk hc3
 clear hr3 hc3
 have HR4 := Aside0.mk hr4
 have HC4 := Aside0.mk hc4
 clear hr4 hc4
 have HB := Aside0.mk (Below.refl w.heap.size w)
 have H : (if (l4.length : Int) = (l3.length : Int) then ((some (([] : List Int) : List Int)).bind fun y414 => (if y414.length + l3.length < 17592186044416 then ((some (y414 ++ l3 : List Int)).bind fun y417 => (if a0 < 0 then (sawmillref17_Uniform.j0 k a0 l3 l4 a5 a6 true a0 a1 a2 y417) else (sawmillref17_Uniform.j0 k a0 l3 l4 a5 a6 (decide (a0 > 2000)) a0 a1 a2 y417))) else (none))) else (some (0, 0, 0, ([] : List Int), ([] : List (List Int)), ([] : List Int), ([] : List Int), 19))) = some (r1, r2, r3, r4, r5, r6, r7, r8) := h
 clear h
 by_cases c8 : (l4.length : Int) = (l3.length : Int)
 rotate_left
 · rw [if_neg c8] at H
   have c8b0 : ((l4.length : Int) == (l3.length : Int)) = false := beq_eq_false_iff_ne.mpr c8
   have c8b1 : ((l4.length : Int) != (l3.length : Int)) = true := bne_iff_ne.mpr c8
   have c8b2 : (l4.length == l3.length) = false := by first | simpa using c8 | (simp at c8 ⊢; omega)
   simp only [Option.some.injEq, Prod.mk.injEq] at H
   obtain ⟨rfl, rfl, rfl, rfl, rfl, rfl, rfl, rfl⟩ := H
   go_enter Tryd.func31, Tryd.ntmps31
   go_wp2_with (first | ((with_reducible refine gate_dst (N := 14) rfl ?_); refine bx1 (N := 14) #[.int .i64 0, .int .i64 0, .int .i64 0, .slice none 0 0, .slice none 0 0, .slice none 0 0, .slice none 0 0] 25 ?_; intro gb413 hg w75 hbox hb; have n0_ := Aside0.mk (below_step bl hb); have n1_ := Aside0.mk (hbox); have n2_ := Aside0.mk ((gs1 : w.heap.size ≤ gb413)); have n3_ := Aside0.mk ((gs1 : w.heap.size ≤ gb413)); clear HB; have HB := n0_; have BK413 := n1_; have GW413 := n2_; have GE413 := n3_; clear n0_ n1_ n2_ n3_; clear hb hbox hg; have hcz76 := blk_cells BK413.out; have hfz76 := blk_frozens BK413.out))
   refine bodyPost_ret (results_ct rfl _ _ gb413 25 #[.int .i64 0, .int .i64 0, .int .i64 0, .slice none 0 0, .slice none 0 0, .slice none 0 0, .slice none 0 0] (0, 0) _ rfl (by (with_reducible repeat (first | refine blk_drewN ?_ _ | refine blk_drew ?_ | refine blk_alloc ?_ _)); refine blk_put (cs := #[.int .i64 0, .int .i64 0, .int .i64 0, .slice none 0 0, .slice none 0 0, .slice none 0 0, .slice none 0 0]) ?_ 6 _ rfl; (with_reducible repeat (first | refine blk_drewN ?_ _ | refine blk_drew ?_ | refine blk_alloc ?_ _)); refine blk_put (cs := #[.int .i64 0, .int .i64 0, .int .i64 0, .slice none 0 0, .slice none 0 0, .slice none 0 0, .slice none 0 0]) ?_ 5 _ rfl; (with_reducible repeat (first | refine blk_drewN ?_ _ | refine blk_drew ?_ | refine blk_alloc ?_ _)); refine blk_put (cs := #[.int .i64 0, .int .i64 0, .int .i64 0, .slice none 0 0, .slice none 0 0, .slice none 0 0, .slice none 0 0]) ?_ 4 _ rfl; (with_reducible repeat (first | refine blk_drewN ?_ _ | refine blk_drew ?_ | refine blk_alloc ?_ _)); refine blk_put (cs := #[.int .i64 0, .int .i64 0, .int .i64 0, .slice none 0 0, .slice none 0 0, .slice none 0 0, .slice none 0 0]) ?_ 3 _ rfl; (with_reducible repeat (first | refine blk_drewN ?_ _ | refine blk_drew ?_ | refine blk_alloc ?_ _)); refine blk_put (cs := #[.int .i64 0, .int .i64 0, .int .i64 0, .slice none 0 0, .slice none 0 0, .slice none 0 0, .slice none 0 0]) ?_ 2 _ rfl; (with_reducible repeat (first | refine blk_drewN ?_ _ | refine blk_drew ?_ | refine blk_alloc ?_ _)); refine blk_put (cs := #[.int .i64 0, .int .i64 0, .int .i64 0, .slice none 0 0, .slice none 0 0, .slice none 0 0, .slice none 0 0]) ?_ 1 _ rfl; (with_reducible repeat (first | refine blk_drewN ?_ _ | refine blk_drew ?_ | refine blk_alloc ?_ _)); refine blk_put (cs := #[.int .i64 0, .int .i64 0, .int .i64 0, .slice none 0 0, .slice none 0 0, .slice none 0 0, .slice none 0 0]) ?_ 0 _ rfl; (with_reducible repeat (first | refine blk_drewN ?_ _ | refine blk_drew ?_ | refine blk_alloc ?_ _)); exact BK413.out) Tryd.underlying25 rfl (by kernel_rfl)) rfl ?_
   exact ⟨_, _, _, _, fe1, by first | exact Kd.R_nil _ _ _ _ _ | exact Kd.N_nil _ _ _ _ _ | exact Kd.V_nil _ _ _ _ _ | exact Kd.Q_nil _ _ _ _ _ | exact Kd.S_nil _ _ _ _ _, by first | exact Kd.S_nil _ _ _ _ _ | exact Kd.N_nil _ _ _ _ _ | exact Kd.V_nil _ _ _ _ _ | exact Kd.Q_nil _ _ _ _ _ | exact Kd.R_nil _ _ _ _ _, by first | exact Kd.R_nil _ _ _ _ _ | exact Kd.N_nil _ _ _ _ _ | exact Kd.V_nil _ _ _ _ _ | exact Kd.Q_nil _ _ _ _ _ | exact Kd.S_nil _ _ _ _ _, by first | exact Kd.R_nil _ _ _ _ _ | exact Kd.N_nil _ _ _ _ _ | exact Kd.V_nil _ _ _ _ _ | exact Kd.Q_nil _ _ _ _ _ | exact Kd.S_nil _ _ _ _ _, bl⟩
 rw [if_pos c8] at H
 have c8b0 : ((l4.length : Int) == (l3.length : Int)) = true := beq_iff_eq.mpr c8
 have c8b1 : ((l4.length : Int) != (l3.length : Int)) = false := bne_eq_false_iff_eq.mpr c8
 have c8b2 : (l4.length == l3.length) = true := by first | simpa using c8 | (simp at c8 ⊢; omega)
 clear c8
 obtain ⟨y414, hy414⟩ : ∃ y_ : List Int, y_ = (([] : List Int)) := ⟨_, rfl⟩
 replace H : (if y414.length + l3.length < 17592186044416 then ((some (y414 ++ l3 : List Int)).bind fun y417 => (if a0 < 0 then (sawmillref17_Uniform.j0 k a0 l3 l4 a5 a6 true a0 a1 a2 y417) else (sawmillref17_Uniform.j0 k a0 l3 l4 a5 a6 (decide (a0 > 2000)) a0 a1 a2 y417))) else (none)) = some (r1, r2, r3, r4, r5, r6, r7, r8) := by first | (rw [hy414]; with_reducible exact H) | (have H2_ := (Option.bind_some _ _).symm.trans H; rw [hy414]; with_reducible exact H2_) | (have H2_ := (Option.bind_some _ _).symm.trans H; with_reducible exact H2_) | with_reducible exact H | (rw [hy414]; exact H) | exact H
 have Ny414 := Aside0.mk hy414
 clear hy414
 obtain ⟨c9, H⟩ := gd1 H
 have LMc9 := Aside0.mk c9
 clear c9
 obtain ⟨y417, hy417⟩ : ∃ y_ : List Int, y_ = (y414 ++ l3) := ⟨_, rfl⟩
 replace H : (if a0 < 0 then (sawmillref17_Uniform.j0 k a0 l3 l4 a5 a6 true a0 a1 a2 y417) else (sawmillref17_Uniform.j0 k a0 l3 l4 a5 a6 (decide (a0 > 2000)) a0 a1 a2 y417)) = some (r1, r2, r3, r4, r5, r6, r7, r8) := by first | (rw [hy417]; with_reducible exact H) | (have H2_ := (Option.bind_some _ _).symm.trans H; rw [hy417]; with_reducible exact H2_) | (have H2_ := (Option.bind_some _ _).symm.trans H; with_reducible exact H2_) | with_reducible exact H | (rw [hy417]; exact H) | exact H
 have Ny417 := Aside0.mk hy417
 clear hy417
 have HC10 := Aside0.mk H
 clear H
 go_enter Tryd.func31, Tryd.ntmps31
 go_upto_region 4 with (first | ((with_reducible refine gate_dst (N := 14) rfl ?_); refine bx1 (N := 14) #[.int .i64 0, .int .i64 0, .int .i64 0, .slice none 0 0, .slice none 0 0, .slice none 0 0, .slice none 0 0] 25 ?_; intro gb413 hg w11 hbox hb; have n0_ := Aside0.mk (below_step bl hb); have n1_ := Aside0.mk (hbox); have n2_ := Aside0.mk ((gs1 : w.heap.size ≤ gb413)); have n3_ := Aside0.mk ((gs1 : w.heap.size ≤ gb413)); clear HB; have HB := n0_; have BK413 := n1_; have GW413 := n2_; have GE413 := n3_; clear n0_ n1_ n2_ n3_; clear hb hbox hg) | ((with_reducible refine gate_dst (N := 31) rfl ?_); refine Kd.R_lit (Kd.int .i64) _ 3 ?hg (N := 31) ?hd (xs := ([] : List Int)) (inner := []) (ok := fun _ => True) (okp := fun _ => True) ?hr ?hp (fun _ hk => hk) trivial (Below.refl _ _) (Nat.le_refl _) (by simp) ?_; (case hd => rfl); (case hg => rfl); (case hr => first | (go_simp; done) | (go_simp; rfl)); (case hp => exact (Reps.none _ _)); intro v415 w12 ho13 hb hg_ hnew_; clear hg_ hnew_; (first | rw [← Ny414.out] at ho13 | (simp only [Int.reduceToNat] at ho13; rw [← Ny414.out] at ho13)); have n0_ := Aside0.mk (Kd.R_lower ho13 (below_size bl)); have n1_ := Aside0.mk (blk_below (bu BK413.out) hb); have n2_ := Aside0.mk (below_step bl hb); clear BK413; clear HB; have HO416 := n0_; have BK413 := n1_; have HB := n2_; clear n0_ n1_ n2_; clear hb ho13) | ((with_reducible refine gate_builtin (b := .append) (xs := #[.tmp 31, .tmp 32]) rfl ?_); at_builtin; refine Kd.R_append_rows (Kd.int .i64) (w0 := w) w.heap.size rfl (.tmp 31) (.tmp 32) 22 3 (.int .i64 0) 8 rfl Tryd.underlying22 info3 rfl (by decide) (by omega) v415 y414 l3 _ _ _ (fun _ => True) (fun _ => False) rfl rfl ?aO ?aR (fun _ _ h => h) (fun _ h => h.elim) ?aF ?aB ?aS ?aL ?_; (case aR => exact cu1 (Kd.C_below HR3.out HB.out)); (case aB => exact bl); (case aF => exact (fun _ _ => trivial)); (case aO => exact (ru HO416.out)); (case aS => exact (below_size bl)); (case aL => have := LMc9.out; omega); intro v418 w14 ho hb hg hat; rw [← Ny417.out] at ho; have n0_ := Aside0.mk (blk_grown (g := gb413) (o := .cells #[.int .i64 0, .int .i64 0, .int .i64 0, .slice none 0 0, .slice none 0 0, .slice none 0 0, .slice none 0 0] 25 (0, 0)) (bu BK413.out) hg (Kd.R_ne HO416.out BK413.out (by decide))); have n1_ := Aside0.mk (hb); have n2_ := Aside0.mk (ho); clear BK413; clear HB; clear HO416; have BK413 := n0_; have HB := n1_; have HO419 := n2_; clear n0_ n1_ n2_; clear ho hb hg hat; obtain ⟨Ao15, co15, eo15⟩ := Kd.R_slice HO419.out; subst eo15) | ((with_reducible refine gate_dst (N := 16) rfl ?_); refine bx1 (N := 16) #[.int .i64 0, .int .i64 0, .int .i64 0, .slice none 0 0, .slice none 0 0, .slice none 0 0, .slice none 0 0] 25 ?_; intro gb420 hg w16 hbox hb; have n0_ := Aside0.mk (Kd.R_below (ru HO419.out) hb); have n1_ := Aside0.mk (blk_below (bu BK413.out) hb); have n2_ := Aside0.mk (below_step bl hb); have n3_ := Aside0.mk (hbox); have n4_ := Aside0.mk ((gs1 : w.heap.size ≤ gb420)); have n5_ := Aside0.mk ((gs1 : w.heap.size ≤ gb420)); have n6_ := Aside0.mk ((nl1 BK413 : gb413 ≠ gb420)); have n7_ := Aside0.mk ((ng1 BK413 : gb420 ≠ gb413)); clear HO419; clear BK413; clear HB; have HO419 := n0_; have BK413 := n1_; have HB := n2_; have BK420 := n3_; have GW420 := n4_; have GE420 := n5_; have NB413_420 := n6_; have NB420_413 := n7_; clear n0_ n1_ n2_ n3_ n4_ n5_ n6_ n7_; clear hb hbox hg; have hnb17 := NB420_413.out; have hnc17 := NB413_420.out; have hcz18 := blk_cells BK420.out; have hfz18 := blk_frozens BK420.out))
 (try simp only [Act.put, List.setIfInBounds_toArray, List.set_cons_zero, List.set_cons_succ])
 go_cut [40] (fun v40 wc => ∃ (kq : Nat) (x40_9 : Bool), v40 = .bool x40_9 ∧ Aside0 (sawmillref17_Uniform.j0 kq a0 l3 l4 a5 a6 x40_9 a0 a1 a2 y417 = some (r1, r2, r3, r4, r5, r6, r7, r8)) ∧ Aside0 (kq ≤ k) ∧ Aside0 (Kd.R (Kd.int .i64) 3 wc w.heap.size (fun _ => True) (.slice Ao15 y417.length co15) y417) ∧ Aside0 (wc.heap[gb413]? = some (.cells #[.int .i64 0, .int .i64 0, .int .i64 0, (.slice none 0 0), (.slice none 0 0), (.slice none 0 0), (.slice none 0 0)] 25 (0, 0))) ∧ Aside0 (wc.heap[gb420]? = some (.cells #[.int .i64 a0, .int .i64 a1, .int .i64 a2, (.slice Ao15 y417.length co15), (.slice none 0 0), (.slice none 0 0), (.slice none 0 0)] 25 (0, 0))) ∧ Aside0 (Below w.heap.size w wc))
 case first =>
  have H := HC10.out
  clear HC10
  by_cases c19 : a0 < 0
  · rw [if_pos c19] at H
    have c19b0 : decide (a0 < 0) = true := decide_eq_true c19
    clear c19
    (first | rw [c19b0] | (simp only [i64_w, i32_w]; rw [c19b0]) | skip)
    have H' := Aside0.mk H
    clear H
    go_wp2
    go_meet
    case rel => exact ⟨_, (true), rs1, H', ⟨by first | omega | exact Nat.le_refl _⟩, ⟨by (with_reducible repeat (first | apply Kd.R_alloc | apply Kd.R_drewN | apply Kd.R_drew)); exact Kd.R_mono (Kd.R_far (p := ⟨gb420, 6, none⟩) (Kd.R_far (p := ⟨gb420, 5, none⟩) (Kd.R_far (p := ⟨gb420, 4, none⟩) (Kd.R_far (p := ⟨gb420, 3, none⟩) (Kd.R_far (p := ⟨gb420, 2, none⟩) (Kd.R_far (p := ⟨gb420, 1, none⟩) (Kd.R_far (p := ⟨gb420, 0, none⟩) (Kd.R_types HO419.out BK420.out (by decide)) (fun _ hk => hk.2) (.int .i64 a0)) (fun _ hk => hk.2) (.int .i64 a1)) (fun _ hk => hk.2) (.int .i64 a2)) (fun _ hk => hk.2) (.slice Ao15 y417.length co15)) (fun _ hk => hk.2) (.slice none 0 0)) (fun _ hk => hk.2) (.slice none 0 0)) (fun _ hk => hk.2) (.slice none 0 0)) (fun _ hk => trivial)⟩, ⟨by (with_reducible repeat (first | refine blk_drewN ?_ _ | refine blk_drew ?_ | refine blk_alloc ?_ _)); refine blk_far ?_ NB413_420.out _; (with_reducible repeat (first | refine blk_drewN ?_ _ | refine blk_drew ?_ | refine blk_alloc ?_ _)); refine blk_far ?_ NB413_420.out _; (with_reducible repeat (first | refine blk_drewN ?_ _ | refine blk_drew ?_ | refine blk_alloc ?_ _)); refine blk_far ?_ NB413_420.out _; (with_reducible repeat (first | refine blk_drewN ?_ _ | refine blk_drew ?_ | refine blk_alloc ?_ _)); refine blk_far ?_ NB413_420.out _; (with_reducible repeat (first | refine blk_drewN ?_ _ | refine blk_drew ?_ | refine blk_alloc ?_ _)); refine blk_far ?_ NB413_420.out _; (with_reducible repeat (first | refine blk_drewN ?_ _ | refine blk_drew ?_ | refine blk_alloc ?_ _)); refine blk_far ?_ NB413_420.out _; (with_reducible repeat (first | refine blk_drewN ?_ _ | refine blk_drew ?_ | refine blk_alloc ?_ _)); refine blk_far ?_ NB413_420.out _; (with_reducible repeat (first | refine blk_drewN ?_ _ | refine blk_drew ?_ | refine blk_alloc ?_ _)); exact BK413.out⟩, ⟨by (with_reducible repeat (first | refine blk_drewN ?_ _ | refine blk_drew ?_ | refine blk_alloc ?_ _)); refine blk_put (cs := #[.int .i64 a0, .int .i64 a1, .int .i64 a2, .slice Ao15 y417.length co15, .slice none 0 0, .slice none 0 0, .slice none 0 0]) ?_ 6 _ rfl; (with_reducible repeat (first | refine blk_drewN ?_ _ | refine blk_drew ?_ | refine blk_alloc ?_ _)); refine blk_put (cs := #[.int .i64 a0, .int .i64 a1, .int .i64 a2, .slice Ao15 y417.length co15, .slice none 0 0, .slice none 0 0, .slice none 0 0]) ?_ 5 _ rfl; (with_reducible repeat (first | refine blk_drewN ?_ _ | refine blk_drew ?_ | refine blk_alloc ?_ _)); refine blk_put (cs := #[.int .i64 a0, .int .i64 a1, .int .i64 a2, .slice Ao15 y417.length co15, .slice none 0 0, .slice none 0 0, .slice none 0 0]) ?_ 4 _ rfl; (with_reducible repeat (first | refine blk_drewN ?_ _ | refine blk_drew ?_ | refine blk_alloc ?_ _)); refine blk_put (cs := #[.int .i64 a0, .int .i64 a1, .int .i64 a2, .slice none 0 0, .slice none 0 0, .slice none 0 0, .slice none 0 0]) ?_ 3 _ rfl; (with_reducible repeat (first | refine blk_drewN ?_ _ | refine blk_drew ?_ | refine blk_alloc ?_ _)); refine blk_put (cs := #[.int .i64 a0, .int .i64 a1, .int .i64 0, .slice none 0 0, .slice none 0 0, .slice none 0 0, .slice none 0 0]) ?_ 2 _ rfl; (with_reducible repeat (first | refine blk_drewN ?_ _ | refine blk_drew ?_ | refine blk_alloc ?_ _)); refine blk_put (cs := #[.int .i64 a0, .int .i64 0, .int .i64 0, .slice none 0 0, .slice none 0 0, .slice none 0 0, .slice none 0 0]) ?_ 1 _ rfl; (with_reducible repeat (first | refine blk_drewN ?_ _ | refine blk_drew ?_ | refine blk_alloc ?_ _)); refine blk_put (cs := #[.int .i64 0, .int .i64 0, .int .i64 0, .slice none 0 0, .slice none 0 0, .slice none 0 0, .slice none 0 0]) ?_ 0 _ rfl; (with_reducible repeat (first | refine blk_drewN ?_ _ | refine blk_drew ?_ | refine blk_alloc ?_ _)); exact BK420.out⟩, ⟨bl⟩⟩
  rw [if_neg c19] at H
  have c19b0 : decide (a0 < 0) = false := decide_eq_false c19
  clear c19
  (first | rw [c19b0] | (simp only [i64_w, i32_w]; rw [c19b0]) | skip)
  have H' := Aside0.mk H
  clear H
  go_wp2
  go_meet
  case rel => exact ⟨_, (decide (a0 > 2000)), rs1, H', ⟨by first | omega | exact Nat.le_refl _⟩, ⟨by (with_reducible repeat (first | apply Kd.R_alloc | apply Kd.R_drewN | apply Kd.R_drew)); exact Kd.R_mono (Kd.R_far (p := ⟨gb420, 6, none⟩) (Kd.R_far (p := ⟨gb420, 5, none⟩) (Kd.R_far (p := ⟨gb420, 4, none⟩) (Kd.R_far (p := ⟨gb420, 3, none⟩) (Kd.R_far (p := ⟨gb420, 2, none⟩) (Kd.R_far (p := ⟨gb420, 1, none⟩) (Kd.R_far (p := ⟨gb420, 0, none⟩) (Kd.R_types HO419.out BK420.out (by decide)) (fun _ hk => hk.2) (.int .i64 a0)) (fun _ hk => hk.2) (.int .i64 a1)) (fun _ hk => hk.2) (.int .i64 a2)) (fun _ hk => hk.2) (.slice Ao15 y417.length co15)) (fun _ hk => hk.2) (.slice none 0 0)) (fun _ hk => hk.2) (.slice none 0 0)) (fun _ hk => hk.2) (.slice none 0 0)) (fun _ hk => trivial)⟩, ⟨by (with_reducible repeat (first | refine blk_drewN ?_ _ | refine blk_drew ?_ | refine blk_alloc ?_ _)); refine blk_far ?_ NB413_420.out _; (with_reducible repeat (first | refine blk_drewN ?_ _ | refine blk_drew ?_ | refine blk_alloc ?_ _)); refine blk_far ?_ NB413_420.out _; (with_reducible repeat (first | refine blk_drewN ?_ _ | refine blk_drew ?_ | refine blk_alloc ?_ _)); refine blk_far ?_ NB413_420.out _; (with_reducible repeat (first | refine blk_drewN ?_ _ | refine blk_drew ?_ | refine blk_alloc ?_ _)); refine blk_far ?_ NB413_420.out _; (with_reducible repeat (first | refine blk_drewN ?_ _ | refine blk_drew ?_ | refine blk_alloc ?_ _)); refine blk_far ?_ NB413_420.out _; (with_reducible repeat (first | refine blk_drewN ?_ _ | refine blk_drew ?_ | refine blk_alloc ?_ _)); refine blk_far ?_ NB413_420.out _; (with_reducible repeat (first | refine blk_drewN ?_ _ | refine blk_drew ?_ | refine blk_alloc ?_ _)); refine blk_far ?_ NB413_420.out _; (with_reducible repeat (first | refine blk_drewN ?_ _ | refine blk_drew ?_ | refine blk_alloc ?_ _)); exact BK413.out⟩, ⟨by (with_reducible repeat (first | refine blk_drewN ?_ _ | refine blk_drew ?_ | refine blk_alloc ?_ _)); refine blk_put (cs := #[.int .i64 a0, .int .i64 a1, .int .i64 a2, .slice Ao15 y417.length co15, .slice none 0 0, .slice none 0 0, .slice none 0 0]) ?_ 6 _ rfl; (with_reducible repeat (first | refine blk_drewN ?_ _ | refine blk_drew ?_ | refine blk_alloc ?_ _)); refine blk_put (cs := #[.int .i64 a0, .int .i64 a1, .int .i64 a2, .slice Ao15 y417.length co15, .slice none 0 0, .slice none 0 0, .slice none 0 0]) ?_ 5 _ rfl; (with_reducible repeat (first | refine blk_drewN ?_ _ | refine blk_drew ?_ | refine blk_alloc ?_ _)); refine blk_put (cs := #[.int .i64 a0, .int .i64 a1, .int .i64 a2, .slice Ao15 y417.length co15, .slice none 0 0, .slice none 0 0, .slice none 0 0]) ?_ 4 _ rfl; (with_reducible repeat (first | refine blk_drewN ?_ _ | refine blk_drew ?_ | refine blk_alloc ?_ _)); refine blk_put (cs := #[.int .i64 a0, .int .i64 a1, .int .i64 a2, .slice none 0 0, .slice none 0 0, .slice none 0 0, .slice none 0 0]) ?_ 3 _ rfl; (with_reducible repeat (first | refine blk_drewN ?_ _ | refine blk_drew ?_ | refine blk_alloc ?_ _)); refine blk_put (cs := #[.int .i64 a0, .int .i64 a1, .int .i64 0, .slice none 0 0, .slice none 0 0, .slice none 0 0, .slice none 0 0]) ?_ 2 _ rfl; (with_reducible repeat (first | refine blk_drewN ?_ _ | refine blk_drew ?_ | refine blk_alloc ?_ _)); refine blk_put (cs := #[.int .i64 a0, .int .i64 0, .int .i64 0, .slice none 0 0, .slice none 0 0, .slice none 0 0, .slice none 0 0]) ?_ 1 _ rfl; (with_reducible repeat (first | refine blk_drewN ?_ _ | refine blk_drew ?_ | refine blk_alloc ?_ _)); refine blk_put (cs := #[.int .i64 0, .int .i64 0, .int .i64 0, .slice none 0 0, .slice none 0 0, .slice none 0 0, .slice none 0 0]) ?_ 0 _ rfl; (with_reducible repeat (first | refine blk_drewN ?_ _ | refine blk_drew ?_ | refine blk_alloc ?_ _)); exact BK420.out⟩, ⟨bl⟩⟩
 clear HC10; (try clear c1); (try clear p2); (try clear c3); (try clear c4); (try clear c8); (try clear c8b0); (try clear c8b1); (try clear c8b2); (try clear c9); (try clear c17); (try clear c19); (try clear c19b0); (try clear hcz18); (try clear hfz18)
 obtain ⟨kq, x40_9, rfl, HA, HJ9, HO_421003, BK413, BK420, HB⟩ := hcut
 rcases kq with _ | kj9
 · exact absurd HA.out (by simp [sawmillref17_Uniform.j0])
 have H := HA.out
 clear HA
 simp only [sawmillref17_Uniform.j0] at H
 by_cases c20 : x40_9 = true
 · subst c20
   have H1 : (some (0, 0, 0, ([] : List Int), ([] : List (List Int)), ([] : List Int), ([] : List Int), 9)) = some (r1, r2, r3, r4, r5, r6, r7, r8) := by rw [if_pos rfl] at H; exact H
   clear H
   have H := H1
   clear H1
   simp only [Option.some.injEq, Prod.mk.injEq] at H
   obtain ⟨rfl, rfl, rfl, rfl, rfl, rfl, rfl, rfl⟩ := H
   have hnb21 := NB413_420.out
   have hnc21 := NB420_413.out
   have hcz22 := blk_cells BK413.out
   have hfz22 := blk_frozens BK413.out
   go_wp2
   refine bodyPost_ret (results_ct rfl _ _ gb413 25 #[.int .i64 0, .int .i64 0, .int .i64 0, .slice none 0 0, .slice none 0 0, .slice none 0 0, .slice none 0 0] (0, 0) _ rfl (by (with_reducible repeat (first | refine blk_drewN ?_ _ | refine blk_drew ?_ | refine blk_alloc ?_ _)); refine blk_put (cs := #[.int .i64 0, .int .i64 0, .int .i64 0, .slice none 0 0, .slice none 0 0, .slice none 0 0, .slice none 0 0]) ?_ 6 _ rfl; (with_reducible repeat (first | refine blk_drewN ?_ _ | refine blk_drew ?_ | refine blk_alloc ?_ _)); refine blk_put (cs := #[.int .i64 0, .int .i64 0, .int .i64 0, .slice none 0 0, .slice none 0 0, .slice none 0 0, .slice none 0 0]) ?_ 5 _ rfl; (with_reducible repeat (first | refine blk_drewN ?_ _ | refine blk_drew ?_ | refine blk_alloc ?_ _)); refine blk_put (cs := #[.int .i64 0, .int .i64 0, .int .i64 0, .slice none 0 0, .slice none 0 0, .slice none 0 0, .slice none 0 0]) ?_ 4 _ rfl; (with_reducible repeat (first | refine blk_drewN ?_ _ | refine blk_drew ?_ | refine blk_alloc ?_ _)); refine blk_put (cs := #[.int .i64 0, .int .i64 0, .int .i64 0, .slice none 0 0, .slice none 0 0, .slice none 0 0, .slice none 0 0]) ?_ 3 _ rfl; (with_reducible repeat (first | refine blk_drewN ?_ _ | refine blk_drew ?_ | refine blk_alloc ?_ _)); refine blk_put (cs := #[.int .i64 0, .int .i64 0, .int .i64 0, .slice none 0 0, .slice none 0 0, .slice none 0 0, .slice none 0 0]) ?_ 2 _ rfl; (with_reducible repeat (first | refine blk_drewN ?_ _ | refine blk_drew ?_ | refine blk_alloc ?_ _)); refine blk_put (cs := #[.int .i64 0, .int .i64 0, .int .i64 0, .slice none 0 0, .slice none 0 0, .slice none 0 0, .slice none 0 0]) ?_ 1 _ rfl; (with_reducible repeat (first | refine blk_drewN ?_ _ | refine blk_drew ?_ | refine blk_alloc ?_ _)); refine blk_put (cs := #[.int .i64 0, .int .i64 0, .int .i64 0, .slice none 0 0, .slice none 0 0, .slice none 0 0, .slice none 0 0]) ?_ 0 _ rfl; (with_reducible repeat (first | refine blk_drewN ?_ _ | refine blk_drew ?_ | refine blk_alloc ?_ _)); exact BK413.out) Tryd.underlying25 rfl (by kernel_rfl)) rfl ?_
   exact ⟨_, _, _, _, fe1, by first | exact Kd.R_nil _ _ _ _ _ | exact Kd.N_nil _ _ _ _ _ | exact Kd.V_nil _ _ _ _ _ | exact Kd.Q_nil _ _ _ _ _ | exact Kd.S_nil _ _ _ _ _, by first | exact Kd.S_nil _ _ _ _ _ | exact Kd.N_nil _ _ _ _ _ | exact Kd.V_nil _ _ _ _ _ | exact Kd.Q_nil _ _ _ _ _ | exact Kd.R_nil _ _ _ _ _, by first | exact Kd.R_nil _ _ _ _ _ | exact Kd.N_nil _ _ _ _ _ | exact Kd.V_nil _ _ _ _ _ | exact Kd.Q_nil _ _ _ _ _ | exact Kd.S_nil _ _ _ _ _, by first | exact Kd.R_nil _ _ _ _ _ | exact Kd.N_nil _ _ _ _ _ | exact Kd.V_nil _ _ _ _ _ | exact Kd.Q_nil _ _ _ _ _ | exact Kd.S_nil _ _ _ _ _, bl⟩
 replace c20 := Bool.eq_false_iff.mpr c20
 subst c20
 have H1 : (sawmillref17_Uniform.l0 kj9 a0 l3 l4 a5 a6 0 a0 a1 a2 y417 ([] : List Int) ([] : List Int)) = some (r1, r2, r3, r4, r5, r6, r7, r8) := by rw [if_neg (show ¬ (false = true) by decide)] at H; exact H
 clear H
 have H := H1
 clear H1
 have H' := Aside0.mk H
 clear H
 go_wp2
 go_loopg [17] kj9 (fun kq v17 w' => ∃ (x17_2 : Int) (x421005_2 : List Int) (x421006_2 : List Int) (u421005 : Value) (u421006 : Value), v17 = .int .i64 x17_2 ∧ Aside0 (sawmillref17_Uniform.l0 kq a0 l3 l4 a5 a6 x17_2 a0 a1 a2 y417 x421005_2 x421006_2 = some (r1, r2, r3, r4, r5, r6, r7, r8)) ∧ Aside0 (kq ≤ kj9) ∧ Aside0 (Kd.R (Kd.int .i64) 3 w' w.heap.size (fun k_ => some k_ ≠ (u421005 : Value).ownBlock ∧ some k_ ≠ (u421006 : Value).ownBlock) (.slice Ao15 y417.length co15) y417) ∧ Aside0 (Kd.R (Kd.int .i64) 3 w' w.heap.size (fun k_ => some k_ ≠ ((.slice Ao15 y417.length co15) : Value).ownBlock ∧ some k_ ≠ (u421006 : Value).ownBlock) u421005 x421005_2) ∧ Aside0 (Kd.R (Kd.int .i64) 3 w' w.heap.size (fun k_ => some k_ ≠ ((.slice Ao15 y417.length co15) : Value).ownBlock ∧ some k_ ≠ (u421005 : Value).ownBlock) u421006 x421006_2) ∧ Aside0 (w'.heap[gb413]? = some (.cells #[.int .i64 0, .int .i64 0, .int .i64 0, (.slice none 0 0), (.slice none 0 0), (.slice none 0 0), (.slice none 0 0)] 25 (0, 0))) ∧ Aside0 (w'.heap[gb420]? = some (.cells #[.int .i64 a0, .int .i64 a1, .int .i64 a2, (.slice Ao15 y417.length co15), (.slice none 0 0), u421005, u421006] 25 (0, 0))) ∧ Aside0 (Below w.heap.size w w'))
 case atStart => exact ⟨(0), (([] : List Int)), (([] : List Int)), (.slice none 0 0), (.slice none 0 0), rs1, H', ⟨Nat.le_refl _⟩, ⟨by (with_reducible repeat (first | apply Kd.R_alloc | apply Kd.R_drewN | apply Kd.R_drew)); exact Kd.R_mono HO_421003.out (fun _ hk => ⟨(by simp [Value.ownBlock]), (by simp [Value.ownBlock])⟩)⟩, ⟨by first | exact Kd.R_nil _ _ _ _ _ | exact Kd.N_nil _ _ _ _ _ | exact Kd.V_nil _ _ _ _ _ | exact Kd.Q_nil _ _ _ _ _ | exact Kd.S_nil _ _ _ _ _⟩, ⟨by first | exact Kd.R_nil _ _ _ _ _ | exact Kd.N_nil _ _ _ _ _ | exact Kd.V_nil _ _ _ _ _ | exact Kd.Q_nil _ _ _ _ _ | exact Kd.S_nil _ _ _ _ _⟩, ⟨bu BK413.out⟩, ⟨bu BK420.out⟩, ⟨bl⟩⟩
 clear H'; (try clear c1); (try clear c2); (try clear p2); (try clear c3); (try clear c4); (try clear c8); (try clear c8b0); (try clear c8b1); (try clear c8b2); (try clear c9); (try clear c17); (try clear c19); (try clear c19b0); (try clear c20); (try clear c21); (try clear hcz18); (try clear hcz22); (try clear hfz18); (try clear hfz22); (try clear p2)
 obtain ⟨x17_2, x421005_2, x421006_2, u421005, u421006, rfl, HA, HK2, HO_421003, HO_421005, HO_421006, BK413, BK420, HB⟩ := hrel
 rcases gk with _ | k2
 · exact absurd HA.out (by simp [sawmillref17_Uniform.l0])
 have H := HA.out
 clear HA
 simp only [sawmillref17_Uniform.l0] at H
 by_cases c23 : x17_2 < a0
 · rw [if_pos c23] at H
   have c23b0 : decide (x17_2 < a0) = true := decide_eq_true c23
   clear c23
   obtain ⟨c24, H⟩ := gd1 H
   have LMc24 := Aside0.mk c24
   clear c24
   obtain ⟨y421, hy421⟩ : ∃ y_ : List Int, y_ = (x421005_2 ++ [a5]) := ⟨_, rfl⟩
   replace H : (if x421006_2.length < 17592186044416 then (sawmillref17_Uniform.l0 k2 a0 l3 l4 a5 a6 (wrap64 (x17_2 + 1)) a0 a1 a2 y417 y421 (x421006_2 ++ [a6])) else (none)) = some (r1, r2, r3, r4, r5, r6, r7, r8) := by first | (rw [hy421]; with_reducible exact H) | (have H2_ := (Option.bind_some _ _).symm.trans H; rw [hy421]; with_reducible exact H2_) | (have H2_ := (Option.bind_some _ _).symm.trans H; with_reducible exact H2_) | with_reducible exact H | (rw [hy421]; exact H) | exact H
   have Ny421 := Aside0.mk hy421
   clear hy421
   obtain ⟨c25, H⟩ := gd1 H
   have LMc25 := Aside0.mk c25
   clear c25
   obtain ⟨y424, hy424⟩ : ∃ y_ : List Int, y_ = (x421006_2 ++ [a6]) := ⟨_, rfl⟩
   replace H : (sawmillref17_Uniform.l0 k2 a0 l3 l4 a5 a6 (wrap64 (x17_2 + 1)) a0 a1 a2 y417 y421 y424) = some (r1, r2, r3, r4, r5, r6, r7, r8) := by first | (rw [hy424]; with_reducible exact H) | (have H2_ := (Option.bind_some _ _).symm.trans H; rw [hy424]; with_reducible exact H2_) | (have H2_ := (Option.bind_some _ _).symm.trans H; with_reducible exact H2_) | with_reducible exact H | (rw [hy424]; exact H) | exact H
   have Ny424 := Aside0.mk hy424
   clear hy424
   have H' := Aside0.mk H
   clear H
   have hnb26 := NB420_413.out
   have hnc26 := NB413_420.out
   have hcz27 := blk_cells BK420.out
   have hfz27 := blk_frozens BK420.out
   go_wp2_with (first | ((with_reducible refine gate_builtin (b := .append) (xs := #[.tmp 48, .tmp 50]) rfl ?_); at_builtin; refine Kd.R_append (Kd.int .i64) (w0 := w) w.heap.size rfl (.tmp 48) (.tmp 50) 22 3 (.int .i64 0) 8 rfl Tryd.underlying22 info3 rfl (by decide) (by omega) u421005 x421005_2 a5 [.int .i64 a5] (fun k_ => some k_ ≠ (.slice Ao15 y417.length co15 : Value).ownBlock ∧ some k_ ≠ (u421006 : Value).ownBlock) (fun _ => False) rfl rfl ?aP (fun _ hk => hk.elim) ?aF ?aO ?aB ?aS ?aL ?_; (case aP => exact rfl); (case aB => exact bl); (case aF => exact (fun k_ hk => ⟨Kd.fresh' (Kd.R_lt (ru HO_421003.out)) k_ hk, Kd.fresh' (Kd.R_lt (ru HO_421006.out)) k_ hk⟩)); (case aO => exact (ru HO_421005.out)); (case aS => exact (below_size bl)); (case aL => have := LMc24.out; omega); intro v422 w28 ho hb hg hat; rw [← Ny421.out] at ho; have n0_ := Aside0.mk (Kd.R_after (ok := (fun k_ => some k_ ≠ (u421006 : Value).ownBlock)) (by (with_reducible repeat (first | apply Kd.R_alloc | apply Kd.R_drewN | apply Kd.R_drew)); exact Kd.R_mono HO_421003.out (fun _ hk => ⟨hk.2, hk.1⟩)) hg hat); have n1_ := Aside0.mk (Kd.R_after (ok := (fun k_ => some k_ ≠ (.slice Ao15 y417.length co15 : Value).ownBlock)) (ru HO_421006.out) hg hat); have n2_ := Aside0.mk (blk_grown (g := gb413) (o := .cells #[.int .i64 0, .int .i64 0, .int .i64 0, .slice none 0 0, .slice none 0 0, .slice none 0 0, .slice none 0 0] 25 (0, 0)) (bu BK413.out) hg (Kd.R_ne HO_421005.out BK413.out (by decide))); have n3_ := Aside0.mk (blk_grown (g := gb420) (o := .cells #[.int .i64 a0, .int .i64 a1, .int .i64 a2, .slice Ao15 y417.length co15, .slice none 0 0, u421005, u421006] 25 (0, 0)) (bu BK420.out) hg (Kd.R_ne HO_421005.out BK420.out (by decide))); have n4_ := Aside0.mk (hb); have n5_ := Aside0.mk (ho); clear HO_421003; clear HO_421006; clear BK413; clear BK420; clear HB; clear HO_421005; have HO_421003 := n0_; have HO_421006 := n1_; have BK413 := n2_; have BK420 := n3_; have HB := n4_; have HO423 := n5_; clear n0_ n1_ n2_ n3_ n4_ n5_; clear ho hb hg hat; obtain ⟨Ao29, co29, eo29⟩ := Kd.R_slice HO423.out; subst eo29; have hcz30 := blk_cells BK420.out; have hfz30 := blk_frozens BK420.out) | ((with_reducible refine gate_builtin (b := .append) (xs := #[.tmp 54, .tmp 56]) rfl ?_); at_builtin; refine Kd.R_append (Kd.int .i64) (w0 := w) w.heap.size rfl (.tmp 54) (.tmp 56) 22 3 (.int .i64 0) 8 rfl Tryd.underlying22 info3 rfl (by decide) (by omega) u421006 x421006_2 a6 [.int .i64 a6] (fun k_ => some k_ ≠ (.slice Ao15 y417.length co15 : Value).ownBlock ∧ some k_ ≠ (.slice Ao29 y421.length co29 : Value).ownBlock) (fun _ => False) rfl (by first | (go_simp; done) | (go_simp; rfl)) ?aP (fun _ hk => hk.elim) ?aF ?aO ?aB ?aS ?aL ?_; (case aP => exact rfl); (case aB => exact bl); (case aF => exact (fun k_ hk => ⟨Kd.fresh' (Kd.R_lt (ru (Kd.R_mono (Kd.R_far (p := ⟨gb420, 5, none⟩) (Kd.R_types HO_421003.out BK420.out (by decide)) (fun _ hk => hk.2) (.slice Ao29 y421.length co29)) (fun _ h_ => h_.1)))) k_ hk, Kd.fresh' (Kd.R_lt (ru (Kd.R_mono (Kd.R_far (p := ⟨gb420, 5, none⟩) (Kd.R_types HO423.out BK420.out (by decide)) (fun _ hk => hk.2) (.slice Ao29 y421.length co29)) (fun _ h_ => h_.1)))) k_ hk⟩)); (case aO => exact (by (with_reducible repeat (first | apply Kd.R_alloc | apply Kd.R_drewN | apply Kd.R_drew)); exact Kd.R_mono (Kd.R_far (p := ⟨gb420, 5, none⟩) (Kd.R_types HO_421006.out BK420.out (by decide)) (fun _ hk => hk.2) (.slice Ao29 y421.length co29)) (fun _ hk => ⟨hk.1.1, hk.1.2⟩))); (case aS => exact (below_size bl)); (case aL => have := LMc25.out; omega); intro v425 w31 ho hb hg hat; rw [← Ny424.out] at ho; have n0_ := Aside0.mk (Kd.R_after (ok := (fun k_ => some k_ ≠ (.slice Ao29 y421.length co29 : Value).ownBlock)) (by (with_reducible repeat (first | apply Kd.R_alloc | apply Kd.R_drewN | apply Kd.R_drew)); exact Kd.R_mono (Kd.R_far (p := ⟨gb420, 5, none⟩) (Kd.R_types HO_421003.out BK420.out (by decide)) (fun _ hk => hk.2) (.slice Ao29 y421.length co29)) (fun _ hk => ⟨hk.1.2, hk.1.1⟩)) hg hat); have n1_ := Aside0.mk (blk_grown (g := gb413) (o := .cells #[.int .i64 0, .int .i64 0, .int .i64 0, .slice none 0 0, .slice none 0 0, .slice none 0 0, .slice none 0 0] 25 (0, 0)) (by (with_reducible repeat (first | refine blk_drewN ?_ _ | refine blk_drew ?_ | refine blk_alloc ?_ _)); refine blk_far ?_ NB413_420.out _; (with_reducible repeat (first | refine blk_drewN ?_ _ | refine blk_drew ?_ | refine blk_alloc ?_ _)); exact BK413.out) hg (Kd.R_ne HO_421006.out BK413.out (by decide))); have n2_ := Aside0.mk (blk_grown (g := gb420) (o := .cells #[.int .i64 a0, .int .i64 a1, .int .i64 a2, .slice Ao15 y417.length co15, .slice none 0 0, .slice Ao29 y421.length co29, u421006] 25 (0, 0)) (by (with_reducible repeat (first | refine blk_drewN ?_ _ | refine blk_drew ?_ | refine blk_alloc ?_ _)); refine blk_put (cs := #[.int .i64 a0, .int .i64 a1, .int .i64 a2, .slice Ao15 y417.length co15, .slice none 0 0, u421005, u421006]) ?_ 5 _ rfl; (with_reducible repeat (first | refine blk_drewN ?_ _ | refine blk_drew ?_ | refine blk_alloc ?_ _)); exact BK420.out) hg (Kd.R_ne HO_421006.out BK420.out (by decide))); have n3_ := Aside0.mk (Kd.R_after (ok := (fun k_ => some k_ ≠ (.slice Ao15 y417.length co15 : Value).ownBlock)) (by (with_reducible repeat (first | apply Kd.R_alloc | apply Kd.R_drewN | apply Kd.R_drew)); exact Kd.R_mono (Kd.R_far (p := ⟨gb420, 5, none⟩) (Kd.R_types HO423.out BK420.out (by decide)) (fun _ hk => hk.2) (.slice Ao29 y421.length co29)) (fun _ hk => ⟨hk.1.1, hk.1.2⟩)) hg hat); have n4_ := Aside0.mk (hb); have n5_ := Aside0.mk (ho); clear HO_421003; clear BK413; clear BK420; clear HO423; clear HB; clear HO_421006; have HO_421003 := n0_; have BK413 := n1_; have BK420 := n2_; have HO423 := n3_; have HB := n4_; have HO426 := n5_; clear n0_ n1_ n2_ n3_ n4_ n5_; clear ho hb hg hat; obtain ⟨Ao32, co32, eo32⟩ := Kd.R_slice HO426.out; subst eo32; have hcz33 := blk_cells BK420.out; have hfz33 := blk_frozens BK420.out))
   go_roundg k2
   case measure => have := HJ9.out; have := HK2.out; omega
   case rel => exact ⟨(wrap64 (x17_2 + 1)), (y421), (y424), (.slice Ao29 y421.length co29), (.slice Ao32 y424.length co32), rs1, H', ⟨by have := HJ9.out; have := HK2.out; omega⟩, ⟨by (with_reducible repeat (first | apply Kd.R_alloc | apply Kd.R_drewN | apply Kd.R_drew)); exact Kd.R_mono (Kd.R_far (p := ⟨gb420, 6, none⟩) (Kd.R_types HO_421003.out BK420.out (by decide)) (fun _ hk => hk.2) (.slice Ao32 y424.length co32)) (fun _ hk => ⟨hk.1.1, hk.1.2⟩)⟩, ⟨by (with_reducible repeat (first | apply Kd.R_alloc | apply Kd.R_drewN | apply Kd.R_drew)); exact Kd.R_mono (Kd.R_far (p := ⟨gb420, 6, none⟩) (Kd.R_types HO423.out BK420.out (by decide)) (fun _ hk => hk.2) (.slice Ao32 y424.length co32)) (fun _ hk => ⟨hk.1.1, hk.1.2⟩)⟩, ⟨by (with_reducible repeat (first | apply Kd.R_alloc | apply Kd.R_drewN | apply Kd.R_drew)); exact Kd.R_mono (Kd.R_far (p := ⟨gb420, 6, none⟩) (Kd.R_types HO426.out BK420.out (by decide)) (fun _ hk => hk.2) (.slice Ao32 y424.length co32)) (fun _ hk => ⟨hk.1.1, hk.1.2⟩)⟩, ⟨by (with_reducible repeat (first | refine blk_drewN ?_ _ | refine blk_drew ?_ | refine blk_alloc ?_ _)); refine blk_far ?_ NB413_420.out _; (with_reducible repeat (first | refine blk_drewN ?_ _ | refine blk_drew ?_ | refine blk_alloc ?_ _)); exact BK413.out⟩, ⟨by (with_reducible repeat (first | refine blk_drewN ?_ _ | refine blk_drew ?_ | refine blk_alloc ?_ _)); refine blk_put (cs := #[.int .i64 a0, .int .i64 a1, .int .i64 a2, .slice Ao15 y417.length co15, .slice none 0 0, .slice Ao29 y421.length co29, u421006]) ?_ 6 _ rfl; (with_reducible repeat (first | refine blk_drewN ?_ _ | refine blk_drew ?_ | refine blk_alloc ?_ _)); exact BK420.out⟩, ⟨bl⟩⟩
 rw [if_neg c23] at H
 have c23b0 : decide (x17_2 < a0) = false := decide_eq_false c23
 clear c23
 by_cases c34 : (l3.length : Int) > 32
 · rw [if_pos c34] at H
   have c34b0 : decide (32 < (l3.length : Int)) = true := decide_eq_true c34
   have c34b1 : decide (32 < l3.length) = true := decide_eq_true (by omega)
   clear c34
   replace H := Option.bind_eq_some_iff.mp H
   obtain ⟨t427, A350, H⟩ := H
   replace H : (some (0, 0, 0, ([] : List Int), ([] : List (List Int)), ([] : List Int), ([] : List Int), t427)) = some (r1, r2, r3, r4, r5, r6, r7, r8) := H
   have A35 := Aside0.mk A350
   clear A350
   simp only [Option.some.injEq, Prod.mk.injEq] at H
   obtain ⟨rfl, rfl, rfl, rfl, rfl, rfl, rfl, rfl⟩ := H
   have hnb36 := NB420_413.out
   have hnc36 := NB413_420.out
   have hcz37 := blk_cells BK420.out
   have hfz37 := blk_frozens BK420.out
   obtain ⟨Ao38, co38, eo38⟩ := Kd.R_slice HO_421005.out
   subst eo38
   obtain ⟨Ao39, co39, eo39⟩ := Kd.R_slice HO_421006.out
   subst eo39
   go_wp2_with (first | ((with_reducible refine gate_callee (f := 60) rfl ?_); refine goesL_ (some 64) rfl rfl Tryd.func60 (by kernel_rfl) rfl #[.agg #[.int .i64 a0, .int .i64 a1, .int .i64 a2, .slice Ao15 y417.length co15, .slice none 0 0, .slice Ao38 x421005_2.length co38, .slice Ao39 x421006_2.length co39]] rfl mp1 ?_; (refine (sawmillref17_headless.calls a0 a1 a2 _ _ y417 _ _ ([] : List (List Int)) _ _ x421005_2 _ _ x421006_2 t427 _ ?side1 ?side2 ?side3 ?side4 ?side5 ?side6 ?side7 ?side8 A35.out).mono ?_); (case side1 => repeat (first | exact (Kd.R_reads' HO_421003.out).2.2 | (with_reducible refine Kd.C_alloc ?_ _) | (with_reducible refine Kd.C_drewN ?_ _) | (with_reducible refine Kd.C_drew ?_))); (case side2 => exact (Kd.R_reads' HO_421003.out).2.1); (case side3 => exact Kd.C_nil _ _); (case side4 => exact Nat.le_refl _); (case side5 => repeat (first | exact (Kd.R_reads' HO_421005.out).2.2 | (with_reducible refine Kd.C_alloc ?_ _) | (with_reducible refine Kd.C_drewN ?_ _) | (with_reducible refine Kd.C_drew ?_))); (case side6 => exact (Kd.R_reads' HO_421005.out).2.1); (case side7 => repeat (first | exact (Kd.R_reads' HO_421006.out).2.2 | (with_reducible refine Kd.C_alloc ?_ _) | (with_reducible refine Kd.C_drewN ?_ _) | (with_reducible refine Kd.C_drew ?_))); (case side8 => exact (Kd.R_reads' HO_421006.out).2.1); rintro e w40 ⟨rfl, hb⟩; refine ⟨_, rfl, ?_⟩; have n0_ := Aside0.mk (Kd.R_below (ru HO_421003.out) hb); have n1_ := Aside0.mk (Kd.R_below (ru HO_421005.out) hb); have n2_ := Aside0.mk (Kd.R_below (ru HO_421006.out) hb); have n3_ := Aside0.mk (blk_below (bu BK413.out) hb); have n4_ := Aside0.mk (blk_below (bu BK420.out) hb); have n5_ := Aside0.mk (below_step bl hb); clear HO_421003; clear HO_421005; clear HO_421006; clear BK413; clear BK420; clear HB; have HO_421003 := n0_; have HO_421005 := n1_; have HO_421006 := n2_; have BK413 := n3_; have BK420 := n4_; have HB := n5_; clear n0_ n1_ n2_ n3_ n4_ n5_; (try clear hb); (try clear hb2); (try clear hk); (try clear hi); have hcz41 := blk_cells BK413.out; have hfz41 := blk_frozens BK413.out))
   refine bodyPost_ret (results_ct rfl _ _ gb413 25 #[.int .i64 0, .int .i64 0, .int .i64 0, .slice none 0 0, .slice none 0 0, .slice none 0 0, .slice none 0 0] (0, 0) _ rfl (by (with_reducible repeat (first | refine blk_drewN ?_ _ | refine blk_drew ?_ | refine blk_alloc ?_ _)); refine blk_put (cs := #[.int .i64 0, .int .i64 0, .int .i64 0, .slice none 0 0, .slice none 0 0, .slice none 0 0, .slice none 0 0]) ?_ 6 _ rfl; (with_reducible repeat (first | refine blk_drewN ?_ _ | refine blk_drew ?_ | refine blk_alloc ?_ _)); refine blk_put (cs := #[.int .i64 0, .int .i64 0, .int .i64 0, .slice none 0 0, .slice none 0 0, .slice none 0 0, .slice none 0 0]) ?_ 5 _ rfl; (with_reducible repeat (first | refine blk_drewN ?_ _ | refine blk_drew ?_ | refine blk_alloc ?_ _)); refine blk_put (cs := #[.int .i64 0, .int .i64 0, .int .i64 0, .slice none 0 0, .slice none 0 0, .slice none 0 0, .slice none 0 0]) ?_ 4 _ rfl; (with_reducible repeat (first | refine blk_drewN ?_ _ | refine blk_drew ?_ | refine blk_alloc ?_ _)); refine blk_put (cs := #[.int .i64 0, .int .i64 0, .int .i64 0, .slice none 0 0, .slice none 0 0, .slice none 0 0, .slice none 0 0]) ?_ 3 _ rfl; (with_reducible repeat (first | refine blk_drewN ?_ _ | refine blk_drew ?_ | refine blk_alloc ?_ _)); refine blk_put (cs := #[.int .i64 0, .int .i64 0, .int .i64 0, .slice none 0 0, .slice none 0 0, .slice none 0 0, .slice none 0 0]) ?_ 2 _ rfl; (with_reducible repeat (first | refine blk_drewN ?_ _ | refine blk_drew ?_ | refine blk_alloc ?_ _)); refine blk_put (cs := #[.int .i64 0, .int .i64 0, .int .i64 0, .slice none 0 0, .slice none 0 0, .slice none 0 0, .slice none 0 0]) ?_ 1 _ rfl; (with_reducible repeat (first | refine blk_drewN ?_ _ | refine blk_drew ?_ | refine blk_alloc ?_ _)); refine blk_put (cs := #[.int .i64 0, .int .i64 0, .int .i64 0, .slice none 0 0, .slice none 0 0, .slice none 0 0, .slice none 0 0]) ?_ 0 _ rfl; (with_reducible repeat (first | refine blk_drewN ?_ _ | refine blk_drew ?_ | refine blk_alloc ?_ _)); exact BK413.out) Tryd.underlying25 rfl (by kernel_rfl)) rfl ?_
   exact ⟨_, _, _, _, fe1, by first | exact Kd.R_nil _ _ _ _ _ | exact Kd.N_nil _ _ _ _ _ | exact Kd.V_nil _ _ _ _ _ | exact Kd.Q_nil _ _ _ _ _ | exact Kd.S_nil _ _ _ _ _, by first | exact Kd.S_nil _ _ _ _ _ | exact Kd.N_nil _ _ _ _ _ | exact Kd.V_nil _ _ _ _ _ | exact Kd.Q_nil _ _ _ _ _ | exact Kd.R_nil _ _ _ _ _, by first | exact Kd.R_nil _ _ _ _ _ | exact Kd.N_nil _ _ _ _ _ | exact Kd.V_nil _ _ _ _ _ | exact Kd.Q_nil _ _ _ _ _ | exact Kd.S_nil _ _ _ _ _, by first | exact Kd.R_nil _ _ _ _ _ | exact Kd.N_nil _ _ _ _ _ | exact Kd.V_nil _ _ _ _ _ | exact Kd.Q_nil _ _ _ _ _ | exact Kd.S_nil _ _ _ _ _, bl⟩
 rw [if_neg c34] at H
 have c34b0 : decide (32 < (l3.length : Int)) = false := decide_eq_false c34
 have c34b1 : decide (32 < l3.length) = false := decide_eq_false (by omega)
 clear c34
 have H' := Aside0.mk H
 clear H
 go_wp2
 go_loopg [18] k2 (fun kq v18 w' => ∃ (x18_3 : Int) (x421004_3 : List (List Int)) (u421004 : Value), v18 = .int .i64 x18_3 ∧ Aside0 (sawmillref17_Uniform.l1 kq a0 l3 l4 x18_3 a0 a1 a2 y417 x421004_3 x421005_2 x421006_2 = some (r1, r2, r3, r4, r5, r6, r7, r8)) ∧ Aside0 (kq ≤ k2) ∧ Aside0 (Kd.R (Kd.int .i64) 3 w' w.heap.size (fun k_ => some k_ ≠ (u421005 : Value).ownBlock ∧ some k_ ≠ (u421006 : Value).ownBlock) (.slice Ao15 y417.length co15) y417) ∧ Aside0 (Kd.S (Kd.slice 3 (Kd.int .i64)) 22 w' w.heap.size (fun k_ => some k_ ≠ ((.slice Ao15 y417.length co15) : Value).ownBlock ∧ some k_ ≠ (u421005 : Value).ownBlock ∧ some k_ ≠ (u421006 : Value).ownBlock) u421004 x421004_3) ∧ Aside0 (Kd.R (Kd.int .i64) 3 w' w.heap.size (fun k_ => some k_ ≠ ((.slice Ao15 y417.length co15) : Value).ownBlock ∧ some k_ ≠ (u421006 : Value).ownBlock) u421005 x421005_2) ∧ Aside0 (Kd.R (Kd.int .i64) 3 w' w.heap.size (fun k_ => some k_ ≠ ((.slice Ao15 y417.length co15) : Value).ownBlock ∧ some k_ ≠ (u421005 : Value).ownBlock) u421006 x421006_2) ∧ Aside0 (w'.heap[gb413]? = some (.cells #[.int .i64 0, .int .i64 0, .int .i64 0, (.slice none 0 0), (.slice none 0 0), (.slice none 0 0), (.slice none 0 0)] 25 (0, 0))) ∧ Aside0 (w'.heap[gb420]? = some (.cells #[.int .i64 a0, .int .i64 a1, .int .i64 a2, (.slice Ao15 y417.length co15), u421004, u421005, u421006] 25 (0, 0))) ∧ Aside0 (Below w.heap.size w w'))
 case atStart => exact ⟨(0), (([] : List (List Int))), (.slice none 0 0), rs1, H', ⟨Nat.le_refl _⟩, ⟨by (with_reducible repeat (first | apply Kd.R_alloc | apply Kd.R_drewN | apply Kd.R_drew)); exact HO_421003.out⟩, ⟨by first | exact Kd.S_nil _ _ _ _ _ | exact Kd.N_nil _ _ _ _ _ | exact Kd.V_nil _ _ _ _ _ | exact Kd.Q_nil _ _ _ _ _ | exact Kd.R_nil _ _ _ _ _⟩, ⟨by (with_reducible repeat (first | apply Kd.R_alloc | apply Kd.R_drewN | apply Kd.R_drew)); exact HO_421005.out⟩, ⟨by (with_reducible repeat (first | apply Kd.R_alloc | apply Kd.R_drewN | apply Kd.R_drew)); exact HO_421006.out⟩, ⟨bu BK413.out⟩, ⟨bu BK420.out⟩, ⟨bl⟩⟩
 clear H'; (try clear c1); (try clear c2); (try clear p2); (try clear c3); (try clear c4); (try clear c6); (try clear p6); (try clear c8); (try clear c8b0); (try clear c8b1); (try clear c8b2); (try clear c9); (try clear c17); (try clear c19); (try clear c19b0); (try clear c20); (try clear c21); (try clear c23); (try clear c23b0); (try clear c24); (try clear c25); (try clear c26); (try clear c31); (try clear c34); (try clear c34b0); (try clear c34b1); (try clear c36); (try clear hcz18); (try clear hcz22); (try clear hcz27); (try clear hcz30); (try clear hcz33); (try clear hcz37); (try clear hcz41); (try clear hfz18); (try clear hfz22); (try clear hfz27); (try clear hfz30); (try clear hfz33); (try clear hfz37); (try clear hfz41); (try clear p2)
 obtain ⟨x18_3, x421004_3, u421004, rfl, HA, HK3, HO_421003, HO_421004, HO_421005, HO_421006, BK413, BK420, HB⟩ := hrel
 rcases gk with _ | k3
 · exact absurd HA.out (by simp [sawmillref17_Uniform.l1])
 have H := HA.out
 clear HA
 simp only [sawmillref17_Uniform.l1] at H
 by_cases c42 : x18_3 < (l3.length : Int)
 rotate_left
 · rw [if_neg c42] at H
   have c42b0 : decide (x18_3 < (l3.length : Int)) = false := decide_eq_false c42
   clear c42
   replace H := Option.bind_eq_some_iff.mp H
   obtain ⟨t428, A580, H⟩ := H
   replace H : (if t428 = 0 then (some (a0, a1, a2, y417, x421004_3, x421005_2, x421006_2, 0)) else (some (0, 0, 0, ([] : List Int), ([] : List (List Int)), ([] : List Int), ([] : List Int), t428))) = some (r1, r2, r3, r4, r5, r6, r7, r8) := H
   have A58 := Aside0.mk A580
   clear A580
   by_cases c59 : t428 = 0
   rotate_left
   · rw [if_neg c59] at H
     have c59b0 : (t428 == 0) = false := beq_eq_false_iff_ne.mpr c59
     have c59b1 : (t428 != 0) = true := bne_iff_ne.mpr c59
     simp only [Option.some.injEq, Prod.mk.injEq] at H
     obtain ⟨rfl, rfl, rfl, rfl, rfl, rfl, rfl, rfl⟩ := H
     have hnb68 := NB420_413.out
     have hnc68 := NB413_420.out
     have hcz69 := blk_cells BK420.out
     have hfz69 := blk_frozens BK420.out
     obtain ⟨Ao70, co70, eo70⟩ := Kd.S_slice HO_421004.out
     subst eo70
     obtain ⟨Ao71, co71, eo71⟩ := Kd.R_slice HO_421005.out
     subst eo71
     obtain ⟨Ao72, co72, eo72⟩ := Kd.R_slice HO_421006.out
     subst eo72
     go_wp2_with (first | ((with_reducible refine gate_callee (f := 20) rfl ?_); refine goesL_ (some 98) rfl rfl Tryd.func20 (by kernel_rfl) rfl #[.agg #[.int .i64 a0, .int .i64 a1, .int .i64 a2, .slice Ao15 y417.length co15, .slice Ao70 x421004_3.length co70, .slice Ao71 x421005_2.length co71, .slice Ao72 x421006_2.length co72]] rfl mp1 ?_; (with_reducible refine (sawmillref17_Check.calls k3 a0 a1 a2 _ _ y417 _ _ x421004_3 _ _ x421005_2 _ _ x421006_2 t428 _ ?side1 ?side2 ?side3 ?side4 ?side5 ?side6 ?side7 ?side8 A58.out).mono ?_); (case side1 => repeat (first | exact (Kd.R_reads' HO_421003.out).2.2 | (with_reducible refine Kd.C_alloc ?_ _) | (with_reducible refine Kd.C_drewN ?_ _) | (with_reducible refine Kd.C_drew ?_))); (case side2 => exact (Kd.R_reads' HO_421003.out).2.1); (case side3 => repeat (first | exact (Kd.S_reads' HO_421004.out).2.2 | (with_reducible refine Kd.C_alloc ?_ _) | (with_reducible refine Kd.C_drewN ?_ _) | (with_reducible refine Kd.C_drew ?_))); (case side4 => exact (Kd.S_reads' HO_421004.out).2.1); (case side5 => repeat (first | exact (Kd.R_reads' HO_421005.out).2.2 | (with_reducible refine Kd.C_alloc ?_ _) | (with_reducible refine Kd.C_drewN ?_ _) | (with_reducible refine Kd.C_drew ?_))); (case side6 => exact (Kd.R_reads' HO_421005.out).2.1); (case side7 => repeat (first | exact (Kd.R_reads' HO_421006.out).2.2 | (with_reducible refine Kd.C_alloc ?_ _) | (with_reducible refine Kd.C_drewN ?_ _) | (with_reducible refine Kd.C_drew ?_))); (case side8 => exact (Kd.R_reads' HO_421006.out).2.1); rintro e w73 ⟨rfl, hb⟩; refine ⟨_, rfl, ?_⟩; have n0_ := Aside0.mk (Kd.R_below (ru HO_421003.out) hb); have n1_ := Aside0.mk (Kd.S_below (su HO_421004.out) hb); have n2_ := Aside0.mk (Kd.R_below (ru HO_421005.out) hb); have n3_ := Aside0.mk (Kd.R_below (ru HO_421006.out) hb); have n4_ := Aside0.mk (blk_below (bu BK413.out) hb); have n5_ := Aside0.mk (blk_below (bu BK420.out) hb); have n6_ := Aside0.mk (below_step bl hb); clear HO_421003; clear HO_421004; clear HO_421005; clear HO_421006; clear BK413; clear BK420; clear HB; have HO_421003 := n0_; have HO_421004 := n1_; have HO_421005 := n2_; have HO_421006 := n3_; have BK413 := n4_; have BK420 := n5_; have HB := n6_; clear n0_ n1_ n2_ n3_ n4_ n5_ n6_; (try clear hb); (try clear hb2); (try clear hk); (try clear hi); have hcz74 := blk_cells BK413.out; have hfz74 := blk_frozens BK413.out))
     refine bodyPost_ret (results_ct rfl _ _ gb413 25 #[.int .i64 0, .int .i64 0, .int .i64 0, .slice none 0 0, .slice none 0 0, .slice none 0 0, .slice none 0 0] (0, 0) _ rfl (by (with_reducible repeat (first | refine blk_drewN ?_ _ | refine blk_drew ?_ | refine blk_alloc ?_ _)); refine blk_put (cs := #[.int .i64 0, .int .i64 0, .int .i64 0, .slice none 0 0, .slice none 0 0, .slice none 0 0, .slice none 0 0]) ?_ 6 _ rfl; (with_reducible repeat (first | refine blk_drewN ?_ _ | refine blk_drew ?_ | refine blk_alloc ?_ _)); refine blk_put (cs := #[.int .i64 0, .int .i64 0, .int .i64 0, .slice none 0 0, .slice none 0 0, .slice none 0 0, .slice none 0 0]) ?_ 5 _ rfl; (with_reducible repeat (first | refine blk_drewN ?_ _ | refine blk_drew ?_ | refine blk_alloc ?_ _)); refine blk_put (cs := #[.int .i64 0, .int .i64 0, .int .i64 0, .slice none 0 0, .slice none 0 0, .slice none 0 0, .slice none 0 0]) ?_ 4 _ rfl; (with_reducible repeat (first | refine blk_drewN ?_ _ | refine blk_drew ?_ | refine blk_alloc ?_ _)); refine blk_put (cs := #[.int .i64 0, .int .i64 0, .int .i64 0, .slice none 0 0, .slice none 0 0, .slice none 0 0, .slice none 0 0]) ?_ 3 _ rfl; (with_reducible repeat (first | refine blk_drewN ?_ _ | refine blk_drew ?_ | refine blk_alloc ?_ _)); refine blk_put (cs := #[.int .i64 0, .int .i64 0, .int .i64 0, .slice none 0 0, .slice none 0 0, .slice none 0 0, .slice none 0 0]) ?_ 2 _ rfl; (with_reducible repeat (first | refine blk_drewN ?_ _ | refine blk_drew ?_ | refine blk_alloc ?_ _)); refine blk_put (cs := #[.int .i64 0, .int .i64 0, .int .i64 0, .slice none 0 0, .slice none 0 0, .slice none 0 0, .slice none 0 0]) ?_ 1 _ rfl; (with_reducible repeat (first | refine blk_drewN ?_ _ | refine blk_drew ?_ | refine blk_alloc ?_ _)); refine blk_put (cs := #[.int .i64 0, .int .i64 0, .int .i64 0, .slice none 0 0, .slice none 0 0, .slice none 0 0, .slice none 0 0]) ?_ 0 _ rfl; (with_reducible repeat (first | refine blk_drewN ?_ _ | refine blk_drew ?_ | refine blk_alloc ?_ _)); exact BK413.out) Tryd.underlying25 rfl (by kernel_rfl)) rfl ?_
     exact ⟨_, _, _, _, fe1, by first | exact Kd.R_nil _ _ _ _ _ | exact Kd.N_nil _ _ _ _ _ | exact Kd.V_nil _ _ _ _ _ | exact Kd.Q_nil _ _ _ _ _ | exact Kd.S_nil _ _ _ _ _, by first | exact Kd.S_nil _ _ _ _ _ | exact Kd.N_nil _ _ _ _ _ | exact Kd.V_nil _ _ _ _ _ | exact Kd.Q_nil _ _ _ _ _ | exact Kd.R_nil _ _ _ _ _, by first | exact Kd.R_nil _ _ _ _ _ | exact Kd.N_nil _ _ _ _ _ | exact Kd.V_nil _ _ _ _ _ | exact Kd.Q_nil _ _ _ _ _ | exact Kd.S_nil _ _ _ _ _, by first | exact Kd.R_nil _ _ _ _ _ | exact Kd.N_nil _ _ _ _ _ | exact Kd.V_nil _ _ _ _ _ | exact Kd.Q_nil _ _ _ _ _ | exact Kd.S_nil _ _ _ _ _, bl⟩
   rw [if_pos c59] at H
   have c59b0 : (t428 == 0) = true := beq_iff_eq.mpr c59
   have c59b1 : (t428 != 0) = false := bne_eq_false_iff_eq.mpr c59
   clear c59
   simp only [Option.some.injEq, Prod.mk.injEq] at H
   obtain ⟨rfl, rfl, rfl, rfl, rfl, rfl, rfl, rfl⟩ := H
   have hnb60 := NB420_413.out
   have hnc60 := NB413_420.out
   have hcz61 := blk_cells BK420.out
   have hfz61 := blk_frozens BK420.out
   obtain ⟨Ao62, co62, eo62⟩ := Kd.S_slice HO_421004.out
   subst eo62
   obtain ⟨Ao63, co63, eo63⟩ := Kd.R_slice HO_421005.out
   subst eo63
   obtain ⟨Ao64, co64, eo64⟩ := Kd.R_slice HO_421006.out
   subst eo64
   go_wp2_with (first | ((with_reducible refine gate_callee (f := 20) rfl ?_); refine goesL_ (some 98) rfl rfl Tryd.func20 (by kernel_rfl) rfl #[.agg #[.int .i64 a0, .int .i64 a1, .int .i64 a2, .slice Ao15 y417.length co15, .slice Ao62 x421004_3.length co62, .slice Ao63 x421005_2.length co63, .slice Ao64 x421006_2.length co64]] rfl mp1 ?_; (with_reducible refine (sawmillref17_Check.calls k3 a0 a1 a2 _ _ y417 _ _ x421004_3 _ _ x421005_2 _ _ x421006_2 t428 _ ?side1 ?side2 ?side3 ?side4 ?side5 ?side6 ?side7 ?side8 A58.out).mono ?_); (case side1 => repeat (first | exact (Kd.R_reads' HO_421003.out).2.2 | (with_reducible refine Kd.C_alloc ?_ _) | (with_reducible refine Kd.C_drewN ?_ _) | (with_reducible refine Kd.C_drew ?_))); (case side2 => exact (Kd.R_reads' HO_421003.out).2.1); (case side3 => repeat (first | exact (Kd.S_reads' HO_421004.out).2.2 | (with_reducible refine Kd.C_alloc ?_ _) | (with_reducible refine Kd.C_drewN ?_ _) | (with_reducible refine Kd.C_drew ?_))); (case side4 => exact (Kd.S_reads' HO_421004.out).2.1); (case side5 => repeat (first | exact (Kd.R_reads' HO_421005.out).2.2 | (with_reducible refine Kd.C_alloc ?_ _) | (with_reducible refine Kd.C_drewN ?_ _) | (with_reducible refine Kd.C_drew ?_))); (case side6 => exact (Kd.R_reads' HO_421005.out).2.1); (case side7 => repeat (first | exact (Kd.R_reads' HO_421006.out).2.2 | (with_reducible refine Kd.C_alloc ?_ _) | (with_reducible refine Kd.C_drewN ?_ _) | (with_reducible refine Kd.C_drew ?_))); (case side8 => exact (Kd.R_reads' HO_421006.out).2.1); rintro e w65 ⟨rfl, hb⟩; refine ⟨_, rfl, ?_⟩; have n0_ := Aside0.mk (Kd.R_below (ru HO_421003.out) hb); have n1_ := Aside0.mk (Kd.S_below (su HO_421004.out) hb); have n2_ := Aside0.mk (Kd.R_below (ru HO_421005.out) hb); have n3_ := Aside0.mk (Kd.R_below (ru HO_421006.out) hb); have n4_ := Aside0.mk (blk_below (bu BK413.out) hb); have n5_ := Aside0.mk (blk_below (bu BK420.out) hb); have n6_ := Aside0.mk (below_step bl hb); clear HO_421003; clear HO_421004; clear HO_421005; clear HO_421006; clear BK413; clear BK420; clear HB; have HO_421003 := n0_; have HO_421004 := n1_; have HO_421005 := n2_; have HO_421006 := n3_; have BK413 := n4_; have BK420 := n5_; have HB := n6_; clear n0_ n1_ n2_ n3_ n4_ n5_ n6_; (try clear hb); (try clear hb2); (try clear hk); (try clear hi); have hcz66 := blk_cells BK420.out; have hfz66 := blk_frozens BK420.out; have hcz67 := blk_cells BK413.out; have hfz67 := blk_frozens BK413.out))
   refine bodyPost_ret (results_ct rfl _ _ gb413 25 #[.int .i64 a0, .int .i64 a1, .int .i64 a2, .slice Ao15 y417.length co15, .slice Ao62 x421004_3.length co62, .slice Ao63 x421005_2.length co63, .slice Ao64 x421006_2.length co64] (0, 0) _ rfl (by (with_reducible repeat (first | refine blk_drewN ?_ _ | refine blk_drew ?_ | refine blk_alloc ?_ _)); refine blk_put (cs := #[.int .i64 a0, .int .i64 a1, .int .i64 a2, .slice Ao15 y417.length co15, .slice Ao62 x421004_3.length co62, .slice Ao63 x421005_2.length co63, .slice none 0 0]) ?_ 6 _ rfl; (with_reducible repeat (first | refine blk_drewN ?_ _ | refine blk_drew ?_ | refine blk_alloc ?_ _)); refine blk_put (cs := #[.int .i64 a0, .int .i64 a1, .int .i64 a2, .slice Ao15 y417.length co15, .slice Ao62 x421004_3.length co62, .slice none 0 0, .slice none 0 0]) ?_ 5 _ rfl; (with_reducible repeat (first | refine blk_drewN ?_ _ | refine blk_drew ?_ | refine blk_alloc ?_ _)); refine blk_put (cs := #[.int .i64 a0, .int .i64 a1, .int .i64 a2, .slice Ao15 y417.length co15, .slice none 0 0, .slice none 0 0, .slice none 0 0]) ?_ 4 _ rfl; (with_reducible repeat (first | refine blk_drewN ?_ _ | refine blk_drew ?_ | refine blk_alloc ?_ _)); refine blk_put (cs := #[.int .i64 a0, .int .i64 a1, .int .i64 a2, .slice none 0 0, .slice none 0 0, .slice none 0 0, .slice none 0 0]) ?_ 3 _ rfl; (with_reducible repeat (first | refine blk_drewN ?_ _ | refine blk_drew ?_ | refine blk_alloc ?_ _)); refine blk_put (cs := #[.int .i64 a0, .int .i64 a1, .int .i64 0, .slice none 0 0, .slice none 0 0, .slice none 0 0, .slice none 0 0]) ?_ 2 _ rfl; (with_reducible repeat (first | refine blk_drewN ?_ _ | refine blk_drew ?_ | refine blk_alloc ?_ _)); refine blk_put (cs := #[.int .i64 a0, .int .i64 0, .int .i64 0, .slice none 0 0, .slice none 0 0, .slice none 0 0, .slice none 0 0]) ?_ 1 _ rfl; (with_reducible repeat (first | refine blk_drewN ?_ _ | refine blk_drew ?_ | refine blk_alloc ?_ _)); refine blk_put (cs := #[.int .i64 0, .int .i64 0, .int .i64 0, .slice none 0 0, .slice none 0 0, .slice none 0 0, .slice none 0 0]) ?_ 0 _ rfl; (with_reducible repeat (first | refine blk_drewN ?_ _ | refine blk_drew ?_ | refine blk_alloc ?_ _)); exact BK413.out) Tryd.underlying25 rfl (by kernel_rfl)) rfl ?_
   exact ⟨_, _, _, _, fe1, by (with_reducible repeat (first | apply Kd.R_alloc | apply Kd.R_drewN | apply Kd.R_drew)); exact Kd.R_mono (Kd.R_far (p := ⟨gb413, 6, none⟩) (Kd.R_far (p := ⟨gb413, 5, none⟩) (Kd.R_far (p := ⟨gb413, 4, none⟩) (Kd.R_far (p := ⟨gb413, 3, none⟩) (Kd.R_far (p := ⟨gb413, 2, none⟩) (Kd.R_far (p := ⟨gb413, 1, none⟩) (Kd.R_far (p := ⟨gb413, 0, none⟩) (Kd.R_types HO_421003.out BK413.out (by decide)) (fun _ hk => hk.2) (.int .i64 a0)) (fun _ hk => hk.2) (.int .i64 a1)) (fun _ hk => hk.2) (.int .i64 a2)) (fun _ hk => hk.2) (.slice Ao15 y417.length co15)) (fun _ hk => hk.2) (.slice Ao62 x421004_3.length co62)) (fun _ hk => hk.2) (.slice Ao63 x421005_2.length co63)) (fun _ hk => hk.2) (.slice Ao64 x421006_2.length co64)) (fun _ hk => ⟨hk.1.1, hk.1.2⟩), by (with_reducible repeat (first | apply Kd.S_alloc | apply Kd.S_drewN | apply Kd.S_drew)); exact Kd.S_mono (Kd.S_far (p := ⟨gb413, 6, none⟩) (Kd.S_far (p := ⟨gb413, 5, none⟩) (Kd.S_far (p := ⟨gb413, 4, none⟩) (Kd.S_far (p := ⟨gb413, 3, none⟩) (Kd.S_far (p := ⟨gb413, 2, none⟩) (Kd.S_far (p := ⟨gb413, 1, none⟩) (Kd.S_far (p := ⟨gb413, 0, none⟩) (Kd.S_types HO_421004.out BK413.out (by decide)) (fun _ hk => hk.2) (.int .i64 a0)) (fun _ hk => hk.2) (.int .i64 a1)) (fun _ hk => hk.2) (.int .i64 a2)) (fun _ hk => hk.2) (.slice Ao15 y417.length co15)) (fun _ hk => hk.2) (.slice Ao62 x421004_3.length co62)) (fun _ hk => hk.2) (.slice Ao63 x421005_2.length co63)) (fun _ hk => hk.2) (.slice Ao64 x421006_2.length co64)) (fun _ hk => ⟨hk.1.1, ⟨hk.1.2.1, hk.1.2.2⟩⟩), by (with_reducible repeat (first | apply Kd.R_alloc | apply Kd.R_drewN | apply Kd.R_drew)); exact Kd.R_mono (Kd.R_far (p := ⟨gb413, 6, none⟩) (Kd.R_far (p := ⟨gb413, 5, none⟩) (Kd.R_far (p := ⟨gb413, 4, none⟩) (Kd.R_far (p := ⟨gb413, 3, none⟩) (Kd.R_far (p := ⟨gb413, 2, none⟩) (Kd.R_far (p := ⟨gb413, 1, none⟩) (Kd.R_far (p := ⟨gb413, 0, none⟩) (Kd.R_types HO_421005.out BK413.out (by decide)) (fun _ hk => hk.2) (.int .i64 a0)) (fun _ hk => hk.2) (.int .i64 a1)) (fun _ hk => hk.2) (.int .i64 a2)) (fun _ hk => hk.2) (.slice Ao15 y417.length co15)) (fun _ hk => hk.2) (.slice Ao62 x421004_3.length co62)) (fun _ hk => hk.2) (.slice Ao63 x421005_2.length co63)) (fun _ hk => hk.2) (.slice Ao64 x421006_2.length co64)) (fun _ hk => ⟨hk.1.1, hk.1.2⟩), by (with_reducible repeat (first | apply Kd.R_alloc | apply Kd.R_drewN | apply Kd.R_drew)); exact Kd.R_mono (Kd.R_far (p := ⟨gb413, 6, none⟩) (Kd.R_far (p := ⟨gb413, 5, none⟩) (Kd.R_far (p := ⟨gb413, 4, none⟩) (Kd.R_far (p := ⟨gb413, 3, none⟩) (Kd.R_far (p := ⟨gb413, 2, none⟩) (Kd.R_far (p := ⟨gb413, 1, none⟩) (Kd.R_far (p := ⟨gb413, 0, none⟩) (Kd.R_types HO_421006.out BK413.out (by decide)) (fun _ hk => hk.2) (.int .i64 a0)) (fun _ hk => hk.2) (.int .i64 a1)) (fun _ hk => hk.2) (.int .i64 a2)) (fun _ hk => hk.2) (.slice Ao15 y417.length co15)) (fun _ hk => hk.2) (.slice Ao62 x421004_3.length co62)) (fun _ hk => hk.2) (.slice Ao63 x421005_2.length co63)) (fun _ hk => hk.2) (.slice Ao64 x421006_2.length co64)) (fun _ hk => ⟨hk.1.1, hk.1.2⟩), bl⟩
 rw [if_pos c42] at H
 have c42b0 : decide (x18_3 < (l3.length : Int)) = true := decide_eq_true c42
 clear c42
 have H' := Aside0.mk H
 clear H
 go_wp2
 go_loopg [19, 20] k3 (fun kq v19 v20 w' => ∃ (x19_4 : List Int) (x20_4 : Int), v20 = .int .i64 x20_4 ∧ Aside0 (sawmillref17_Uniform.l2 kq a0 l3 l4 x18_3 x19_4 x20_4 a0 a1 a2 y417 x421004_3 x421005_2 x421006_2 = some (r1, r2, r3, r4, r5, r6, r7, r8)) ∧ Aside0 (kq ≤ k3) ∧ Aside0 (Kd.R (Kd.int .i64) 3 w' w.heap.size (fun k_ => some k_ ≠ ((.slice Ao15 y417.length co15) : Value).ownBlock ∧ some k_ ≠ (u421005 : Value).ownBlock ∧ some k_ ≠ (u421006 : Value).ownBlock) v19 x19_4) ∧ Aside0 (Kd.R (Kd.int .i64) 3 w' w.heap.size (fun k_ => some k_ ≠ (v19 : Value).ownBlock ∧ some k_ ≠ (u421005 : Value).ownBlock ∧ some k_ ≠ (u421006 : Value).ownBlock) (.slice Ao15 y417.length co15) y417) ∧ Aside0 (Kd.S (Kd.slice 3 (Kd.int .i64)) 22 w' w.heap.size (fun k_ => some k_ ≠ (v19 : Value).ownBlock ∧ some k_ ≠ ((.slice Ao15 y417.length co15) : Value).ownBlock ∧ some k_ ≠ (u421005 : Value).ownBlock ∧ some k_ ≠ (u421006 : Value).ownBlock) u421004 x421004_3) ∧ Aside0 (Kd.R (Kd.int .i64) 3 w' w.heap.size (fun k_ => some k_ ≠ (v19 : Value).ownBlock ∧ some k_ ≠ ((.slice Ao15 y417.length co15) : Value).ownBlock ∧ some k_ ≠ (u421006 : Value).ownBlock) u421005 x421005_2) ∧ Aside0 (Kd.R (Kd.int .i64) 3 w' w.heap.size (fun k_ => some k_ ≠ (v19 : Value).ownBlock ∧ some k_ ≠ ((.slice Ao15 y417.length co15) : Value).ownBlock ∧ some k_ ≠ (u421005 : Value).ownBlock) u421006 x421006_2) ∧ Aside0 (w'.heap[gb413]? = some (.cells #[.int .i64 0, .int .i64 0, .int .i64 0, (.slice none 0 0), (.slice none 0 0), (.slice none 0 0), (.slice none 0 0)] 25 (0, 0))) ∧ Aside0 (w'.heap[gb420]? = some (.cells #[.int .i64 a0, .int .i64 a1, .int .i64 a2, (.slice Ao15 y417.length co15), u421004, u421005, u421006] 25 (0, 0))) ∧ Aside0 (Below w.heap.size w w'))
 case atStart => exact ⟨(([] : List Int)), (0), rs1, H', ⟨Nat.le_refl _⟩, ⟨by first | exact Kd.R_nil _ _ _ _ _ | exact Kd.N_nil _ _ _ _ _ | exact Kd.V_nil _ _ _ _ _ | exact Kd.Q_nil _ _ _ _ _ | exact Kd.S_nil _ _ _ _ _⟩, ⟨by (with_reducible repeat (first | apply Kd.R_alloc | apply Kd.R_drewN | apply Kd.R_drew)); exact Kd.R_mono HO_421003.out (fun _ hk => ⟨(by simp [Value.ownBlock]), ⟨hk.1, hk.2⟩⟩)⟩, ⟨by (with_reducible repeat (first | apply Kd.S_alloc | apply Kd.S_drewN | apply Kd.S_drew)); exact Kd.S_mono HO_421004.out (fun _ hk => ⟨(by simp [Value.ownBlock]), ⟨hk.1, ⟨hk.2.1, hk.2.2⟩⟩⟩)⟩, ⟨by (with_reducible repeat (first | apply Kd.R_alloc | apply Kd.R_drewN | apply Kd.R_drew)); exact Kd.R_mono HO_421005.out (fun _ hk => ⟨(by simp [Value.ownBlock]), ⟨hk.1, hk.2⟩⟩)⟩, ⟨by (with_reducible repeat (first | apply Kd.R_alloc | apply Kd.R_drewN | apply Kd.R_drew)); exact Kd.R_mono HO_421006.out (fun _ hk => ⟨(by simp [Value.ownBlock]), ⟨hk.1, hk.2⟩⟩)⟩, ⟨bu BK413.out⟩, ⟨bu BK420.out⟩, ⟨bl⟩⟩
 clear H'; (try clear c1); (try clear c2); (try clear p2); (try clear c3); (try clear c4); (try clear c6); (try clear p6); (try clear c8); (try clear c8b0); (try clear c8b1); (try clear c8b2); (try clear c9); (try clear c17); (try clear c19); (try clear c19b0); (try clear c20); (try clear c21); (try clear c23); (try clear c23b0); (try clear c24); (try clear c25); (try clear c26); (try clear c31); (try clear c34); (try clear c34b0); (try clear c34b1); (try clear c36); (try clear c42); (try clear c42b0); (try clear hcz18); (try clear hcz22); (try clear hcz27); (try clear hcz30); (try clear hcz33); (try clear hcz37); (try clear hcz41); (try clear hfz18); (try clear hfz22); (try clear hfz27); (try clear hfz30); (try clear hfz33); (try clear hfz37); (try clear hfz41); (try clear p2); (try clear p6)
 obtain ⟨x19_4, x20_4, rfl, HA, HK4, HO_19, HO_421003, HO_421004, HO_421005, HO_421006, BK413, BK420, HB⟩ := hrel
 rcases gk with _ | k4
 · exact absurd HA.out (by simp [sawmillref17_Uniform.l2])
 have H := HA.out
 clear HA
 simp only [sawmillref17_Uniform.l2] at H
 obtain ⟨c43, H⟩ := gd1 H
 have c43b0 : decide (0 ≤ x18_3) = true := decide_eq_true c43
 clear c43
 obtain ⟨c44, H⟩ := gd1 H
 have c44b0 : decide (x18_3 < (l3.length : Int)) = true := decide_eq_true c44
 clear c44
 obtain ⟨ji45, hji45⟩ : ∃ j_ : Int, (mn (rd l3 x18_3) 2000) = j_ := ⟨_, rfl⟩
 replace H : (if x20_4 < (wrap64 ((wrap64 (a0 - (mx 1 (ji45)))) + 1)) then (if x18_3 < (l4.length : Int) then (if x19_4.length < 17592186044416 then (sawmillref17_Uniform.l2 k4 a0 l3 l4 x18_3 (x19_4 ++ [rd l4 x18_3]) (wrap64 (x20_4 + 1)) a0 a1 a2 y417 x421004_3 x421005_2 x421006_2) else (none)) else (none)) else (if x421004_3.length < 5864062014805 then (sawmillref17_Uniform.l1 k4 a0 l3 l4 (wrap64 (x18_3 + 1)) a0 a1 a2 y417 (x421004_3 ++ [x19_4]) x421005_2 x421006_2) else (none))) = some (r1, r2, r3, r4, r5, r6, r7, r8) := by first | (rw [hji45] at H; exact H) | (simp only [hji45] at H ⊢; exact H)
 have hji45_ : (if 2000 < (rd l3 x18_3) then 2000 else (rd l3 x18_3)) = ji45 := hji45
 obtain ⟨ji46, hji46⟩ : ∃ j_ : Int, (mx 1 (ji45)) = j_ := ⟨_, rfl⟩
 replace H : (if x20_4 < (wrap64 ((wrap64 (a0 - (ji46))) + 1)) then (if x18_3 < (l4.length : Int) then (if x19_4.length < 17592186044416 then (sawmillref17_Uniform.l2 k4 a0 l3 l4 x18_3 (x19_4 ++ [rd l4 x18_3]) (wrap64 (x20_4 + 1)) a0 a1 a2 y417 x421004_3 x421005_2 x421006_2) else (none)) else (none)) else (if x421004_3.length < 5864062014805 then (sawmillref17_Uniform.l1 k4 a0 l3 l4 (wrap64 (x18_3 + 1)) a0 a1 a2 y417 (x421004_3 ++ [x19_4]) x421005_2 x421006_2) else (none))) = some (r1, r2, r3, r4, r5, r6, r7, r8) := by first | (rw [hji46] at H; exact H) | (simp only [hji46] at H ⊢; exact H)
 have hji46_ : (if 1 < (ji45) then (ji45) else 1) = ji46 := hji46
 by_cases c47 : x20_4 < (wrap64 ((wrap64 (a0 - (ji46))) + 1))
 · rw [if_pos c47] at H
   have c47b0 : decide (x20_4 < (wrap64 ((wrap64 (a0 - (ji46))) + 1))) = true := decide_eq_true c47
   clear c47
   obtain ⟨c48, H⟩ := gd1 H
   have c48b0 : decide (x18_3 < (l4.length : Int)) = true := decide_eq_true c48
   clear c48
   obtain ⟨c49, H⟩ := gd1 H
   have LMc49 := Aside0.mk c49
   clear c49
   obtain ⟨y431, hy431⟩ : ∃ y_ : List Int, y_ = (x19_4 ++ [rd l4 x18_3]) := ⟨_, rfl⟩
   replace H : (sawmillref17_Uniform.l2 k4 a0 l3 l4 x18_3 y431 (wrap64 (x20_4 + 1)) a0 a1 a2 y417 x421004_3 x421005_2 x421006_2) = some (r1, r2, r3, r4, r5, r6, r7, r8) := by first | (rw [hy431]; with_reducible exact H) | (have H2_ := (Option.bind_some _ _).symm.trans H; rw [hy431]; with_reducible exact H2_) | (have H2_ := (Option.bind_some _ _).symm.trans H; with_reducible exact H2_) | with_reducible exact H | (rw [hy431]; exact H) | exact H
   have Ny431 := Aside0.mk hy431
   clear hy431
   have H' := Aside0.mk H
   clear H
   have p429 : 0 ≤ (x18_3 : Int) := da1
   have q429 : x18_3 < (l3.length : Int) := da1
   obtain ⟨ad429, e429, hx429_0⟩ := Kd.at_int HR3.out x18_3 p429 q429
   cases e429
   (try replace hx429_0 := (HB.out.cell (World.block_lt_of_cell? w _ hx429_0)).trans hx429_0)
   replace p429 := eq_true p429
   replace q429 := eq_true q429
   have p430 : 0 ≤ (x18_3 : Int) := da1
   have q430 : x18_3 < (l4.length : Int) := da1
   obtain ⟨ad430, e430, hx430_0⟩ := Kd.at_int HR4.out x18_3 p430 q430
   cases e430
   (try replace hx430_0 := (HB.out.cell (World.block_lt_of_cell? w _ hx430_0)).trans hx430_0)
   replace p430 := eq_true p430
   replace q430 := eq_true q430
   go_wp2_with (first | ((with_reducible refine gate_builtin (b := .append) (xs := #[.tmp 84, .tmp 89]) rfl ?_); at_builtin; refine Kd.R_append (Kd.int .i64) (w0 := w) w.heap.size rfl (.tmp 84) (.tmp 89) 22 3 (.int .i64 0) 8 rfl Tryd.underlying22 info3 rfl (by decide) (by omega) u19 x19_4 (rd l4 x18_3) [.int .i64 (rd l4 x18_3)] (fun k_ => some k_ ≠ (.slice Ao15 y417.length co15 : Value).ownBlock ∧ some k_ ≠ (u421005 : Value).ownBlock ∧ some k_ ≠ (u421006 : Value).ownBlock) (fun _ => False) rfl rfl ?aP (fun _ hk => hk.elim) ?aF ?aO ?aB ?aS ?aL ?_; (case aP => exact rfl); (case aB => exact bl); (case aF => exact (fun k_ hk => ⟨Kd.fresh' (Kd.R_lt (ru HO_421003.out)) k_ hk, Kd.fresh' (Kd.R_lt (ru HO_421005.out)) k_ hk, Kd.fresh' (Kd.R_lt (ru HO_421006.out)) k_ hk⟩)); (case aO => exact (ru HO_19.out)); (case aS => exact (below_size bl)); (case aL => have := LMc49.out; omega); intro v432 w50 ho hb hg hat; rw [← Ny431.out] at ho; have n0_ := Aside0.mk (Kd.R_after (ok := (fun k_ => some k_ ≠ (u421005 : Value).ownBlock ∧ some k_ ≠ (u421006 : Value).ownBlock)) (by (with_reducible repeat (first | apply Kd.R_alloc | apply Kd.R_drewN | apply Kd.R_drew)); exact Kd.R_mono HO_421003.out (fun _ hk => ⟨⟨hk.2.1, hk.2.2⟩, hk.1⟩)) hg hat); have n1_ := Aside0.mk (Kd.S_after (ok := (fun k_ => some k_ ≠ (.slice Ao15 y417.length co15 : Value).ownBlock ∧ some k_ ≠ (u421005 : Value).ownBlock ∧ some k_ ≠ (u421006 : Value).ownBlock)) (by (with_reducible repeat (first | apply Kd.S_alloc | apply Kd.S_drewN | apply Kd.S_drew)); exact Kd.S_mono HO_421004.out (fun _ hk => ⟨⟨hk.2.1, ⟨hk.2.2.1, hk.2.2.2⟩⟩, hk.1⟩)) hg hat); have n2_ := Aside0.mk (Kd.R_after (ok := (fun k_ => some k_ ≠ (.slice Ao15 y417.length co15 : Value).ownBlock ∧ some k_ ≠ (u421006 : Value).ownBlock)) (by (with_reducible repeat (first | apply Kd.R_alloc | apply Kd.R_drewN | apply Kd.R_drew)); exact Kd.R_mono HO_421005.out (fun _ hk => ⟨⟨hk.2.1, hk.2.2⟩, hk.1⟩)) hg hat); have n3_ := Aside0.mk (Kd.R_after (ok := (fun k_ => some k_ ≠ (.slice Ao15 y417.length co15 : Value).ownBlock ∧ some k_ ≠ (u421005 : Value).ownBlock)) (by (with_reducible repeat (first | apply Kd.R_alloc | apply Kd.R_drewN | apply Kd.R_drew)); exact Kd.R_mono HO_421006.out (fun _ hk => ⟨⟨hk.2.1, hk.2.2⟩, hk.1⟩)) hg hat); have n4_ := Aside0.mk (blk_grown (g := gb413) (o := .cells #[.int .i64 0, .int .i64 0, .int .i64 0, .slice none 0 0, .slice none 0 0, .slice none 0 0, .slice none 0 0] 25 (0, 0)) (bu BK413.out) hg (Kd.R_ne HO_19.out BK413.out (by decide))); have n5_ := Aside0.mk (blk_grown (g := gb420) (o := .cells #[.int .i64 a0, .int .i64 a1, .int .i64 a2, .slice Ao15 y417.length co15, u421004, u421005, u421006] 25 (0, 0)) (bu BK420.out) hg (Kd.R_ne HO_19.out BK420.out (by decide))); have n6_ := Aside0.mk (hb); have n7_ := Aside0.mk (ho); clear HO_421003; clear HO_421004; clear HO_421005; clear HO_421006; clear BK413; clear BK420; clear HB; clear HO_19; have HO_421003 := n0_; have HO_421004 := n1_; have HO_421005 := n2_; have HO_421006 := n3_; have BK413 := n4_; have BK420 := n5_; have HB := n6_; have HO433 := n7_; clear n0_ n1_ n2_ n3_ n4_ n5_ n6_ n7_; clear ho hb hg hat))
   go_roundg k4
   case measure => have := HJ9.out; have := HK2.out; have := HK3.out; have := HK4.out; omega
   case rel => exact ⟨(y431), (wrap64 (x20_4 + 1)), rs1, H', ⟨by have := HJ9.out; have := HK2.out; have := HK3.out; have := HK4.out; omega⟩, ⟨by (with_reducible repeat (first | apply Kd.R_alloc | apply Kd.R_drewN | apply Kd.R_drew)); exact HO433.out⟩, ⟨by (with_reducible repeat (first | apply Kd.R_alloc | apply Kd.R_drewN | apply Kd.R_drew)); exact Kd.R_mono HO_421003.out (fun _ hk => ⟨hk.2, ⟨hk.1.1, hk.1.2⟩⟩)⟩, ⟨by (with_reducible repeat (first | apply Kd.S_alloc | apply Kd.S_drewN | apply Kd.S_drew)); exact Kd.S_mono HO_421004.out (fun _ hk => ⟨hk.2, ⟨hk.1.1, ⟨hk.1.2.1, hk.1.2.2⟩⟩⟩)⟩, ⟨by (with_reducible repeat (first | apply Kd.R_alloc | apply Kd.R_drewN | apply Kd.R_drew)); exact Kd.R_mono HO_421005.out (fun _ hk => ⟨hk.2, ⟨hk.1.1, hk.1.2⟩⟩)⟩, ⟨by (with_reducible repeat (first | apply Kd.R_alloc | apply Kd.R_drewN | apply Kd.R_drew)); exact Kd.R_mono HO_421006.out (fun _ hk => ⟨hk.2, ⟨hk.1.1, hk.1.2⟩⟩)⟩, ⟨bu BK413.out⟩, ⟨bu BK420.out⟩, ⟨bl⟩⟩
 rw [if_neg c47] at H
 have c47b0 : decide (x20_4 < (wrap64 ((wrap64 (a0 - (ji46))) + 1))) = false := decide_eq_false c47
 clear c47
 obtain ⟨c51, H⟩ := gd1 H
 have LMc51 := Aside0.mk c51
 clear c51
 obtain ⟨y434, hy434⟩ : ∃ y_ : List (List Int), y_ = (x421004_3 ++ [x19_4]) := ⟨_, rfl⟩
 replace H : (sawmillref17_Uniform.l1 k4 a0 l3 l4 (wrap64 (x18_3 + 1)) a0 a1 a2 y417 y434 x421005_2 x421006_2) = some (r1, r2, r3, r4, r5, r6, r7, r8) := by first | (rw [hy434]; with_reducible exact H) | (have H2_ := (Option.bind_some _ _).symm.trans H; rw [hy434]; with_reducible exact H2_) | (have H2_ := (Option.bind_some _ _).symm.trans H; with_reducible exact H2_) | with_reducible exact H | (rw [hy434]; exact H) | exact H
 have Ny434 := Aside0.mk hy434
 clear hy434
 have H' := Aside0.mk H
 clear H
 have p429 : 0 ≤ (x18_3 : Int) := da1
 have q429 : x18_3 < (l3.length : Int) := da1
 obtain ⟨ad429, e429, hx429_0⟩ := Kd.at_int HR3.out x18_3 p429 q429
 cases e429
 (try replace hx429_0 := (HB.out.cell (World.block_lt_of_cell? w _ hx429_0)).trans hx429_0)
 replace p429 := eq_true p429
 replace q429 := eq_true q429
 have hnb52 := NB420_413.out
 have hnc52 := NB413_420.out
 have hcz53 := blk_cells BK420.out
 have hfz53 := blk_frozens BK420.out
 obtain ⟨Ao55, co55, eo55⟩ := Kd.R_slice HO_19.out
 subst eo55
 go_wp2_with (first | ((with_reducible refine gate_builtin (b := .append) (xs := #[.tmp 92, .tmp 94]) rfl ?_); at_builtin; refine Kd.S_append (Kd.slice 3 (Kd.int .i64)) (w0 := w) w.heap.size rfl (.tmp 92) (.tmp 94) 23 22 (.slice none 0 0) 24 rfl Tryd.underlying23 info22 rfl (by decide) (by omega) u421004 x421004_3 x19_4 [.slice Ao55 x19_4.length co55] (fun k_ => some k_ ≠ (.slice Ao15 y417.length co15 : Value).ownBlock ∧ some k_ ≠ (u421005 : Value).ownBlock ∧ some k_ ≠ (u421006 : Value).ownBlock) (fun k_ => some k_ = (.slice Ao55 x19_4.length co55 : Value).ownBlock) rfl rfl ?aP (fun k_ hk_ => ((Kd.R_mono (ok' := fun k_ => ((fun k_ => some k_ ≠ (.slice Ao15 y417.length co15 : Value).ownBlock ∧ some k_ ≠ (u421005 : Value).ownBlock ∧ some k_ ≠ (u421006 : Value).ownBlock)) k_ ∧ some k_ ≠ (u421004 : Value).ownBlock) (Kd.R_apart' (HO_19.out) (Kd.S_typed HO_421004.out) (by decide)) (fun k_ hk => ⟨⟨hk.1.1, ⟨hk.1.2.1, hk.1.2.2⟩⟩, hk.2⟩))).1 k_ hk_.symm) ?aF ?aO ?aB ?aS ?aL ?_; (case aP => exact Kd.M_row (Kd.R_mono (Kd.R_tight rfl (Kd.R_mono (ok' := fun k_ => ((fun k_ => some k_ ≠ (.slice Ao15 y417.length co15 : Value).ownBlock ∧ some k_ ≠ (u421005 : Value).ownBlock ∧ some k_ ≠ (u421006 : Value).ownBlock)) k_ ∧ some k_ ≠ (u421004 : Value).ownBlock) (Kd.R_apart' (HO_19.out) (Kd.S_typed HO_421004.out) (by decide)) (fun k_ hk => ⟨⟨hk.1.1, ⟨hk.1.2.1, hk.1.2.2⟩⟩, hk.2⟩))) (fun _ h_ => h_))); (case aB => exact bl); (case aF => exact (fun k_ hk => ⟨Kd.fresh' (Kd.R_lt (ru HO_421003.out)) k_ hk, Kd.fresh' (Kd.R_lt (ru HO_421005.out)) k_ hk, Kd.fresh' (Kd.R_lt (ru HO_421006.out)) k_ hk⟩)); (case aO => exact (by (with_reducible repeat (first | apply Kd.S_alloc | apply Kd.S_drewN | apply Kd.S_drew)); exact Kd.S_mono HO_421004.out (fun k_ hk => ⟨⟨hk.2.1, ⟨hk.2.2.1, hk.2.2.2⟩⟩, fun e_ => hk.1 e_⟩))); (case aS => exact (below_size bl)); (case aL => have := LMc51.out; omega); intro v435 w54 ho hb hg hat; rw [← Ny434.out] at ho; have n0_ := Aside0.mk (Kd.R_over' (ru HO_421003.out) (Kd.S_typed (su HO_421004.out)) (by decide) hg); have n1_ := Aside0.mk (Kd.R_over' (ru HO_421005.out) (Kd.S_typed (su HO_421004.out)) (by decide) hg); have n2_ := Aside0.mk (Kd.R_over' (ru HO_421006.out) (Kd.S_typed (su HO_421004.out)) (by decide) hg); have n3_ := Aside0.mk (blk_grown (g := gb413) (o := .cells #[.int .i64 0, .int .i64 0, .int .i64 0, .slice none 0 0, .slice none 0 0, .slice none 0 0, .slice none 0 0] 25 (0, 0)) (bu BK413.out) hg (Kd.S_ne HO_421004.out BK413.out (by decide))); have n4_ := Aside0.mk (blk_grown (g := gb420) (o := .cells #[.int .i64 a0, .int .i64 a1, .int .i64 a2, .slice Ao15 y417.length co15, u421004, u421005, u421006] 25 (0, 0)) (bu BK420.out) hg (Kd.S_ne HO_421004.out BK420.out (by decide))); have n5_ := Aside0.mk (hb); have n6_ := Aside0.mk (ho); clear HO_421003; clear HO_421005; clear HO_421006; clear BK413; clear BK420; clear HB; clear HO_421004; clear HO_19; have HO_421003 := n0_; have HO_421005 := n1_; have HO_421006 := n2_; have BK413 := n3_; have BK420 := n4_; have HB := n5_; have HO436 := n6_; clear n0_ n1_ n2_ n3_ n4_ n5_ n6_; clear ho hb hg hat; obtain ⟨Ao56, co56, eo56⟩ := Kd.S_slice HO436.out; subst eo56; have hcz57 := blk_cells BK420.out; have hfz57 := blk_frozens BK420.out))
 go_roundg k4
 case measure => have := HJ9.out; have := HK2.out; have := HK3.out; have := HK4.out; omega
 case rel => exact ⟨(wrap64 (x18_3 + 1)), (y434), (.slice Ao56 y434.length co56), rs1, H', ⟨by have := HJ9.out; have := HK2.out; have := HK3.out; have := HK4.out; omega⟩, ⟨by (with_reducible repeat (first | apply Kd.R_alloc | apply Kd.R_drewN | apply Kd.R_drew)); exact Kd.R_mono (Kd.R_far (p := ⟨gb420, 4, none⟩) (Kd.R_types HO_421003.out BK420.out (by decide)) (fun _ hk => hk.2) (.slice Ao56 y434.length co56)) (fun _ hk => ⟨hk.1.2.1, hk.1.2.2⟩)⟩, ⟨by (with_reducible repeat (first | apply Kd.S_alloc | apply Kd.S_drewN | apply Kd.S_drew)); exact Kd.S_mono (Kd.S_far (p := ⟨gb420, 4, none⟩) (Kd.S_types HO436.out BK420.out (by decide)) (fun _ hk => hk.2) (.slice Ao56 y434.length co56)) (fun _ hk => ⟨hk.1.1, ⟨hk.1.2.1, hk.1.2.2⟩⟩)⟩, ⟨by (with_reducible repeat (first | apply Kd.R_alloc | apply Kd.R_drewN | apply Kd.R_drew)); exact Kd.R_mono (Kd.R_far (p := ⟨gb420, 4, none⟩) (Kd.R_types HO_421005.out BK420.out (by decide)) (fun _ hk => hk.2) (.slice Ao56 y434.length co56)) (fun _ hk => ⟨hk.1.2.1, hk.1.2.2⟩)⟩, ⟨by (with_reducible repeat (first | apply Kd.R_alloc | apply Kd.R_drewN | apply Kd.R_drew)); exact Kd.R_mono (Kd.R_far (p := ⟨gb420, 4, none⟩) (Kd.R_types HO_421006.out BK420.out (by decide)) (fun _ hk => hk.2) (.slice Ao56 y434.length co56)) (fun _ hk => ⟨hk.1.2.1, hk.1.2.2⟩)⟩, ⟨by (with_reducible repeat (first | refine blk_drewN ?_ _ | refine blk_drew ?_ | refine blk_alloc ?_ _)); refine blk_far ?_ NB413_420.out _; (with_reducible repeat (first | refine blk_drewN ?_ _ | refine blk_drew ?_ | refine blk_alloc ?_ _)); exact BK413.out⟩, ⟨by (with_reducible repeat (first | refine blk_drewN ?_ _ | refine blk_drew ?_ | refine blk_alloc ?_ _)); refine blk_put (cs := #[.int .i64 a0, .int .i64 a1, .int .i64 a2, .slice Ao15 y417.length co15, u421004, u421005, u421006]) ?_ 4 _ rfl; (with_reducible repeat (first | refine blk_drewN ?_ _ | refine blk_drew ?_ | refine blk_alloc ?_ _)); exact BK420.out⟩, ⟨bl⟩⟩
end Go.Proofs.YtoaicheopcojoaaDoor.P
