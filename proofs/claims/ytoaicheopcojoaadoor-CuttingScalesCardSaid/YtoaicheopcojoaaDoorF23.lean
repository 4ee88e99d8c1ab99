import Derived.Test.YtoaicheopcojoaaDoorSq
import Derived.Test.YtoaicheopcojoaaDoorF21
namespace Go.Proofs.YtoaicheopcojoaaDoor.P
open Go.RowKit Go.Proofs.YtoaicheopcojoaaDoorW.PrintWords Go.Proofs.YtoaicheopcojoaaDoorW.PrintLast Go.Proofs.YtoaicheopcojoaaDoorW.PrintMore
attribute [local go_sem] max2_int min2_int max_two min_two max_three min_three max_four min_four   -- for this text's walks alone
set_option linter.unusedVariables false
set_option linter.unusedSimpArgs false
/-! ### cutting_Value: function 23 -/
mutual
noncomputable def cutting_Value.l0 : Nat → List (S49) → List (S49) → Int → List (S69) → Int → Int → Int → Int → Int → List Int → List (List Int) → List Int → List Int → Option (Int × Int)
  | 0, _, _, _, _, _, _, _, _, _, _, _, _, _ => none
  | k + 1, x6, x7, x9, x28, x29, x30, x133000, x133001, x133002, x133003, x133004, x133005, x133006 => if x30 < x29 then (if 0 ≤ x30 then (if x30 < (x28.length : Int) then (if 0 ≤ ((rd_T69 x28 x30).f0) then (if ((rd_T69 x28 x30).f0) < (x133004.length : Int) then (if 0 ≤ ((rd_T69 x28 x30).f1) then (if ((rd_T69 x28 x30).f1) < ((rd_L1 x133004 ((rd_T69 x28 x30).f0)).length : Int) then (cutting_Value.l0 k x6 x7 (wrap64 (x9 + (rd (rd_L1 x133004 ((rd_T69 x28 x30).f0)) ((rd_T69 x28 x30).f1)))) x28 x29 (wrap64 (x30 + 1)) x133000 x133001 x133002 x133003 x133004 x133005 x133006) else (none)) else (none)) else (none)) else (none)) else (none)) else (none)) else (cutting_Value.l1 k x7 x9 x6 (x6.length : Int) 0 x133000 x133001 x133002 x133003 x133004 x133005 x133006)
noncomputable def cutting_Value.l1 : Nat → List (S49) → Int → List (S49) → Int → Int → Int → Int → Int → List Int → List (List Int) → List Int → List Int → Option (Int × Int)
  | 0, _, _, _, _, _, _, _, _, _, _, _, _ => none
  | k + 1, x7, x9, x47, x48, x49, x133000, x133001, x133002, x133003, x133004, x133005, x133006 => if x49 < x48 then (if 0 ≤ x49 then (if x49 < (x47.length : Int) then (cutting_Value.l2 k x7 x9 ((rd_T49 x47 x49).f0) x47 x48 x49 x133000 x133001 x133002 x133003 x133004 x133005 x133006 ((rd_T49 x47 x49).f0) ((rd_T49 x47 x49).f1)) else (none)) else (none)) else (cutting_Value.l3 k x9 x7 (x7.length : Int) 0 x133000 x133001 x133002 x133003 x133004 x133005 x133006)
noncomputable def cutting_Value.l2 : Nat → List (S49) → Int → Int → List (S49) → Int → Int → Int → Int → Int → List Int → List (List Int) → List Int → List Int → Int → Int → Option (Int × Int)
  | 0, _, _, _, _, _, _, _, _, _, _, _, _, _, _, _ => none
  | k + 1, x7, x9, x14, x47, x48, x49, x133000, x133001, x133002, x133003, x133004, x133005, x133006, x146000, x146001 => if x14 < x146001 then (if 0 ≤ x14 then (if x14 < (x133006.length : Int) then (cutting_Value.l2 k x7 (wrap64 (x9 + (rd x133006 x14))) (wrap64 (x14 + 1)) x47 x48 x49 x133000 x133001 x133002 x133003 x133004 x133005 x133006 x146000 x146001) else (none)) else (none)) else (cutting_Value.l1 k x7 x9 x47 x48 (wrap64 (x49 + 1)) x133000 x133001 x133002 x133003 x133004 x133005 x133006)
noncomputable def cutting_Value.l3 : Nat → Int → List (S49) → Int → Int → Int → Int → Int → List Int → List (List Int) → List Int → List Int → Option (Int × Int)
  | 0, _, _, _, _, _, _, _, _, _, _, _ => none
  | k + 1, x9, x69, x70, x71, x133000, x133001, x133002, x133003, x133004, x133005, x133006 => if x71 < x70 then (if 0 ≤ x71 then (if x71 < (x69.length : Int) then (cutting_Value.l4 k x9 ((rd_T49 x69 x71).f0) x69 x70 x71 x133000 x133001 x133002 x133003 x133004 x133005 x133006 ((rd_T49 x69 x71).f0) ((rd_T49 x69 x71).f1)) else (none)) else (none)) else (some (x9, 0))
noncomputable def cutting_Value.l4 : Nat → Int → Int → List (S49) → Int → Int → Int → Int → Int → List Int → List (List Int) → List Int → List Int → Int → Int → Option (Int × Int)
  | 0, _, _, _, _, _, _, _, _, _, _, _, _, _, _ => none
  | k + 1, x9, x17, x69, x70, x71, x133000, x133001, x133002, x133003, x133004, x133005, x133006, x149000, x149001 => if x17 < x149001 then (if 0 ≤ x17 then (if x17 < (x133005.length : Int) then (cutting_Value.l4 k (wrap64 (x9 + (rd x133005 x17))) (wrap64 (x17 + 1)) x69 x70 x71 x133000 x133001 x133002 x133003 x133004 x133005 x133006 x149000 x149001) else (none)) else (none)) else (cutting_Value.l3 k x9 x69 x70 (wrap64 (x71 + 1)) x133000 x133001 x133002 x133003 x133004 x133005 x133006)
end
noncomputable def cutting_Value.f (k : Nat) (a0_0 : Int) (a0_1 : Int) (a0_2 : Int) (l0_3 : List Int) (l0_4 : List (List Int)) (l0_5 : List Int) (l0_6 : List Int) (l1 : List (S69)) : Option (Int × Int) := (cutting_Cuts.f k a0_0 a0_1 a0_2 l0_3 l0_4 l0_5 l0_6 l1).bind fun bt133 => (if bt133.2.2 = 0 then (cutting_Value.l0 k bt133.1 bt133.2.1 0 l1 (l1.length : Int) 0 a0_0 a0_1 a0_2 l0_3 l0_4 l0_5 l0_6) else (some (0, bt133.2.2)))
theorem cutting_Value.mono_l : ∀ k, (∀ y0 y1 y2 y3 y4 y5 y6 y7 y8 y9 y10 y11 y12, LeO (cutting_Value.l0 k y0 y1 y2 y3 y4 y5 y6 y7 y8 y9 y10 y11 y12) (cutting_Value.l0 (k + 1) y0 y1 y2 y3 y4 y5 y6 y7 y8 y9 y10 y11 y12)) ∧ (∀ y0 y1 y2 y3 y4 y5 y6 y7 y8 y9 y10 y11, LeO (cutting_Value.l1 k y0 y1 y2 y3 y4 y5 y6 y7 y8 y9 y10 y11) (cutting_Value.l1 (k + 1) y0 y1 y2 y3 y4 y5 y6 y7 y8 y9 y10 y11)) ∧ (∀ y0 y1 y2 y3 y4 y5 y6 y7 y8 y9 y10 y11 y12 y13 y14, LeO (cutting_Value.l2 k y0 y1 y2 y3 y4 y5 y6 y7 y8 y9 y10 y11 y12 y13 y14) (cutting_Value.l2 (k + 1) y0 y1 y2 y3 y4 y5 y6 y7 y8 y9 y10 y11 y12 y13 y14)) ∧ (∀ y0 y1 y2 y3 y4 y5 y6 y7 y8 y9 y10, LeO (cutting_Value.l3 k y0 y1 y2 y3 y4 y5 y6 y7 y8 y9 y10) (cutting_Value.l3 (k + 1) y0 y1 y2 y3 y4 y5 y6 y7 y8 y9 y10)) ∧ (∀ y0 y1 y2 y3 y4 y5 y6 y7 y8 y9 y10 y11 y12 y13, LeO (cutting_Value.l4 k y0 y1 y2 y3 y4 y5 y6 y7 y8 y9 y10 y11 y12 y13) (cutting_Value.l4 (k + 1) y0 y1 y2 y3 y4 y5 y6 y7 y8 y9 y10 y11 y12 y13))
  | 0 => ⟨fun _ _ _ _ _ _ _ _ _ _ _ _ _ r h => by simp [cutting_Value.l0] at h, fun _ _ _ _ _ _ _ _ _ _ _ _ r h => by simp [cutting_Value.l1] at h, fun _ _ _ _ _ _ _ _ _ _ _ _ _ _ _ r h => by simp [cutting_Value.l2] at h, fun _ _ _ _ _ _ _ _ _ _ _ r h => by simp [cutting_Value.l3] at h, fun _ _ _ _ _ _ _ _ _ _ _ _ _ _ r h => by simp [cutting_Value.l4] at h⟩
  | k + 1 => by
    obtain ⟨ih0, ih1, ih2, ih3, ih4⟩ := cutting_Value.mono_l k
    refine ⟨?_, ?_, ?_, ?_, ?_⟩
    · intro y0 y1 y2 y3 y4 y5 y6 y7 y8 y9 y10 y11 y12
      unfold cutting_Value.l0
      repeat' first
      | (with_reducible exact ih0 _ _ _ _ _ _ _ _ _ _ _ _ _)
      | (with_reducible exact ih1 _ _ _ _ _ _ _ _ _ _ _ _)
      | (with_reducible exact ih2 _ _ _ _ _ _ _ _ _ _ _ _ _ _ _)
      | (with_reducible exact ih3 _ _ _ _ _ _ _ _ _ _ _)
      | (with_reducible exact ih4 _ _ _ _ _ _ _ _ _ _ _ _ _ _)
      | (with_reducible exact cutting_Cuts.mono _ _ _ _ _ _ _ _ _)
      | (with_reducible exact LeO.refl _)
      | (with_reducible exact LeO.none _)
      | (with_reducible refine LeO.ite ?_ ?_)
      | (with_reducible refine LeO.bind ?_ (fun _ => ?_))
      | exact ih0 _ _ _ _ _ _ _ _ _ _ _ _ _
      | exact ih1 _ _ _ _ _ _ _ _ _ _ _ _
      | exact ih2 _ _ _ _ _ _ _ _ _ _ _ _ _ _ _
      | exact ih3 _ _ _ _ _ _ _ _ _ _ _
      | exact ih4 _ _ _ _ _ _ _ _ _ _ _ _ _ _
      | exact cutting_Cuts.mono _ _ _ _ _ _ _ _ _
      | exact LeO.none _
      | refine LeO.ite ?_ ?_
      | refine LeO.bind ?_ (fun _ => ?_)
    · intro y0 y1 y2 y3 y4 y5 y6 y7 y8 y9 y10 y11
      unfold cutting_Value.l1
      repeat' first
      | (with_reducible exact ih0 _ _ _ _ _ _ _ _ _ _ _ _ _)
      | (with_reducible exact ih1 _ _ _ _ _ _ _ _ _ _ _ _)
      | (with_reducible exact ih2 _ _ _ _ _ _ _ _ _ _ _ _ _ _ _)
      | (with_reducible exact ih3 _ _ _ _ _ _ _ _ _ _ _)
      | (with_reducible exact ih4 _ _ _ _ _ _ _ _ _ _ _ _ _ _)
      | (with_reducible exact cutting_Cuts.mono _ _ _ _ _ _ _ _ _)
      | (with_reducible exact LeO.refl _)
      | (with_reducible exact LeO.none _)
      | (with_reducible refine LeO.ite ?_ ?_)
      | (with_reducible refine LeO.bind ?_ (fun _ => ?_))
      | exact ih0 _ _ _ _ _ _ _ _ _ _ _ _ _
      | exact ih1 _ _ _ _ _ _ _ _ _ _ _ _
      | exact ih2 _ _ _ _ _ _ _ _ _ _ _ _ _ _ _
      | exact ih3 _ _ _ _ _ _ _ _ _ _ _
      | exact ih4 _ _ _ _ _ _ _ _ _ _ _ _ _ _
      | exact cutting_Cuts.mono _ _ _ _ _ _ _ _ _
      | exact LeO.none _
      | refine LeO.ite ?_ ?_
      | refine LeO.bind ?_ (fun _ => ?_)
    · intro y0 y1 y2 y3 y4 y5 y6 y7 y8 y9 y10 y11 y12 y13 y14
      unfold cutting_Value.l2
      repeat' first
      | (with_reducible exact ih0 _ _ _ _ _ _ _ _ _ _ _ _ _)
      | (with_reducible exact ih1 _ _ _ _ _ _ _ _ _ _ _ _)
      | (with_reducible exact ih2 _ _ _ _ _ _ _ _ _ _ _ _ _ _ _)
      | (with_reducible exact ih3 _ _ _ _ _ _ _ _ _ _ _)
      | (with_reducible exact ih4 _ _ _ _ _ _ _ _ _ _ _ _ _ _)
      | (with_reducible exact cutting_Cuts.mono _ _ _ _ _ _ _ _ _)
      | (with_reducible exact LeO.refl _)
      | (with_reducible exact LeO.none _)
      | (with_reducible refine LeO.ite ?_ ?_)
      | (with_reducible refine LeO.bind ?_ (fun _ => ?_))
      | exact ih0 _ _ _ _ _ _ _ _ _ _ _ _ _
      | exact ih1 _ _ _ _ _ _ _ _ _ _ _ _
      | exact ih2 _ _ _ _ _ _ _ _ _ _ _ _ _ _ _
      | exact ih3 _ _ _ _ _ _ _ _ _ _ _
      | exact ih4 _ _ _ _ _ _ _ _ _ _ _ _ _ _
      | exact cutting_Cuts.mono _ _ _ _ _ _ _ _ _
      | exact LeO.none _
      | refine LeO.ite ?_ ?_
      | refine LeO.bind ?_ (fun _ => ?_)
    · intro y0 y1 y2 y3 y4 y5 y6 y7 y8 y9 y10
      unfold cutting_Value.l3
      repeat' first
      | (with_reducible exact ih0 _ _ _ _ _ _ _ _ _ _ _ _ _)
      | (with_reducible exact ih1 _ _ _ _ _ _ _ _ _ _ _ _)
      | (with_reducible exact ih2 _ _ _ _ _ _ _ _ _ _ _ _ _ _ _)
      | (with_reducible exact ih3 _ _ _ _ _ _ _ _ _ _ _)
      | (with_reducible exact ih4 _ _ _ _ _ _ _ _ _ _ _ _ _ _)
      | (with_reducible exact cutting_Cuts.mono _ _ _ _ _ _ _ _ _)
      | (with_reducible exact LeO.refl _)
      | (with_reducible exact LeO.none _)
      | (with_reducible refine LeO.ite ?_ ?_)
      | (with_reducible refine LeO.bind ?_ (fun _ => ?_))
      | exact ih0 _ _ _ _ _ _ _ _ _ _ _ _ _
      | exact ih1 _ _ _ _ _ _ _ _ _ _ _ _
      | exact ih2 _ _ _ _ _ _ _ _ _ _ _ _ _ _ _
      | exact ih3 _ _ _ _ _ _ _ _ _ _ _
      | exact ih4 _ _ _ _ _ _ _ _ _ _ _ _ _ _
      | exact cutting_Cuts.mono _ _ _ _ _ _ _ _ _
      | exact LeO.none _
      | refine LeO.ite ?_ ?_
      | refine LeO.bind ?_ (fun _ => ?_)
    · intro y0 y1 y2 y3 y4 y5 y6 y7 y8 y9 y10 y11 y12 y13
      unfold cutting_Value.l4
      repeat' first
      | (with_reducible exact ih0 _ _ _ _ _ _ _ _ _ _ _ _ _)
      | (with_reducible exact ih1 _ _ _ _ _ _ _ _ _ _ _ _)
      | (with_reducible exact ih2 _ _ _ _ _ _ _ _ _ _ _ _ _ _ _)
      | (with_reducible exact ih3 _ _ _ _ _ _ _ _ _ _ _)
      | (with_reducible exact ih4 _ _ _ _ _ _ _ _ _ _ _ _ _ _)
      | (with_reducible exact cutting_Cuts.mono _ _ _ _ _ _ _ _ _)
      | (with_reducible exact LeO.refl _)
      | (with_reducible exact LeO.none _)
      | (with_reducible refine LeO.ite ?_ ?_)
      | (with_reducible refine LeO.bind ?_ (fun _ => ?_))
      | exact ih0 _ _ _ _ _ _ _ _ _ _ _ _ _
      | exact ih1 _ _ _ _ _ _ _ _ _ _ _ _
      | exact ih2 _ _ _ _ _ _ _ _ _ _ _ _ _ _ _
      | exact ih3 _ _ _ _ _ _ _ _ _ _ _
      | exact ih4 _ _ _ _ _ _ _ _ _ _ _ _ _ _
      | exact cutting_Cuts.mono _ _ _ _ _ _ _ _ _
      | exact LeO.none _
      | refine LeO.ite ?_ ?_
      | refine LeO.bind ?_ (fun _ => ?_)
theorem cutting_Value.mono : ∀ a0 a1 a2 a3 a4 a5 a6 a7 k, LeO (cutting_Value.f k a0 a1 a2 a3 a4 a5 a6 a7) (cutting_Value.f (k + 1) a0 a1 a2 a3 a4 a5 a6 a7) := by
  intro a0 a1 a2 a3 a4 a5 a6 a7 k
  obtain ⟨ih0, ih1, ih2, ih3, ih4⟩ := cutting_Value.mono_l k
  unfold cutting_Value.f
  repeat' first
      | (with_reducible exact ih0 _ _ _ _ _ _ _ _ _ _ _ _ _)
      | (with_reducible exact ih1 _ _ _ _ _ _ _ _ _ _ _ _)
      | (with_reducible exact ih2 _ _ _ _ _ _ _ _ _ _ _ _ _ _ _)
      | (with_reducible exact ih3 _ _ _ _ _ _ _ _ _ _ _)
      | (with_reducible exact ih4 _ _ _ _ _ _ _ _ _ _ _ _ _ _)
      | (with_reducible exact cutting_Cuts.mono _ _ _ _ _ _ _ _ _)
      | (with_reducible exact LeO.refl _)
      | (with_reducible exact LeO.none _)
      | (with_reducible refine LeO.ite ?_ ?_)
      | (with_reducible refine LeO.bind ?_ (fun _ => ?_))
      | exact ih0 _ _ _ _ _ _ _ _ _ _ _ _ _
      | exact ih1 _ _ _ _ _ _ _ _ _ _ _ _
      | exact ih2 _ _ _ _ _ _ _ _ _ _ _ _ _ _ _
      | exact ih3 _ _ _ _ _ _ _ _ _ _ _
      | exact ih4 _ _ _ _ _ _ _ _ _ _ _ _ _ _
      | exact cutting_Cuts.mono _ _ _ _ _ _ _ _ _
      | exact LeO.none _
      | refine LeO.ite ?_ ?_
      | refine LeO.bind ?_ (fun _ => ?_)
set_option maxHeartbeats 8000000 in
set_option maxRecDepth 100000 in
theorem cutting_Value.calls (k : Nat) (a0_0 : Int) (a0_1 : Int) (a0_2 : Int) (A0_3 : Option Addr) (c0_3 : Nat) (l0_3 : List Int) (A0_4 : Option Addr) (c0_4 : Nat) (l0_4 : List (List Int)) (A0_5 : Option Addr) (c0_5 : Nat) (l0_5 : List Int) (A0_6 : Option Addr) (c0_6 : Nat) (l0_6 : List Int) (A1 : Option Addr) (c1 : Nat) (l1 : List (S69)) (r1 : Int) (r2 : Int) (w : World) (hr0_3 : Kd.C (Kd.int .i64) w A0_3 l0_3.length l0_3) (hc0_3 : l0_3.length ≤ c0_3) (hr0_4 : Kd.C (Kd.slice 3 (Kd.int .i64)) w A0_4 l0_4.length l0_4) (hc0_4 : l0_4.length ≤ c0_4) (hr0_5 : Kd.C (Kd.int .i64) w A0_5 l0_5.length l0_5) (hc0_5 : l0_5.length ≤ c0_5) (hr0_6 : Kd.C (Kd.int .i64) w A0_6 l0_6.length l0_6) (hc0_6 : l0_6.length ≤ c0_6) (hr1 : Kd.C k69 w A1 l1.length l1) (hc1 : l1.length ≤ c1) (h : cutting_Value.f k a0_0 a0_1 a0_2 l0_3 l0_4 l0_5 l0_6 l1 = some (r1, r2)) :
    Calls Tryd.prog 23 #[.agg #[.int .i64 a0_0, .int .i64 a0_1, .int .i64 a0_2, .slice A0_3 l0_3.length c0_3, .slice A0_4 l0_4.length c0_4, .slice A0_5 l0_5.length c0_5, .slice A0_6 l0_6.length c0_6], .slice A1 l1.length c1] w fun e w' => e = .returned (.tuple #[.int .i64 r1, .int .i64 r2]) ∧ Below w.heap.size w w' := by
 have hu25 := Tryd.underlying25
 have hu69 := Tryd.underlying69
 have hu49 := Tryd.underlying49
 have HR0_3 := Aside0.mk hr0_3
 have HC0_3 := Aside0.mk hc0_3
 clear hr0_3 hc0_3
 have HR0_4 := Aside0.mk hr0_4
 have HC0_4 := Aside0.mk hc0_4
 clear hr0_4 hc0_4
 have HR0_5 := Aside0.mk hr0_5
 have HC0_5 := Aside0.mk hc0_5
 clear hr0_5 hc0_5
 have HR0_6 := Aside0.mk hr0_6
 have HC0_6 := Aside0.mk hc0_6
 clear hr0_6 hc0_6
 have HR1 := Aside0.mk hr1
 have HC1 := Aside0.mk hc1
 clear hr1 hc1
 have HB := Aside0.mk (Below.refl w.heap.size w)
 have H : ((cutting_Cuts.f k a0_0 a0_1 a0_2 l0_3 l0_4 l0_5 l0_6 l1).bind fun bt133 => (if bt133.2.2 = 0 then (cutting_Value.l0 k bt133.1 bt133.2.1 0 l1 (l1.length : Int) 0 a0_0 a0_1 a0_2 l0_3 l0_4 l0_5 l0_6) else (some (0, bt133.2.2)))) = some (r1, r2) := h
 clear h
 replace H := Option.bind_eq_some_iff.mp H
 obtain ⟨⟨t133, t136, t139⟩, A30, H⟩ := H
 replace H : (if t139 = 0 then (cutting_Value.l0 k t133 t136 0 l1 (l1.length : Int) 0 a0_0 a0_1 a0_2 l0_3 l0_4 l0_5 l0_6) else (some (0, t139))) = some (r1, r2) := H
 have A3 := Aside0.mk A30
 clear A30
 by_cases c4 : t139 = 0
 rotate_left
 · rw [if_neg c4] at H
   have c4b0 : (t139 == 0) = false := beq_eq_false_iff_ne.mpr c4
   have c4b1 : (t139 != 0) = true := bne_iff_ne.mpr c4
   simp only [Option.some.injEq, Prod.mk.injEq] at H
   obtain ⟨rfl, rfl⟩ := H
   go_enter Tryd.func23, Tryd.ntmps23
   go_wp2_with (first | ((with_reducible refine gate_dst (N := 2) rfl ?_); refine bx1 (N := 2) #[.int .i64 a0_0, .int .i64 a0_1, .int .i64 a0_2, .slice A0_3 l0_3.length c0_3, .slice A0_4 l0_4.length c0_4, .slice A0_5 l0_5.length c0_5, .slice A0_6 l0_6.length c0_6] 25 ?_; intro gb132 hg w49 hbox hb; have n0_ := Aside0.mk (below_step bl hb); have n1_ := Aside0.mk (hbox); have n2_ := Aside0.mk ((gs1 : w.heap.size ≤ gb132)); have n3_ := Aside0.mk ((gs1 : w.heap.size ≤ gb132)); clear HB; have HB := n0_; have BK132 := n1_; have GW132 := n2_; have GE132 := n3_; clear n0_ n1_ n2_ n3_; clear hb hbox hg; have hcz50 := blk_cells BK132.out; have hfz50 := blk_frozens BK132.out) | (go_at_call 21; (with_reducible refine (cutting_Cuts.calls k a0_0 a0_1 a0_2 _ _ l0_3 _ _ l0_4 _ _ l0_5 _ _ l0_6 _ _ l1 t133 t136 t139 _ ?side1 ?side2 ?side3 ?side4 ?side5 ?side6 ?side7 ?side8 ?side9 ?side10 A3.out).mono ?_); (case side1 => exact cu1 (Kd.C_below HR0_3.out HB.out)); (case side2 => exact HC0_3.out); (case side3 => exact cu1 (Kd.C_below HR0_4.out HB.out)); (case side4 => exact HC0_4.out); (case side5 => exact cu1 (Kd.C_below HR0_5.out HB.out)); (case side6 => exact HC0_5.out); (case side7 => exact cu1 (Kd.C_below HR0_6.out HB.out)); (case side8 => exact HC0_6.out); (case side9 => exact cu1 (Kd.C_below HR1.out HB.out)); (case side10 => exact HC1.out); rintro e w51 ⟨v134, v137, rfl, ho0, ho1, hb⟩; have n0_ := Aside0.mk (Kd.R_lower ho0 (below_size bl)); have n1_ := Aside0.mk (Kd.R_lower ho1 (below_size bl)); have n2_ := Aside0.mk (blk_below (bu BK132.out) hb); have n3_ := Aside0.mk (below_step bl hb); clear BK132; clear HB; have HO135 := n0_; have HO138 := n1_; have BK132 := n2_; have HB := n3_; clear n0_ n1_ n2_ n3_; (try clear hb); (try clear hb2); (try clear hk); (try clear hi); (try clear ho0); (try clear ho1)))
   repeat (go_quiet (first | ((with_reducible refine gate_dst (N := 2) rfl ?_); refine bx1 (N := 2) #[.int .i64 a0_0, .int .i64 a0_1, .int .i64 a0_2, .slice A0_3 l0_3.length c0_3, .slice A0_4 l0_4.length c0_4, .slice A0_5 l0_5.length c0_5, .slice A0_6 l0_6.length c0_6] 25 ?_; intro gb132 hg w49 hbox hb; have n0_ := Aside0.mk (below_step bl hb); have n1_ := Aside0.mk (hbox); have n2_ := Aside0.mk ((gs1 : w.heap.size ≤ gb132)); have n3_ := Aside0.mk ((gs1 : w.heap.size ≤ gb132)); clear HB; have HB := n0_; have BK132 := n1_; have GW132 := n2_; have GE132 := n3_; clear n0_ n1_ n2_ n3_; clear hb hbox hg; have hcz50 := blk_cells BK132.out; have hfz50 := blk_frozens BK132.out) | (go_at_call 21; (with_reducible refine (cutting_Cuts.calls k a0_0 a0_1 a0_2 _ _ l0_3 _ _ l0_4 _ _ l0_5 _ _ l0_6 _ _ l1 t133 t136 t139 _ ?side1 ?side2 ?side3 ?side4 ?side5 ?side6 ?side7 ?side8 ?side9 ?side10 A3.out).mono ?_); (case side1 => exact cu1 (Kd.C_below HR0_3.out HB.out)); (case side2 => exact HC0_3.out); (case side3 => exact cu1 (Kd.C_below HR0_4.out HB.out)); (case side4 => exact HC0_4.out); (case side5 => exact cu1 (Kd.C_below HR0_5.out HB.out)); (case side6 => exact HC0_5.out); (case side7 => exact cu1 (Kd.C_below HR0_6.out HB.out)); (case side8 => exact HC0_6.out); (case side9 => exact cu1 (Kd.C_below HR1.out HB.out)); (case side10 => exact HC1.out); rintro e w51 ⟨v134, v137, rfl, ho0, ho1, hb⟩; have n0_ := Aside0.mk (Kd.R_lower ho0 (below_size bl)); have n1_ := Aside0.mk (Kd.R_lower ho1 (below_size bl)); have n2_ := Aside0.mk (blk_below (bu BK132.out) hb); have n3_ := Aside0.mk (below_step bl hb); clear BK132; clear HB; have HO135 := n0_; have HO138 := n1_; have BK132 := n2_; have HB := n3_; clear n0_ n1_ n2_ n3_; (try clear hb); (try clear hb2); (try clear hk); (try clear hi); (try clear ho0); (try clear ho1))); try go_wp2_with (first | ((with_reducible refine gate_dst (N := 2) rfl ?_); refine bx1 (N := 2) #[.int .i64 a0_0, .int .i64 a0_1, .int .i64 a0_2, .slice A0_3 l0_3.length c0_3, .slice A0_4 l0_4.length c0_4, .slice A0_5 l0_5.length c0_5, .slice A0_6 l0_6.length c0_6] 25 ?_; intro gb132 hg w49 hbox hb; have n0_ := Aside0.mk (below_step bl hb); have n1_ := Aside0.mk (hbox); have n2_ := Aside0.mk ((gs1 : w.heap.size ≤ gb132)); have n3_ := Aside0.mk ((gs1 : w.heap.size ≤ gb132)); clear HB; have HB := n0_; have BK132 := n1_; have GW132 := n2_; have GE132 := n3_; clear n0_ n1_ n2_ n3_; clear hb hbox hg; have hcz50 := blk_cells BK132.out; have hfz50 := blk_frozens BK132.out) | (go_at_call 21; (with_reducible refine (cutting_Cuts.calls k a0_0 a0_1 a0_2 _ _ l0_3 _ _ l0_4 _ _ l0_5 _ _ l0_6 _ _ l1 t133 t136 t139 _ ?side1 ?side2 ?side3 ?side4 ?side5 ?side6 ?side7 ?side8 ?side9 ?side10 A3.out).mono ?_); (case side1 => exact cu1 (Kd.C_below HR0_3.out HB.out)); (case side2 => exact HC0_3.out); (case side3 => exact cu1 (Kd.C_below HR0_4.out HB.out)); (case side4 => exact HC0_4.out); (case side5 => exact cu1 (Kd.C_below HR0_5.out HB.out)); (case side6 => exact HC0_5.out); (case side7 => exact cu1 (Kd.C_below HR0_6.out HB.out)); (case side8 => exact HC0_6.out); (case side9 => exact cu1 (Kd.C_below HR1.out HB.out)); (case side10 => exact HC1.out); rintro e w51 ⟨v134, v137, rfl, ho0, ho1, hb⟩; have n0_ := Aside0.mk (Kd.R_lower ho0 (below_size bl)); have n1_ := Aside0.mk (Kd.R_lower ho1 (below_size bl)); have n2_ := Aside0.mk (blk_below (bu BK132.out) hb); have n3_ := Aside0.mk (below_step bl hb); clear BK132; clear HB; have HO135 := n0_; have HO138 := n1_; have BK132 := n2_; have HB := n3_; clear n0_ n1_ n2_ n3_; (try clear hb); (try clear hb2); (try clear hk); (try clear hi); (try clear ho0); (try clear ho1))))
   go_ret2
   exact ⟨fe1, bl⟩
 rw [if_pos c4] at H
 have c4b0 : (t139 == 0) = true := beq_iff_eq.mpr c4
 have c4b1 : (t139 != 0) = false := bne_eq_false_iff_eq.mpr c4
 clear c4
 have H' := Aside0.mk H
 clear H
 go_enter Tryd.func23, Tryd.ntmps23
 go_wp2_with (first | ((with_reducible refine gate_dst (N := 2) rfl ?_); refine bx1 (N := 2) #[.int .i64 a0_0, .int .i64 a0_1, .int .i64 a0_2, .slice A0_3 l0_3.length c0_3, .slice A0_4 l0_4.length c0_4, .slice A0_5 l0_5.length c0_5, .slice A0_6 l0_6.length c0_6] 25 ?_; intro gb132 hg w5 hbox hb; have n0_ := Aside0.mk (below_step bl hb); have n1_ := Aside0.mk (hbox); have n2_ := Aside0.mk ((gs1 : w.heap.size ≤ gb132)); have n3_ := Aside0.mk ((gs1 : w.heap.size ≤ gb132)); clear HB; have HB := n0_; have BK132 := n1_; have GW132 := n2_; have GE132 := n3_; clear n0_ n1_ n2_ n3_; clear hb hbox hg; have hcz6 := blk_cells BK132.out; have hfz6 := blk_frozens BK132.out) | (go_at_call 21; (with_reducible refine (cutting_Cuts.calls k a0_0 a0_1 a0_2 _ _ l0_3 _ _ l0_4 _ _ l0_5 _ _ l0_6 _ _ l1 t133 t136 t139 _ ?side1 ?side2 ?side3 ?side4 ?side5 ?side6 ?side7 ?side8 ?side9 ?side10 A3.out).mono ?_); (case side1 => exact cu1 (Kd.C_below HR0_3.out HB.out)); (case side2 => exact HC0_3.out); (case side3 => exact cu1 (Kd.C_below HR0_4.out HB.out)); (case side4 => exact HC0_4.out); (case side5 => exact cu1 (Kd.C_below HR0_5.out HB.out)); (case side6 => exact HC0_5.out); (case side7 => exact cu1 (Kd.C_below HR0_6.out HB.out)); (case side8 => exact HC0_6.out); (case side9 => exact cu1 (Kd.C_below HR1.out HB.out)); (case side10 => exact HC1.out); rintro e w7 ⟨v134, v137, rfl, ho0, ho1, hb⟩; have n0_ := Aside0.mk (Kd.R_lower ho0 (below_size bl)); have n1_ := Aside0.mk (Kd.R_lower ho1 (below_size bl)); have n2_ := Aside0.mk (blk_below (bu BK132.out) hb); have n3_ := Aside0.mk (below_step bl hb); clear BK132; clear HB; have HO135 := n0_; have HO138 := n1_; have BK132 := n2_; have HB := n3_; clear n0_ n1_ n2_ n3_; (try clear hb); (try clear hb2); (try clear hk); (try clear hi); (try clear ho0); (try clear ho1)))
 repeat (go_quiet (first | ((with_reducible refine gate_dst (N := 2) rfl ?_); refine bx1 (N := 2) #[.int .i64 a0_0, .int .i64 a0_1, .int .i64 a0_2, .slice A0_3 l0_3.length c0_3, .slice A0_4 l0_4.length c0_4, .slice A0_5 l0_5.length c0_5, .slice A0_6 l0_6.length c0_6] 25 ?_; intro gb132 hg w5 hbox hb; have n0_ := Aside0.mk (below_step bl hb); have n1_ := Aside0.mk (hbox); have n2_ := Aside0.mk ((gs1 : w.heap.size ≤ gb132)); have n3_ := Aside0.mk ((gs1 : w.heap.size ≤ gb132)); clear HB; have HB := n0_; have BK132 := n1_; have GW132 := n2_; have GE132 := n3_; clear n0_ n1_ n2_ n3_; clear hb hbox hg; have hcz6 := blk_cells BK132.out; have hfz6 := blk_frozens BK132.out) | (go_at_call 21; (with_reducible refine (cutting_Cuts.calls k a0_0 a0_1 a0_2 _ _ l0_3 _ _ l0_4 _ _ l0_5 _ _ l0_6 _ _ l1 t133 t136 t139 _ ?side1 ?side2 ?side3 ?side4 ?side5 ?side6 ?side7 ?side8 ?side9 ?side10 A3.out).mono ?_); (case side1 => exact cu1 (Kd.C_below HR0_3.out HB.out)); (case side2 => exact HC0_3.out); (case side3 => exact cu1 (Kd.C_below HR0_4.out HB.out)); (case side4 => exact HC0_4.out); (case side5 => exact cu1 (Kd.C_below HR0_5.out HB.out)); (case side6 => exact HC0_5.out); (case side7 => exact cu1 (Kd.C_below HR0_6.out HB.out)); (case side8 => exact HC0_6.out); (case side9 => exact cu1 (Kd.C_below HR1.out HB.out)); (case side10 => exact HC1.out); rintro e w7 ⟨v134, v137, rfl, ho0, ho1, hb⟩; have n0_ := Aside0.mk (Kd.R_lower ho0 (below_size bl)); have n1_ := Aside0.mk (Kd.R_lower ho1 (below_size bl)); have n2_ := Aside0.mk (blk_below (bu BK132.out) hb); have n3_ := Aside0.mk (below_step bl hb); clear BK132; clear HB; have HO135 := n0_; have HO138 := n1_; have BK132 := n2_; have HB := n3_; clear n0_ n1_ n2_ n3_; (try clear hb); (try clear hb2); (try clear hk); (try clear hi); (try clear ho0); (try clear ho1))); try go_wp2_with (first | ((with_reducible refine gate_dst (N := 2) rfl ?_); refine bx1 (N := 2) #[.int .i64 a0_0, .int .i64 a0_1, .int .i64 a0_2, .slice A0_3 l0_3.length c0_3, .slice A0_4 l0_4.length c0_4, .slice A0_5 l0_5.length c0_5, .slice A0_6 l0_6.length c0_6] 25 ?_; intro gb132 hg w5 hbox hb; have n0_ := Aside0.mk (below_step bl hb); have n1_ := Aside0.mk (hbox); have n2_ := Aside0.mk ((gs1 : w.heap.size ≤ gb132)); have n3_ := Aside0.mk ((gs1 : w.heap.size ≤ gb132)); clear HB; have HB := n0_; have BK132 := n1_; have GW132 := n2_; have GE132 := n3_; clear n0_ n1_ n2_ n3_; clear hb hbox hg; have hcz6 := blk_cells BK132.out; have hfz6 := blk_frozens BK132.out) | (go_at_call 21; (with_reducible refine (cutting_Cuts.calls k a0_0 a0_1 a0_2 _ _ l0_3 _ _ l0_4 _ _ l0_5 _ _ l0_6 _ _ l1 t133 t136 t139 _ ?side1 ?side2 ?side3 ?side4 ?side5 ?side6 ?side7 ?side8 ?side9 ?side10 A3.out).mono ?_); (case side1 => exact cu1 (Kd.C_below HR0_3.out HB.out)); (case side2 => exact HC0_3.out); (case side3 => exact cu1 (Kd.C_below HR0_4.out HB.out)); (case side4 => exact HC0_4.out); (case side5 => exact cu1 (Kd.C_below HR0_5.out HB.out)); (case side6 => exact HC0_5.out); (case side7 => exact cu1 (Kd.C_below HR0_6.out HB.out)); (case side8 => exact HC0_6.out); (case side9 => exact cu1 (Kd.C_below HR1.out HB.out)); (case side10 => exact HC1.out); rintro e w7 ⟨v134, v137, rfl, ho0, ho1, hb⟩; have n0_ := Aside0.mk (Kd.R_lower ho0 (below_size bl)); have n1_ := Aside0.mk (Kd.R_lower ho1 (below_size bl)); have n2_ := Aside0.mk (blk_below (bu BK132.out) hb); have n3_ := Aside0.mk (below_step bl hb); clear BK132; clear HB; have HO135 := n0_; have HO138 := n1_; have BK132 := n2_; have HB := n3_; clear n0_ n1_ n2_ n3_; (try clear hb); (try clear hb2); (try clear hk); (try clear hi); (try clear ho0); (try clear ho1))))
 go_loopg [9, 30] k (fun kq v9 v30 w' => ∃ (x9_1 : Int) (x30_1 : Int), v9 = .int .i64 x9_1 ∧ v30 = .int .i64 x30_1 ∧ Aside0 (cutting_Value.l0 kq t133 t136 x9_1 l1 (l1.length : Int) x30_1 a0_0 a0_1 a0_2 l0_3 l0_4 l0_5 l0_6 = some (r1, r2)) ∧ Aside0 (kq ≤ k) ∧ Aside0 (Kd.R k49 49 w' w.heap.size (fun k_ => some k_ ≠ (v137 : Value).ownBlock) v134 t133) ∧ Aside0 (Kd.R k49 49 w' w.heap.size (fun k_ => some k_ ≠ (v134 : Value).ownBlock) v137 t136) ∧ Aside0 (w'.heap[gb132]? = some (.cells #[.int .i64 a0_0, .int .i64 a0_1, .int .i64 a0_2, (.slice A0_3 l0_3.length c0_3), (.slice A0_4 l0_4.length c0_4), (.slice A0_5 l0_5.length c0_5), (.slice A0_6 l0_6.length c0_6)] 25 (0, 0))) ∧ Aside0 (Below w.heap.size w w'))
 case atStart => exact ⟨(0), (0), rs1, rs1, H', ⟨Nat.le_refl _⟩, ⟨by (with_reducible repeat (first | apply Kd.R_alloc | apply Kd.R_drewN | apply Kd.R_drew)); exact HO135.out⟩, ⟨by (with_reducible repeat (first | apply Kd.R_alloc | apply Kd.R_drewN | apply Kd.R_drew)); exact HO138.out⟩, ⟨bu BK132.out⟩, ⟨bl⟩⟩
 clear H'; (try clear c1); (try clear c2); (try clear p2); (try clear c4); (try clear c4b0); (try clear c4b1); (try clear hcz6); (try clear hfz6)
 obtain ⟨x9_1, x30_1, rfl, rfl, HA, HK1, HO_6, HO_7, BK132, HB⟩ := hrel
 rcases gk with _ | k1
 · exact absurd HA.out (by simp [cutting_Value.l0])
 have H := HA.out
 clear HA
 simp only [cutting_Value.l0] at H
 by_cases c8 : x30_1 < (l1.length : Int)
 · rw [if_pos c8] at H
   have c8b0 : decide (x30_1 < (l1.length : Int)) = true := decide_eq_true c8
   clear c8
   obtain ⟨c9, H⟩ := gd1 H
   have c9b0 : decide (0 ≤ x30_1) = true := decide_eq_true c9
   clear c9
   obtain ⟨c10, H⟩ := gd1 H
   have c10b0 : decide (x30_1 < (l1.length : Int)) = true := decide_eq_true c10
   clear c10
   obtain ⟨c11, H⟩ := gd1 H
   have c11b0 : decide (0 ≤ ((rd_T69 l1 x30_1).f0)) = true := decide_eq_true c11
   clear c11
   obtain ⟨c12, H⟩ := gd1 H
   have c12b0 : decide (((rd_T69 l1 x30_1).f0) < (l0_4.length : Int)) = true := decide_eq_true c12
   clear c12
   obtain ⟨c13, H⟩ := gd1 H
   have c13b0 : decide (0 ≤ ((rd_T69 l1 x30_1).f1)) = true := decide_eq_true c13
   clear c13
   obtain ⟨c14, H⟩ := gd1 H
   have c14b0 : decide (((rd_T69 l1 x30_1).f1) < ((rd_L1 l0_4 ((rd_T69 l1 x30_1).f0)).length : Int)) = true := decide_eq_true c14
   clear c14
   have H' := Aside0.mk H
   clear H
   have p140 : 0 ≤ (x30_1 : Int) := da1
   have q140 : x30_1 < (l1.length : Int) := da1
   obtain ⟨ad140, e140, hx140_0, hx140_1⟩ := at_T69 HR1.out x30_1 p140 q140
   cases e140
   (try replace hx140_0 := (HB.out.cell (World.block_lt_of_cell? w _ hx140_0)).trans hx140_0)
   (try replace hx140_1 := (HB.out.cell (World.block_lt_of_cell? w _ hx140_1)).trans hx140_1)
   replace p140 := eq_true p140
   replace q140 := eq_true q140
   go_wp2_with (first | ((with_reducible refine gate_dst (N := 11) rfl ?_); refine bx1 (N := 11) #[.int .i64 0, .int .i64 0] 69 ?_; intro gb141 hg w15 hbox hb; have n0_ := Aside0.mk (Kd.R_below (ru HO_6.out) hb); have n1_ := Aside0.mk (Kd.R_below (ru HO_7.out) hb); have n2_ := Aside0.mk (blk_below (bu BK132.out) hb); have n3_ := Aside0.mk (below_step bl hb); have n4_ := Aside0.mk (hbox); have n5_ := Aside0.mk ((gs1 : w.heap.size ≤ gb141)); have n6_ := Aside0.mk ((gs1 : w.heap.size ≤ gb141)); have n7_ := Aside0.mk ((nl1 BK132 : gb132 ≠ gb141)); have n8_ := Aside0.mk ((ng1 BK132 : gb141 ≠ gb132)); clear HO_6; clear HO_7; clear BK132; clear HB; have HO_6 := n0_; have HO_7 := n1_; have BK132 := n2_; have HB := n3_; have BK141 := n4_; have GW141 := n5_; have GE141 := n6_; have NB132_141 := n7_; have NB141_132 := n8_; clear n0_ n1_ n2_ n3_ n4_ n5_ n6_ n7_ n8_; clear hb hbox hg; have hnb16 := NB141_132.out; have hnc16 := NB132_141.out; have hcz17 := blk_cells BK141.out; have hfz17 := blk_frozens BK141.out; have hcz18 := blk_cells BK132.out; have hfz18 := blk_frozens BK132.out; have p142 : 0 ≤ (((rd_T69 l1 x30_1).f0) : Int) := da1; have q142 : ((rd_T69 l1 x30_1).f0) < (l0_4.length : Int) := da1; obtain ⟨ad142, A142_0, c142_0, e142, hx142_0, hl142_0, hi142_0⟩ := at_L1 HR0_4.out ((rd_T69 l1 x30_1).f0) p142 q142; cases e142; have hn142_0 : ad142.block ≠ gb141 := Nat.ne_of_lt (Nat.lt_of_lt_of_le (by have := World.block_lt_of_cell? _ _ hx142_0; first | rwa [add_block] at this | exact this) GW141.out); have hn142_1 : ad142.block ≠ gb141 := Nat.ne_of_lt (Nat.lt_of_lt_of_le (by have := World.block_lt_of_cell? _ _ hx142_0; first | rwa [add_block] at this | exact this) GW141.out); replace hx142_0 := (HB.out.cell (World.block_lt_of_cell? w _ hx142_0)).trans hx142_0; have HR142_0 := Aside0.mk hi142_0; have HC142_0 := Aside0.mk hl142_0; clear hi142_0 hl142_0; replace hx142_0 := (cell_far (p := ⟨gb141, 0, none⟩) (ab1 hn142_0) (.int .i64 ((rd_T69 l1 x30_1).f0))).trans hx142_0; replace hx142_0 := (cell_far (p := ⟨gb141, 1, none⟩) (ab1 hn142_1) (.int .i64 ((rd_T69 l1 x30_1).f1))).trans hx142_0; (try have hy142_0 := fun (n_ : Nat) => (show ((((w15.drewN n_).setCell ⟨gb141, 0, none⟩ (.int .i64 ((rd_T69 l1 x30_1).f0))).setCell ⟨gb141, 1, none⟩ (.int .i64 ((rd_T69 l1 x30_1).f1)))).cell? _ = some _ from hx142_0)); clear hn142_0; clear hn142_1; replace p142 := eq_true p142; replace q142 := eq_true q142; have p143 : 0 ≤ (((rd_T69 l1 x30_1).f1) : Int) := da1; have q143 : ((rd_T69 l1 x30_1).f1) < ((rd_L1 l0_4 ((rd_T69 l1 x30_1).f0)).length : Int) := da1; obtain ⟨ad143, e143, hx143_0⟩ := Kd.at_int HR142_0.out ((rd_T69 l1 x30_1).f1) p143 q143; cases e143; have hn143_0 : ad143.block ≠ gb141 := Nat.ne_of_lt (Nat.lt_of_lt_of_le (by have := World.block_lt_of_cell? _ _ hx143_0; first | rwa [add_block] at this | exact this) GW141.out); have hn143_1 : ad143.block ≠ gb141 := Nat.ne_of_lt (Nat.lt_of_lt_of_le (by have := World.block_lt_of_cell? _ _ hx143_0; first | rwa [add_block] at this | exact this) GW141.out); replace hx143_0 := (HB.out.cell (World.block_lt_of_cell? w _ hx143_0)).trans hx143_0; replace hx143_0 := (cell_far (p := ⟨gb141, 0, none⟩) (ab1 hn143_0) (.int .i64 ((rd_T69 l1 x30_1).f0))).trans hx143_0; replace hx143_0 := (cell_far (p := ⟨gb141, 1, none⟩) (ab1 hn143_1) (.int .i64 ((rd_T69 l1 x30_1).f1))).trans hx143_0; (try have hy143_0 := fun (n_ : Nat) => (show ((((w15.drewN n_).setCell ⟨gb141, 0, none⟩ (.int .i64 ((rd_T69 l1 x30_1).f0))).setCell ⟨gb141, 1, none⟩ (.int .i64 ((rd_T69 l1 x30_1).f1)))).cell? _ = some _ from hx143_0)); clear hn143_0; clear hn143_1; replace p143 := eq_true p143; replace q143 := eq_true q143))
   repeat (go_quiet (first | ((with_reducible refine gate_dst (N := 11) rfl ?_); refine bx1 (N := 11) #[.int .i64 0, .int .i64 0] 69 ?_; intro gb141 hg w15 hbox hb; have n0_ := Aside0.mk (Kd.R_below (ru HO_6.out) hb); have n1_ := Aside0.mk (Kd.R_below (ru HO_7.out) hb); have n2_ := Aside0.mk (blk_below (bu BK132.out) hb); have n3_ := Aside0.mk (below_step bl hb); have n4_ := Aside0.mk (hbox); have n5_ := Aside0.mk ((gs1 : w.heap.size ≤ gb141)); have n6_ := Aside0.mk ((gs1 : w.heap.size ≤ gb141)); have n7_ := Aside0.mk ((nl1 BK132 : gb132 ≠ gb141)); have n8_ := Aside0.mk ((ng1 BK132 : gb141 ≠ gb132)); clear HO_6; clear HO_7; clear BK132; clear HB; have HO_6 := n0_; have HO_7 := n1_; have BK132 := n2_; have HB := n3_; have BK141 := n4_; have GW141 := n5_; have GE141 := n6_; have NB132_141 := n7_; have NB141_132 := n8_; clear n0_ n1_ n2_ n3_ n4_ n5_ n6_ n7_ n8_; clear hb hbox hg; have hnb16 := NB141_132.out; have hnc16 := NB132_141.out; have hcz17 := blk_cells BK141.out; have hfz17 := blk_frozens BK141.out; have hcz18 := blk_cells BK132.out; have hfz18 := blk_frozens BK132.out; have p142 : 0 ≤ (((rd_T69 l1 x30_1).f0) : Int) := da1; have q142 : ((rd_T69 l1 x30_1).f0) < (l0_4.length : Int) := da1; obtain ⟨ad142, A142_0, c142_0, e142, hx142_0, hl142_0, hi142_0⟩ := at_L1 HR0_4.out ((rd_T69 l1 x30_1).f0) p142 q142; cases e142; have hn142_0 : ad142.block ≠ gb141 := Nat.ne_of_lt (Nat.lt_of_lt_of_le (by have := World.block_lt_of_cell? _ _ hx142_0; first | rwa [add_block] at this | exact this) GW141.out); have hn142_1 : ad142.block ≠ gb141 := Nat.ne_of_lt (Nat.lt_of_lt_of_le (by have := World.block_lt_of_cell? _ _ hx142_0; first | rwa [add_block] at this | exact this) GW141.out); replace hx142_0 := (HB.out.cell (World.block_lt_of_cell? w _ hx142_0)).trans hx142_0; have HR142_0 := Aside0.mk hi142_0; have HC142_0 := Aside0.mk hl142_0; clear hi142_0 hl142_0; replace hx142_0 := (cell_far (p := ⟨gb141, 0, none⟩) (ab1 hn142_0) (.int .i64 ((rd_T69 l1 x30_1).f0))).trans hx142_0; replace hx142_0 := (cell_far (p := ⟨gb141, 1, none⟩) (ab1 hn142_1) (.int .i64 ((rd_T69 l1 x30_1).f1))).trans hx142_0; (try have hy142_0 := fun (n_ : Nat) => (show ((((w15.drewN n_).setCell ⟨gb141, 0, none⟩ (.int .i64 ((rd_T69 l1 x30_1).f0))).setCell ⟨gb141, 1, none⟩ (.int .i64 ((rd_T69 l1 x30_1).f1)))).cell? _ = some _ from hx142_0)); clear hn142_0; clear hn142_1; replace p142 := eq_true p142; replace q142 := eq_true q142; have p143 : 0 ≤ (((rd_T69 l1 x30_1).f1) : Int) := da1; have q143 : ((rd_T69 l1 x30_1).f1) < ((rd_L1 l0_4 ((rd_T69 l1 x30_1).f0)).length : Int) := da1; obtain ⟨ad143, e143, hx143_0⟩ := Kd.at_int HR142_0.out ((rd_T69 l1 x30_1).f1) p143 q143; cases e143; have hn143_0 : ad143.block ≠ gb141 := Nat.ne_of_lt (Nat.lt_of_lt_of_le (by have := World.block_lt_of_cell? _ _ hx143_0; first | rwa [add_block] at this | exact this) GW141.out); have hn143_1 : ad143.block ≠ gb141 := Nat.ne_of_lt (Nat.lt_of_lt_of_le (by have := World.block_lt_of_cell? _ _ hx143_0; first | rwa [add_block] at this | exact this) GW141.out); replace hx143_0 := (HB.out.cell (World.block_lt_of_cell? w _ hx143_0)).trans hx143_0; replace hx143_0 := (cell_far (p := ⟨gb141, 0, none⟩) (ab1 hn143_0) (.int .i64 ((rd_T69 l1 x30_1).f0))).trans hx143_0; replace hx143_0 := (cell_far (p := ⟨gb141, 1, none⟩) (ab1 hn143_1) (.int .i64 ((rd_T69 l1 x30_1).f1))).trans hx143_0; (try have hy143_0 := fun (n_ : Nat) => (show ((((w15.drewN n_).setCell ⟨gb141, 0, none⟩ (.int .i64 ((rd_T69 l1 x30_1).f0))).setCell ⟨gb141, 1, none⟩ (.int .i64 ((rd_T69 l1 x30_1).f1)))).cell? _ = some _ from hx143_0)); clear hn143_0; clear hn143_1; replace p143 := eq_true p143; replace q143 := eq_true q143)); try go_wp2_with (first | ((with_reducible refine gate_dst (N := 11) rfl ?_); refine bx1 (N := 11) #[.int .i64 0, .int .i64 0] 69 ?_; intro gb141 hg w15 hbox hb; have n0_ := Aside0.mk (Kd.R_below (ru HO_6.out) hb); have n1_ := Aside0.mk (Kd.R_below (ru HO_7.out) hb); have n2_ := Aside0.mk (blk_below (bu BK132.out) hb); have n3_ := Aside0.mk (below_step bl hb); have n4_ := Aside0.mk (hbox); have n5_ := Aside0.mk ((gs1 : w.heap.size ≤ gb141)); have n6_ := Aside0.mk ((gs1 : w.heap.size ≤ gb141)); have n7_ := Aside0.mk ((nl1 BK132 : gb132 ≠ gb141)); have n8_ := Aside0.mk ((ng1 BK132 : gb141 ≠ gb132)); clear HO_6; clear HO_7; clear BK132; clear HB; have HO_6 := n0_; have HO_7 := n1_; have BK132 := n2_; have HB := n3_; have BK141 := n4_; have GW141 := n5_; have GE141 := n6_; have NB132_141 := n7_; have NB141_132 := n8_; clear n0_ n1_ n2_ n3_ n4_ n5_ n6_ n7_ n8_; clear hb hbox hg; have hnb16 := NB141_132.out; have hnc16 := NB132_141.out; have hcz17 := blk_cells BK141.out; have hfz17 := blk_frozens BK141.out; have hcz18 := blk_cells BK132.out; have hfz18 := blk_frozens BK132.out; have p142 : 0 ≤ (((rd_T69 l1 x30_1).f0) : Int) := da1; have q142 : ((rd_T69 l1 x30_1).f0) < (l0_4.length : Int) := da1; obtain ⟨ad142, A142_0, c142_0, e142, hx142_0, hl142_0, hi142_0⟩ := at_L1 HR0_4.out ((rd_T69 l1 x30_1).f0) p142 q142; cases e142; have hn142_0 : ad142.block ≠ gb141 := Nat.ne_of_lt (Nat.lt_of_lt_of_le (by have := World.block_lt_of_cell? _ _ hx142_0; first | rwa [add_block] at this | exact this) GW141.out); have hn142_1 : ad142.block ≠ gb141 := Nat.ne_of_lt (Nat.lt_of_lt_of_le (by have := World.block_lt_of_cell? _ _ hx142_0; first | rwa [add_block] at this | exact this) GW141.out); replace hx142_0 := (HB.out.cell (World.block_lt_of_cell? w _ hx142_0)).trans hx142_0; have HR142_0 := Aside0.mk hi142_0; have HC142_0 := Aside0.mk hl142_0; clear hi142_0 hl142_0; replace hx142_0 := (cell_far (p := ⟨gb141, 0, none⟩) (ab1 hn142_0) (.int .i64 ((rd_T69 l1 x30_1).f0))).trans hx142_0; replace hx142_0 := (cell_far (p := ⟨gb141, 1, none⟩) (ab1 hn142_1) (.int .i64 ((rd_T69 l1 x30_1).f1))).trans hx142_0; (try have hy142_0 := fun (n_ : Nat) => (show ((((w15.drewN n_).setCell ⟨gb141, 0, none⟩ (.int .i64 ((rd_T69 l1 x30_1).f0))).setCell ⟨gb141, 1, none⟩ (.int .i64 ((rd_T69 l1 x30_1).f1)))).cell? _ = some _ from hx142_0)); clear hn142_0; clear hn142_1; replace p142 := eq_true p142; replace q142 := eq_true q142; have p143 : 0 ≤ (((rd_T69 l1 x30_1).f1) : Int) := da1; have q143 : ((rd_T69 l1 x30_1).f1) < ((rd_L1 l0_4 ((rd_T69 l1 x30_1).f0)).length : Int) := da1; obtain ⟨ad143, e143, hx143_0⟩ := Kd.at_int HR142_0.out ((rd_T69 l1 x30_1).f1) p143 q143; cases e143; have hn143_0 : ad143.block ≠ gb141 := Nat.ne_of_lt (Nat.lt_of_lt_of_le (by have := World.block_lt_of_cell? _ _ hx143_0; first | rwa [add_block] at this | exact this) GW141.out); have hn143_1 : ad143.block ≠ gb141 := Nat.ne_of_lt (Nat.lt_of_lt_of_le (by have := World.block_lt_of_cell? _ _ hx143_0; first | rwa [add_block] at this | exact this) GW141.out); replace hx143_0 := (HB.out.cell (World.block_lt_of_cell? w _ hx143_0)).trans hx143_0; replace hx143_0 := (cell_far (p := ⟨gb141, 0, none⟩) (ab1 hn143_0) (.int .i64 ((rd_T69 l1 x30_1).f0))).trans hx143_0; replace hx143_0 := (cell_far (p := ⟨gb141, 1, none⟩) (ab1 hn143_1) (.int .i64 ((rd_T69 l1 x30_1).f1))).trans hx143_0; (try have hy143_0 := fun (n_ : Nat) => (show ((((w15.drewN n_).setCell ⟨gb141, 0, none⟩ (.int .i64 ((rd_T69 l1 x30_1).f0))).setCell ⟨gb141, 1, none⟩ (.int .i64 ((rd_T69 l1 x30_1).f1)))).cell? _ = some _ from hx143_0)); clear hn143_0; clear hn143_1; replace p143 := eq_true p143; replace q143 := eq_true q143)))
   go_roundg k1
   case measure => have := HK1.out; omega
   case rel => exact ⟨(wrap64 (x9_1 + (rd (rd_L1 l0_4 ((rd_T69 l1 x30_1).f0)) ((rd_T69 l1 x30_1).f1)))), (wrap64 (x30_1 + 1)), rs1, rs1, H', ⟨by have := HK1.out; omega⟩, ⟨by (with_reducible repeat (first | apply Kd.R_alloc | apply Kd.R_drewN | apply Kd.R_drew)); exact Kd.R_mono (Kd.R_far (p := ⟨gb141, 1, none⟩) (Kd.R_far (p := ⟨gb141, 0, none⟩) (Kd.R_types HO_6.out BK141.out (by decide)) (fun _ hk => hk.2) (.int .i64 ((rd_T69 l1 x30_1).f0))) (fun _ hk => hk.2) (.int .i64 ((rd_T69 l1 x30_1).f1))) (fun _ hk => hk.1)⟩, ⟨by (with_reducible repeat (first | apply Kd.R_alloc | apply Kd.R_drewN | apply Kd.R_drew)); exact Kd.R_mono (Kd.R_far (p := ⟨gb141, 1, none⟩) (Kd.R_far (p := ⟨gb141, 0, none⟩) (Kd.R_types HO_7.out BK141.out (by decide)) (fun _ hk => hk.2) (.int .i64 ((rd_T69 l1 x30_1).f0))) (fun _ hk => hk.2) (.int .i64 ((rd_T69 l1 x30_1).f1))) (fun _ hk => hk.1)⟩, ⟨by (with_reducible repeat (first | refine blk_drewN ?_ _ | refine blk_drew ?_ | refine blk_alloc ?_ _)); refine blk_far ?_ NB132_141.out _; (with_reducible repeat (first | refine blk_drewN ?_ _ | refine blk_drew ?_ | refine blk_alloc ?_ _)); refine blk_far ?_ NB132_141.out _; (with_reducible repeat (first | refine blk_drewN ?_ _ | refine blk_drew ?_ | refine blk_alloc ?_ _)); exact BK132.out⟩, ⟨bl⟩⟩
 rw [if_neg c8] at H
 have c8b0 : decide (x30_1 < (l1.length : Int)) = false := decide_eq_false c8
 clear c8
 have H' := Aside0.mk H
 clear H
 obtain ⟨Ao19, co19, eo19⟩ := Kd.R_slice HO_6.out
 subst eo19
 go_wp2
 repeat (go_quiet (fail); try go_wp2)
 go_loopg [9, 49] k1 (fun kq v9 v49 w' => ∃ (x9_2 : Int) (x49_2 : Int), v9 = .int .i64 x9_2 ∧ v49 = .int .i64 x49_2 ∧ Aside0 (cutting_Value.l1 kq t136 x9_2 t133 (t133.length : Int) x49_2 a0_0 a0_1 a0_2 l0_3 l0_4 l0_5 l0_6 = some (r1, r2)) ∧ Aside0 (kq ≤ k1) ∧ Aside0 (Kd.R k49 49 w' w.heap.size (fun k_ => some k_ ≠ ((.slice Ao19 t133.length co19) : Value).ownBlock) v137 t136) ∧ Aside0 (Kd.R k49 49 w' w.heap.size (fun k_ => some k_ ≠ (v137 : Value).ownBlock) (.slice Ao19 t133.length co19) t133) ∧ Aside0 (w'.heap[gb132]? = some (.cells #[.int .i64 a0_0, .int .i64 a0_1, .int .i64 a0_2, (.slice A0_3 l0_3.length c0_3), (.slice A0_4 l0_4.length c0_4), (.slice A0_5 l0_5.length c0_5), (.slice A0_6 l0_6.length c0_6)] 25 (0, 0))) ∧ Aside0 (Below w.heap.size w w'))
 case atStart => exact ⟨(x9_1), (0), rs1, rs1, H', ⟨Nat.le_refl _⟩, ⟨by (with_reducible repeat (first | apply Kd.R_alloc | apply Kd.R_drewN | apply Kd.R_drew)); exact HO_7.out⟩, ⟨by (with_reducible repeat (first | apply Kd.R_alloc | apply Kd.R_drewN | apply Kd.R_drew)); exact HO_6.out⟩, ⟨bu BK132.out⟩, ⟨bl⟩⟩
 clear H'; (try clear c1); (try clear p1); (try clear q1); (try clear hx1); (try clear c2); (try clear p2); (try clear c4); (try clear c4b0); (try clear c4b1); (try clear p6); (try clear c8); (try clear c8b0); (try clear c9); (try clear c9b0); (try clear c10); (try clear c10b0); (try clear c11); (try clear c11b0); (try clear c12); (try clear c12b0); (try clear c13); (try clear c13b0); (try clear c14); (try clear c14b0); (try clear p14); (try clear q14); (try clear hx14); (try clear c16); (try clear hcz17); (try clear hcz18); (try clear hcz6); (try clear hfz17); (try clear hfz18); (try clear hfz6); (try clear hx140_0); (try clear hx140_1); (try clear hx142_0); (try clear hx143_0); (try clear p140); (try clear p142); (try clear p143); (try clear p2); (try clear q140); (try clear q142); (try clear q143)
 obtain ⟨x9_2, x49_2, rfl, rfl, HA, HK2, HO_7, HO_47, BK132, HB⟩ := hrel
 rcases gk with _ | k2
 · exact absurd HA.out (by simp [cutting_Value.l1])
 have H := HA.out
 clear HA
 simp only [cutting_Value.l1] at H
 by_cases c20 : x49_2 < (t133.length : Int)
 · rw [if_pos c20] at H
   have c20b0 : decide (x49_2 < (t133.length : Int)) = true := decide_eq_true c20
   clear c20
   obtain ⟨c21, H⟩ := gd1 H
   have c21b0 : decide (0 ≤ x49_2) = true := decide_eq_true c21
   clear c21
   obtain ⟨c22, H⟩ := gd1 H
   have c22b0 : decide (x49_2 < (t133.length : Int)) = true := decide_eq_true c22
   clear c22
   have H' := Aside0.mk H
   clear H
   have p144 : 0 ≤ (x49_2 : Int) := da1
   have q144 : x49_2 < (t133.length : Int) := da1
   obtain ⟨ad144, e144, hx144_0, hx144_1⟩ := at_T49 (Kd.R_reads' HO_47.out).2.2 x49_2 p144 q144
   cases e144
   replace p144 := eq_true p144
   replace q144 := eq_true q144
   go_wp2_with (first | ((with_reducible refine gate_dst (N := 13) rfl ?_); refine bx1 (N := 13) #[.int .i64 0, .int .i64 0] 49 ?_; intro gb145 hg w23 hbox hb; have n0_ := Aside0.mk (Kd.R_below (Kd.R_elderB (ru HO_7.out) gb145 (Nat.le_of_eq hg.symm)) hb); have n1_ := Aside0.mk (Kd.R_below (Kd.R_elderB (ru HO_47.out) gb145 (Nat.le_of_eq hg.symm)) hb); have n2_ := Aside0.mk (blk_below (bu BK132.out) hb); have n3_ := Aside0.mk (below_step bl hb); have n4_ := Aside0.mk (hbox); have n5_ := Aside0.mk ((gs1 : w.heap.size ≤ gb145)); have n6_ := Aside0.mk ((gs1 : w.heap.size ≤ gb145)); have n7_ := Aside0.mk ((nl1 BK132 : gb132 ≠ gb145)); have n8_ := Aside0.mk ((ng1 BK132 : gb145 ≠ gb132)); clear HO_7; clear HO_47; clear BK132; clear HB; have HO_7 := n0_; have HO_47 := n1_; have BK132 := n2_; have HB := n3_; have BK145 := n4_; have GW145 := n5_; have GE145 := n6_; have NB132_145 := n7_; have NB145_132 := n8_; clear n0_ n1_ n2_ n3_ n4_ n5_ n6_ n7_ n8_; clear hb hbox hg; have hnb24 := NB145_132.out; have hnc24 := NB132_145.out; have hcz25 := blk_cells BK145.out; have hfz25 := blk_frozens BK145.out))
   repeat (go_quiet (first | ((with_reducible refine gate_dst (N := 13) rfl ?_); refine bx1 (N := 13) #[.int .i64 0, .int .i64 0] 49 ?_; intro gb145 hg w23 hbox hb; have n0_ := Aside0.mk (Kd.R_below (Kd.R_elderB (ru HO_7.out) gb145 (Nat.le_of_eq hg.symm)) hb); have n1_ := Aside0.mk (Kd.R_below (Kd.R_elderB (ru HO_47.out) gb145 (Nat.le_of_eq hg.symm)) hb); have n2_ := Aside0.mk (blk_below (bu BK132.out) hb); have n3_ := Aside0.mk (below_step bl hb); have n4_ := Aside0.mk (hbox); have n5_ := Aside0.mk ((gs1 : w.heap.size ≤ gb145)); have n6_ := Aside0.mk ((gs1 : w.heap.size ≤ gb145)); have n7_ := Aside0.mk ((nl1 BK132 : gb132 ≠ gb145)); have n8_ := Aside0.mk ((ng1 BK132 : gb145 ≠ gb132)); clear HO_7; clear HO_47; clear BK132; clear HB; have HO_7 := n0_; have HO_47 := n1_; have BK132 := n2_; have HB := n3_; have BK145 := n4_; have GW145 := n5_; have GE145 := n6_; have NB132_145 := n7_; have NB145_132 := n8_; clear n0_ n1_ n2_ n3_ n4_ n5_ n6_ n7_ n8_; clear hb hbox hg; have hnb24 := NB145_132.out; have hnc24 := NB132_145.out; have hcz25 := blk_cells BK145.out; have hfz25 := blk_frozens BK145.out)); try go_wp2_with (first | ((with_reducible refine gate_dst (N := 13) rfl ?_); refine bx1 (N := 13) #[.int .i64 0, .int .i64 0] 49 ?_; intro gb145 hg w23 hbox hb; have n0_ := Aside0.mk (Kd.R_below (Kd.R_elderB (ru HO_7.out) gb145 (Nat.le_of_eq hg.symm)) hb); have n1_ := Aside0.mk (Kd.R_below (Kd.R_elderB (ru HO_47.out) gb145 (Nat.le_of_eq hg.symm)) hb); have n2_ := Aside0.mk (blk_below (bu BK132.out) hb); have n3_ := Aside0.mk (below_step bl hb); have n4_ := Aside0.mk (hbox); have n5_ := Aside0.mk ((gs1 : w.heap.size ≤ gb145)); have n6_ := Aside0.mk ((gs1 : w.heap.size ≤ gb145)); have n7_ := Aside0.mk ((nl1 BK132 : gb132 ≠ gb145)); have n8_ := Aside0.mk ((ng1 BK132 : gb145 ≠ gb132)); clear HO_7; clear HO_47; clear BK132; clear HB; have HO_7 := n0_; have HO_47 := n1_; have BK132 := n2_; have HB := n3_; have BK145 := n4_; have GW145 := n5_; have GE145 := n6_; have NB132_145 := n7_; have NB145_132 := n8_; clear n0_ n1_ n2_ n3_ n4_ n5_ n6_ n7_ n8_; clear hb hbox hg; have hnb24 := NB145_132.out; have hnc24 := NB132_145.out; have hcz25 := blk_cells BK145.out; have hfz25 := blk_frozens BK145.out)))
   go_loopg [9, 14] k2 (fun kq v9 v14 w' => ∃ (x9_3 : Int) (x14_3 : Int), v9 = .int .i64 x9_3 ∧ v14 = .int .i64 x14_3 ∧ Aside0 (cutting_Value.l2 kq t136 x9_3 x14_3 t133 (t133.length : Int) x49_2 a0_0 a0_1 a0_2 l0_3 l0_4 l0_5 l0_6 ((rd_T49 t133 x49_2).f0) ((rd_T49 t133 x49_2).f1) = some (r1, r2)) ∧ Aside0 (kq ≤ k2) ∧ Aside0 (Kd.R k49 49 w' w.heap.size (fun k_ => some k_ ≠ ((.slice (some ad144) t133.length co19) : Value).ownBlock ∧ k_ ≠ gb145) v137 t136) ∧ Aside0 (Kd.R k49 49 w' w.heap.size (fun k_ => some k_ ≠ (v137 : Value).ownBlock ∧ k_ ≠ gb145) (.slice (some ad144) t133.length co19) t133) ∧ Aside0 (w'.heap[gb132]? = some (.cells #[.int .i64 a0_0, .int .i64 a0_1, .int .i64 a0_2, (.slice A0_3 l0_3.length c0_3), (.slice A0_4 l0_4.length c0_4), (.slice A0_5 l0_5.length c0_5), (.slice A0_6 l0_6.length c0_6)] 25 (0, 0))) ∧ Aside0 (w'.heap[gb145]? = some (.cells #[.int .i64 ((rd_T49 t133 x49_2).f0), .int .i64 ((rd_T49 t133 x49_2).f1)] 49 (0, 0))) ∧ Aside0 (Below w.heap.size w w'))
   case atStart => exact ⟨(x9_2), ((rd_T49 t133 x49_2).f0), rs1, rs1, H', ⟨Nat.le_refl _⟩, ⟨by (with_reducible repeat (first | apply Kd.R_alloc | apply Kd.R_drewN | apply Kd.R_drew)); exact Kd.R_mono (Kd.R_far (p := ⟨gb145, 1, none⟩) (Kd.R_far (p := ⟨gb145, 0, none⟩) (Kd.R_mono HO_7.out (fun k_ hk => (⟨hk, hk.2⟩ : _ ∧ k_ ≠ gb145))) (fun _ hk => hk.2) (.int .i64 ((rd_T49 t133 x49_2).f0))) (fun _ hk => hk.2) (.int .i64 ((rd_T49 t133 x49_2).f1))) (fun _ hk => ⟨hk.1.1, hk.1.2⟩)⟩, ⟨by (with_reducible repeat (first | apply Kd.R_alloc | apply Kd.R_drewN | apply Kd.R_drew)); exact Kd.R_mono (Kd.R_far (p := ⟨gb145, 1, none⟩) (Kd.R_far (p := ⟨gb145, 0, none⟩) (Kd.R_mono HO_47.out (fun k_ hk => (⟨hk, hk.2⟩ : _ ∧ k_ ≠ gb145))) (fun _ hk => hk.2) (.int .i64 ((rd_T49 t133 x49_2).f0))) (fun _ hk => hk.2) (.int .i64 ((rd_T49 t133 x49_2).f1))) (fun _ hk => ⟨hk.1.1, hk.1.2⟩)⟩, ⟨by (with_reducible repeat (first | refine blk_drewN ?_ _ | refine blk_drew ?_ | refine blk_alloc ?_ _)); refine blk_far ?_ NB132_145.out _; (with_reducible repeat (first | refine blk_drewN ?_ _ | refine blk_drew ?_ | refine blk_alloc ?_ _)); refine blk_far ?_ NB132_145.out _; (with_reducible repeat (first | refine blk_drewN ?_ _ | refine blk_drew ?_ | refine blk_alloc ?_ _)); exact BK132.out⟩, ⟨by (with_reducible repeat (first | refine blk_drewN ?_ _ | refine blk_drew ?_ | refine blk_alloc ?_ _)); refine blk_put (cs := #[.int .i64 ((rd_T49 t133 x49_2).f0), .int .i64 0]) ?_ 1 _ rfl; (with_reducible repeat (first | refine blk_drewN ?_ _ | refine blk_drew ?_ | refine blk_alloc ?_ _)); refine blk_put (cs := #[.int .i64 0, .int .i64 0]) ?_ 0 _ rfl; (with_reducible repeat (first | refine blk_drewN ?_ _ | refine blk_drew ?_ | refine blk_alloc ?_ _)); exact BK145.out⟩, ⟨bl⟩⟩
   clear H'; (try clear c1); (try clear p1); (try clear q1); (try clear hx1); (try clear c2); (try clear p2); (try clear c4); (try clear c4b0); (try clear c4b1); (try clear p6); (try clear c8); (try clear c8b0); (try clear c9); (try clear c9b0); (try clear c10); (try clear c10b0); (try clear c11); (try clear c11b0); (try clear c12); (try clear c12b0); (try clear c13); (try clear c13b0); (try clear c14); (try clear c14b0); (try clear p14); (try clear q14); (try clear hx14); (try clear c16); (try clear c20); (try clear c20b0); (try clear c21); (try clear c21b0); (try clear c22); (try clear c22b0); (try clear c23); (try clear c24); (try clear hcz17); (try clear hcz18); (try clear hcz25); (try clear hcz6); (try clear hfz17); (try clear hfz18); (try clear hfz25); (try clear hfz6); (try clear hx140_0); (try clear hx140_1); (try clear hx142_0); (try clear hx143_0); (try clear hx144_0); (try clear hx144_1); (try clear p1); (try clear p14); (try clear p140); (try clear p142); (try clear p143); (try clear p144); (try clear p2); (try clear p6); (try clear q1); (try clear q14); (try clear q140); (try clear q142); (try clear q143); (try clear q144)
   obtain ⟨x9_3, x14_3, rfl, rfl, HA, HK3, HO_7, HO_47, BK132, BK145, HB⟩ := hrel
   rcases gk with _ | k3
   · exact absurd HA.out (by simp [cutting_Value.l2])
   have H := HA.out
   clear HA
   simp only [cutting_Value.l2] at H
   by_cases c26 : x14_3 < ((rd_T49 t133 x49_2).f1)
   rotate_left
   · rw [if_neg c26] at H
     have c26b0 : decide (x14_3 < ((rd_T49 t133 x49_2).f1)) = false := decide_eq_false c26
     clear c26
     have H' := Aside0.mk H
     clear H
     have hnb32 := NB145_132.out
     have hnc32 := NB132_145.out
     have hcz33_0 : wr.cell? ⟨gb145, 0, none⟩ = some (.int .i64 ((rd_T49 t133 x49_2).f0)) := (blk_cell BK145.out 0).trans rfl
     have hcz33_1 : wr.cell? ⟨gb145, 1, none⟩ = some (.int .i64 ((rd_T49 t133 x49_2).f1)) := (blk_cell BK145.out 1).trans rfl
     have hfz33_0 := blk_frozen BK145.out 0
     have hfz33_1 := blk_frozen BK145.out 1
     go_wp2
     repeat (go_quiet (fail); try go_wp2)
     go_roundg k3
     case measure => have := HK1.out; have := HK2.out; have := HK3.out; omega
     case rel => exact ⟨(x9_3), (wrap64 (x49_2 + 1)), rs1, rs1, H', ⟨by have := HK1.out; have := HK2.out; have := HK3.out; omega⟩, ⟨by (with_reducible repeat (first | apply Kd.R_alloc | apply Kd.R_drewN | apply Kd.R_drew)); exact Kd.R_mono HO_7.out (fun _ hk => hk.1)⟩, ⟨by (with_reducible repeat (first | apply Kd.R_alloc | apply Kd.R_drewN | apply Kd.R_drew)); exact Kd.R_mono HO_47.out (fun _ hk => hk.1)⟩, ⟨bu BK132.out⟩, ⟨bl⟩⟩
   rw [if_pos c26] at H
   have c26b0 : decide (x14_3 < ((rd_T49 t133 x49_2).f1)) = true := decide_eq_true c26
   clear c26
   obtain ⟨c27, H⟩ := gd1 H
   have c27b0 : decide (0 ≤ x14_3) = true := decide_eq_true c27
   clear c27
   obtain ⟨c28, H⟩ := gd1 H
   have c28b0 : decide (x14_3 < (l0_6.length : Int)) = true := decide_eq_true c28
   clear c28
   have H' := Aside0.mk H
   clear H
   have hnb29 := NB145_132.out
   have hnc29 := NB132_145.out
   have hcz30_0 : wr.cell? ⟨gb145, 0, none⟩ = some (.int .i64 ((rd_T49 t133 x49_2).f0)) := (blk_cell BK145.out 0).trans rfl
   have hcz30_1 : wr.cell? ⟨gb145, 1, none⟩ = some (.int .i64 ((rd_T49 t133 x49_2).f1)) := (blk_cell BK145.out 1).trans rfl
   have hfz30_0 := blk_frozen BK145.out 0
   have hfz30_1 := blk_frozen BK145.out 1
   have hcz31 := blk_cells BK132.out
   have hfz31 := blk_frozens BK132.out
   have p146 : 0 ≤ (x14_3 : Int) := da1
   have q146 : x14_3 < (l0_6.length : Int) := da1
   obtain ⟨ad146, e146, hx146_0⟩ := Kd.at_int HR0_6.out x14_3 p146 q146
   cases e146
   (try replace hx146_0 := (HB.out.cell (World.block_lt_of_cell? w _ hx146_0)).trans hx146_0)
   replace p146 := eq_true p146
   replace q146 := eq_true q146
   go_wp2
   repeat (go_quiet (fail); try go_wp2)
   go_roundg k3
   case measure => have := HK1.out; have := HK2.out; have := HK3.out; omega
   case rel => exact ⟨(wrap64 (x9_3 + (rd l0_6 x14_3))), (wrap64 (x14_3 + 1)), rs1, rs1, H', ⟨by have := HK1.out; have := HK2.out; have := HK3.out; omega⟩, ⟨by (with_reducible repeat (first | apply Kd.R_alloc | apply Kd.R_drewN | apply Kd.R_drew)); exact HO_7.out⟩, ⟨by (with_reducible repeat (first | apply Kd.R_alloc | apply Kd.R_drewN | apply Kd.R_drew)); exact HO_47.out⟩, ⟨bu BK132.out⟩, ⟨bu BK145.out⟩, ⟨bl⟩⟩
 rw [if_neg c20] at H
 have c20b0 : decide (x49_2 < (t133.length : Int)) = false := decide_eq_false c20
 clear c20
 have H' := Aside0.mk H
 clear H
 obtain ⟨Ao34, co34, eo34⟩ := Kd.R_slice HO_7.out
 subst eo34
 go_wp2
 repeat (go_quiet (fail); try go_wp2)
 go_loopg [9, 71] k2 (fun kq v9 v71 w' => ∃ (x9_3 : Int) (x71_3 : Int), v9 = .int .i64 x9_3 ∧ v71 = .int .i64 x71_3 ∧ Aside0 (cutting_Value.l3 kq x9_3 t136 (t136.length : Int) x71_3 a0_0 a0_1 a0_2 l0_3 l0_4 l0_5 l0_6 = some (r1, r2)) ∧ Aside0 (kq ≤ k2) ∧ Aside0 (Kd.R k49 49 w' w.heap.size (fun _ => True) (.slice Ao34 t136.length co34) t136) ∧ Aside0 (w'.heap[gb132]? = some (.cells #[.int .i64 a0_0, .int .i64 a0_1, .int .i64 a0_2, (.slice A0_3 l0_3.length c0_3), (.slice A0_4 l0_4.length c0_4), (.slice A0_5 l0_5.length c0_5), (.slice A0_6 l0_6.length c0_6)] 25 (0, 0))) ∧ Aside0 (Below w.heap.size w w'))
 case atStart => exact ⟨(x9_2), (0), rs1, rs1, H', ⟨Nat.le_refl _⟩, ⟨by (with_reducible repeat (first | apply Kd.R_alloc | apply Kd.R_drewN | apply Kd.R_drew)); exact Kd.R_mono HO_7.out (fun _ hk => trivial)⟩, ⟨bu BK132.out⟩, ⟨bl⟩⟩
 clear H'; (try clear c1); (try clear p1); (try clear q1); (try clear hx1); (try clear c2); (try clear p2); (try clear c3); (try clear c4); (try clear c4b0); (try clear c4b1); (try clear p6); (try clear c8); (try clear c8b0); (try clear c9); (try clear c9b0); (try clear c10); (try clear c10b0); (try clear c11); (try clear c11b0); (try clear c12); (try clear c12b0); (try clear c13); (try clear c13b0); (try clear c14); (try clear c14b0); (try clear p14); (try clear q14); (try clear hx14); (try clear c16); (try clear c20); (try clear c20b0); (try clear c21); (try clear c21b0); (try clear c22); (try clear c22b0); (try clear c23); (try clear c24); (try clear c26); (try clear c26b0); (try clear c27); (try clear c27b0); (try clear c28); (try clear c28b0); (try clear c29); (try clear c32); (try clear hcz17); (try clear hcz18); (try clear hcz25); (try clear hcz30); (try clear hcz31); (try clear hcz33); (try clear hcz6); (try clear hfz17); (try clear hfz18); (try clear hfz25); (try clear hfz30); (try clear hfz31); (try clear hfz33); (try clear hfz6); (try clear hx140_0); (try clear hx140_1); (try clear hx142_0); (try clear hx143_0); (try clear hx144_0); (try clear hx144_1); (try clear hx146_0); (try clear p1); (try clear p14); (try clear p140); (try clear p142); (try clear p143); (try clear p144); (try clear p146); (try clear p2); (try clear p6); (try clear q1); (try clear q14); (try clear q140); (try clear q142); (try clear q143); (try clear q144); (try clear q146)
 obtain ⟨x9_3, x71_3, rfl, rfl, HA, HK3, HO_69, BK132, HB⟩ := hrel
 rcases gk with _ | k3
 · exact absurd HA.out (by simp [cutting_Value.l3])
 have H := HA.out
 clear HA
 simp only [cutting_Value.l3] at H
 by_cases c35 : x71_3 < (t136.length : Int)
 rotate_left
 · rw [if_neg c35] at H
   have c35b0 : decide (x71_3 < (t136.length : Int)) = false := decide_eq_false c35
   clear c35
   simp only [Option.some.injEq, Prod.mk.injEq] at H
   obtain ⟨rfl, rfl⟩ := H
   go_wp2
   repeat (go_quiet (fail); try go_wp2)
   go_ret2
   exact ⟨fe1, bl⟩
 rw [if_pos c35] at H
 have c35b0 : decide (x71_3 < (t136.length : Int)) = true := decide_eq_true c35
 clear c35
 obtain ⟨c36, H⟩ := gd1 H
 have c36b0 : decide (0 ≤ x71_3) = true := decide_eq_true c36
 clear c36
 obtain ⟨c37, H⟩ := gd1 H
 have c37b0 : decide (x71_3 < (t136.length : Int)) = true := decide_eq_true c37
 clear c37
 have H' := Aside0.mk H
 clear H
 have p147 : 0 ≤ (x71_3 : Int) := da1
 have q147 : x71_3 < (t136.length : Int) := da1
 obtain ⟨ad147, e147, hx147_0, hx147_1⟩ := at_T49 (Kd.R_reads' HO_69.out).2.2 x71_3 p147 q147
 cases e147
 replace p147 := eq_true p147
 replace q147 := eq_true q147
 go_wp2_with (first | ((with_reducible refine gate_dst (N := 16) rfl ?_); refine bx1 (N := 16) #[.int .i64 0, .int .i64 0] 49 ?_; intro gb148 hg w38 hbox hb; have n0_ := Aside0.mk (Kd.R_below (Kd.R_elderB (ru HO_69.out) gb148 (Nat.le_of_eq hg.symm)) hb); have n1_ := Aside0.mk (blk_below (bu BK132.out) hb); have n2_ := Aside0.mk (below_step bl hb); have n3_ := Aside0.mk (hbox); have n4_ := Aside0.mk ((gs1 : w.heap.size ≤ gb148)); have n5_ := Aside0.mk ((gs1 : w.heap.size ≤ gb148)); have n6_ := Aside0.mk ((nl1 BK132 : gb132 ≠ gb148)); have n7_ := Aside0.mk ((ng1 BK132 : gb148 ≠ gb132)); clear HO_69; clear BK132; clear HB; have HO_69 := n0_; have BK132 := n1_; have HB := n2_; have BK148 := n3_; have GW148 := n4_; have GE148 := n5_; have NB132_148 := n6_; have NB148_132 := n7_; clear n0_ n1_ n2_ n3_ n4_ n5_ n6_ n7_; clear hb hbox hg; have hnb39 := NB148_132.out; have hnc39 := NB132_148.out; have hcz40 := blk_cells BK148.out; have hfz40 := blk_frozens BK148.out))
 repeat (go_quiet (first | ((with_reducible refine gate_dst (N := 16) rfl ?_); refine bx1 (N := 16) #[.int .i64 0, .int .i64 0] 49 ?_; intro gb148 hg w38 hbox hb; have n0_ := Aside0.mk (Kd.R_below (Kd.R_elderB (ru HO_69.out) gb148 (Nat.le_of_eq hg.symm)) hb); have n1_ := Aside0.mk (blk_below (bu BK132.out) hb); have n2_ := Aside0.mk (below_step bl hb); have n3_ := Aside0.mk (hbox); have n4_ := Aside0.mk ((gs1 : w.heap.size ≤ gb148)); have n5_ := Aside0.mk ((gs1 : w.heap.size ≤ gb148)); have n6_ := Aside0.mk ((nl1 BK132 : gb132 ≠ gb148)); have n7_ := Aside0.mk ((ng1 BK132 : gb148 ≠ gb132)); clear HO_69; clear BK132; clear HB; have HO_69 := n0_; have BK132 := n1_; have HB := n2_; have BK148 := n3_; have GW148 := n4_; have GE148 := n5_; have NB132_148 := n6_; have NB148_132 := n7_; clear n0_ n1_ n2_ n3_ n4_ n5_ n6_ n7_; clear hb hbox hg; have hnb39 := NB148_132.out; have hnc39 := NB132_148.out; have hcz40 := blk_cells BK148.out; have hfz40 := blk_frozens BK148.out)); try go_wp2_with (first | ((with_reducible refine gate_dst (N := 16) rfl ?_); refine bx1 (N := 16) #[.int .i64 0, .int .i64 0] 49 ?_; intro gb148 hg w38 hbox hb; have n0_ := Aside0.mk (Kd.R_below (Kd.R_elderB (ru HO_69.out) gb148 (Nat.le_of_eq hg.symm)) hb); have n1_ := Aside0.mk (blk_below (bu BK132.out) hb); have n2_ := Aside0.mk (below_step bl hb); have n3_ := Aside0.mk (hbox); have n4_ := Aside0.mk ((gs1 : w.heap.size ≤ gb148)); have n5_ := Aside0.mk ((gs1 : w.heap.size ≤ gb148)); have n6_ := Aside0.mk ((nl1 BK132 : gb132 ≠ gb148)); have n7_ := Aside0.mk ((ng1 BK132 : gb148 ≠ gb132)); clear HO_69; clear BK132; clear HB; have HO_69 := n0_; have BK132 := n1_; have HB := n2_; have BK148 := n3_; have GW148 := n4_; have GE148 := n5_; have NB132_148 := n6_; have NB148_132 := n7_; clear n0_ n1_ n2_ n3_ n4_ n5_ n6_ n7_; clear hb hbox hg; have hnb39 := NB148_132.out; have hnc39 := NB132_148.out; have hcz40 := blk_cells BK148.out; have hfz40 := blk_frozens BK148.out)))
 go_loopg [9, 17] k3 (fun kq v9 v17 w' => ∃ (x9_4 : Int) (x17_4 : Int), v9 = .int .i64 x9_4 ∧ v17 = .int .i64 x17_4 ∧ Aside0 (cutting_Value.l4 kq x9_4 x17_4 t136 (t136.length : Int) x71_3 a0_0 a0_1 a0_2 l0_3 l0_4 l0_5 l0_6 ((rd_T49 t136 x71_3).f0) ((rd_T49 t136 x71_3).f1) = some (r1, r2)) ∧ Aside0 (kq ≤ k3) ∧ Aside0 (Kd.R k49 49 w' w.heap.size (fun k_ => k_ ≠ gb148) (.slice (some ad147) t136.length co34) t136) ∧ Aside0 (w'.heap[gb132]? = some (.cells #[.int .i64 a0_0, .int .i64 a0_1, .int .i64 a0_2, (.slice A0_3 l0_3.length c0_3), (.slice A0_4 l0_4.length c0_4), (.slice A0_5 l0_5.length c0_5), (.slice A0_6 l0_6.length c0_6)] 25 (0, 0))) ∧ Aside0 (w'.heap[gb148]? = some (.cells #[.int .i64 ((rd_T49 t136 x71_3).f0), .int .i64 ((rd_T49 t136 x71_3).f1)] 49 (0, 0))) ∧ Aside0 (Below w.heap.size w w'))
 case atStart => exact ⟨(x9_3), ((rd_T49 t136 x71_3).f0), rs1, rs1, H', ⟨Nat.le_refl _⟩, ⟨by (with_reducible repeat (first | apply Kd.R_alloc | apply Kd.R_drewN | apply Kd.R_drew)); exact Kd.R_mono (Kd.R_far (p := ⟨gb148, 1, none⟩) (Kd.R_far (p := ⟨gb148, 0, none⟩) (Kd.R_mono HO_69.out (fun k_ hk => (⟨hk, hk.2⟩ : _ ∧ k_ ≠ gb148))) (fun _ hk => hk.2) (.int .i64 ((rd_T49 t136 x71_3).f0))) (fun _ hk => hk.2) (.int .i64 ((rd_T49 t136 x71_3).f1))) (fun _ hk => hk.1.2)⟩, ⟨by (with_reducible repeat (first | refine blk_drewN ?_ _ | refine blk_drew ?_ | refine blk_alloc ?_ _)); refine blk_far ?_ NB132_148.out _; (with_reducible repeat (first | refine blk_drewN ?_ _ | refine blk_drew ?_ | refine blk_alloc ?_ _)); refine blk_far ?_ NB132_148.out _; (with_reducible repeat (first | refine blk_drewN ?_ _ | refine blk_drew ?_ | refine blk_alloc ?_ _)); exact BK132.out⟩, ⟨by (with_reducible repeat (first | refine blk_drewN ?_ _ | refine blk_drew ?_ | refine blk_alloc ?_ _)); refine blk_put (cs := #[.int .i64 ((rd_T49 t136 x71_3).f0), .int .i64 0]) ?_ 1 _ rfl; (with_reducible repeat (first | refine blk_drewN ?_ _ | refine blk_drew ?_ | refine blk_alloc ?_ _)); refine blk_put (cs := #[.int .i64 0, .int .i64 0]) ?_ 0 _ rfl; (with_reducible repeat (first | refine blk_drewN ?_ _ | refine blk_drew ?_ | refine blk_alloc ?_ _)); exact BK148.out⟩, ⟨bl⟩⟩
 clear H'; (try clear c1); (try clear p1); (try clear q1); (try clear hx1); (try clear c2); (try clear p2); (try clear c3); (try clear c4); (try clear c4b0); (try clear c4b1); (try clear p6); (try clear c8); (try clear c8b0); (try clear c9); (try clear c9b0); (try clear c10); (try clear c10b0); (try clear c11); (try clear c11b0); (try clear c12); (try clear c12b0); (try clear c13); (try clear c13b0); (try clear c14); (try clear c14b0); (try clear p14); (try clear q14); (try clear hx14); (try clear c16); (try clear c20); (try clear c20b0); (try clear c21); (try clear c21b0); (try clear c22); (try clear c22b0); (try clear c23); (try clear c24); (try clear c26); (try clear c26b0); (try clear c27); (try clear c27b0); (try clear c28); (try clear c28b0); (try clear c29); (try clear c32); (try clear c35); (try clear c35b0); (try clear c36); (try clear c36b0); (try clear c37); (try clear c37b0); (try clear c39); (try clear hcz17); (try clear hcz18); (try clear hcz25); (try clear hcz30); (try clear hcz31); (try clear hcz33); (try clear hcz40); (try clear hcz6); (try clear hfz17); (try clear hfz18); (try clear hfz25); (try clear hfz30); (try clear hfz31); (try clear hfz33); (try clear hfz40); (try clear hfz6); (try clear hx140_0); (try clear hx140_1); (try clear hx142_0); (try clear hx143_0); (try clear hx144_0); (try clear hx144_1); (try clear hx146_0); (try clear hx147_0); (try clear hx147_1); (try clear p1); (try clear p14); (try clear p140); (try clear p142); (try clear p143); (try clear p144); (try clear p146); (try clear p147); (try clear p2); (try clear p6); (try clear q1); (try clear q14); (try clear q140); (try clear q142); (try clear q143); (try clear q144); (try clear q146); (try clear q147)
 obtain ⟨x9_4, x17_4, rfl, rfl, HA, HK4, HO_69, BK132, BK148, HB⟩ := hrel
 rcases gk with _ | k4
 · exact absurd HA.out (by simp [cutting_Value.l4])
 have H := HA.out
 clear HA
 simp only [cutting_Value.l4] at H
 by_cases c41 : x17_4 < ((rd_T49 t136 x71_3).f1)
 rotate_left
 · rw [if_neg c41] at H
   have c41b0 : decide (x17_4 < ((rd_T49 t136 x71_3).f1)) = false := decide_eq_false c41
   clear c41
   have H' := Aside0.mk H
   clear H
   have hnb47 := NB148_132.out
   have hnc47 := NB132_148.out
   have hcz48_0 : wr.cell? ⟨gb148, 0, none⟩ = some (.int .i64 ((rd_T49 t136 x71_3).f0)) := (blk_cell BK148.out 0).trans rfl
   have hcz48_1 : wr.cell? ⟨gb148, 1, none⟩ = some (.int .i64 ((rd_T49 t136 x71_3).f1)) := (blk_cell BK148.out 1).trans rfl
   have hfz48_0 := blk_frozen BK148.out 0
   have hfz48_1 := blk_frozen BK148.out 1
   go_wp2
   repeat (go_quiet (fail); try go_wp2)
   go_roundg k4
   case measure => have := HK1.out; have := HK2.out; have := HK3.out; have := HK4.out; omega
   case rel => exact ⟨(x9_4), (wrap64 (x71_3 + 1)), rs1, rs1, H', ⟨by have := HK1.out; have := HK2.out; have := HK3.out; have := HK4.out; omega⟩, ⟨by (with_reducible repeat (first | apply Kd.R_alloc | apply Kd.R_drewN | apply Kd.R_drew)); exact Kd.R_mono HO_69.out (fun _ hk => trivial)⟩, ⟨bu BK132.out⟩, ⟨bl⟩⟩
 rw [if_pos c41] at H
 have c41b0 : decide (x17_4 < ((rd_T49 t136 x71_3).f1)) = true := decide_eq_true c41
 clear c41
 obtain ⟨c42, H⟩ := gd1 H
 have c42b0 : decide (0 ≤ x17_4) = true := decide_eq_true c42
 clear c42
 obtain ⟨c43, H⟩ := gd1 H
 have c43b0 : decide (x17_4 < (l0_5.length : Int)) = true := decide_eq_true c43
 clear c43
 have H' := Aside0.mk H
 clear H
 have hnb44 := NB148_132.out
 have hnc44 := NB132_148.out
 have hcz45_0 : wr.cell? ⟨gb148, 0, none⟩ = some (.int .i64 ((rd_T49 t136 x71_3).f0)) := (blk_cell BK148.out 0).trans rfl
 have hcz45_1 : wr.cell? ⟨gb148, 1, none⟩ = some (.int .i64 ((rd_T49 t136 x71_3).f1)) := (blk_cell BK148.out 1).trans rfl
 have hfz45_0 := blk_frozen BK148.out 0
 have hfz45_1 := blk_frozen BK148.out 1
 have hcz46 := blk_cells BK132.out
 have hfz46 := blk_frozens BK132.out
 have p149 : 0 ≤ (x17_4 : Int) := da1
 have q149 : x17_4 < (l0_5.length : Int) := da1
 obtain ⟨ad149, e149, hx149_0⟩ := Kd.at_int HR0_5.out x17_4 p149 q149
 cases e149
 (try replace hx149_0 := (HB.out.cell (World.block_lt_of_cell? w _ hx149_0)).trans hx149_0)
 replace p149 := eq_true p149
 replace q149 := eq_true q149
 go_wp2
 repeat (go_quiet (fail); try go_wp2)
 go_roundg k4
 case measure => have := HK1.out; have := HK2.out; have := HK3.out; have := HK4.out; omega
 case rel => exact ⟨(wrap64 (x9_4 + (rd l0_5 x17_4))), (wrap64 (x17_4 + 1)), rs1, rs1, H', ⟨by have := HK1.out; have := HK2.out; have := HK3.out; have := HK4.out; omega⟩, ⟨by (with_reducible repeat (first | apply Kd.R_alloc | apply Kd.R_drewN | apply Kd.R_drew)); exact HO_69.out⟩, ⟨bu BK132.out⟩, ⟨bu BK148.out⟩, ⟨bl⟩⟩
end Go.Proofs.YtoaicheopcojoaaDoor.P
