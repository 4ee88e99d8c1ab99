import Derived.Test.YtoaicheopcojoaaDoorSq
import Derived.Test.YtoaicheopcojoaaDoorF19
import Derived.Test.YtoaicheopcojoaaDoorF23
import Derived.Test.YtoaicheopcojoaaDoorF26
import Derived.Test.YtoaicheopcojoaaDoorHB2
import Derived.Test.YtoaicheopcojoaaDoorF33
import Derived.Test.YtoaicheopcojoaaDoorHAwake
namespace Go.Proofs.YtoaicheopcojoaaDoor.P
open Go.RowKit Go.Proofs.YtoaicheopcojoaaDoorW.PrintWords Go.Proofs.YtoaicheopcojoaaDoorW.PrintLast Go.Proofs.YtoaicheopcojoaaDoorW.PrintMore
attribute [local go_sem] max2_int min2_int max_two min_two max_three min_three max_four min_four   -- for this text's walks alone
set_option linter.unusedVariables false
set_option linter.unusedSimpArgs false
/-! ### sawmilllaw17_CuttingBest: function 7 -/
mutual
noncomputable def sawmilllaw17_CuttingBest.j0 : Nat → List (S69) → Bool → Int → Int → Int → List Int → List (List Int) → List Int → List Int → Option (Bool)
  | 0, _, _, _, _, _, _, _, _, _ => none
  | k + 1, x1, x19, x496000, x496001, x496002, x496003, x496004, x496005, x496006 => if x19 = true then ((sawmilllaw17_awake.f).bind fun t497 => (some t497)) else ((cutting_Best.f k x496000 x496001 x496002 x496003 x496004 x496005 x496006).bind fun bt498 => ((cutting_Check.f k x496000 x496001 x496002 x496003 x496004 x496005 x496006).bind fun t503 => (if bt498.2.2 = t503 then (if bt498.2.2 = 0 then ((cutting_Value.f k x496000 x496001 x496002 x496003 x496004 x496005 x496006 bt498.1).bind fun bt505 => (if bt505.2 = 0 then (sawmilllaw17_CuttingBest.j1 k x1 bt498.1 bt498.2.1 (bt505.1 != bt498.2.1) x496000 x496001 x496002 x496003 x496004 x496005 x496006) else (sawmilllaw17_CuttingBest.j1 k x1 bt498.1 bt498.2.1 true x496000 x496001 x496002 x496003 x496004 x496005 x496006))) else (if (bt498.1.length : Int) = 0 then (if bt498.2.1 = 0 then ((sawmilllaw17_awake.f).bind fun t504 => (some t504)) else (some false)) else (some false))) else (some false))))
noncomputable def sawmilllaw17_CuttingBest.j1 : Nat → List (S69) → List (S69) → Int → Bool → Int → Int → Int → List Int → List (List Int) → List Int → List Int → Option (Bool)
  | 0, _, _, _, _, _, _, _, _, _, _, _ => none
  | k + 1, x1, x5, x6, x55, x496000, x496001, x496002, x496003, x496004, x496005, x496006 => if x55 = true then (some false) else ((cutting_Value.f k x496000 x496001 x496002 x496003 x496004 x496005 x496006 x1).bind fun bt507 => (if bt507.2 = 0 then (if bt507.1 ≤ x6 then (if bt507.1 < x6 then ((sawmilllaw17_awake.f).bind fun t509 => (some t509)) else ((sawmilllaw17_before.f k x1 x5).bind fun t510 => (if t510 = true then (some false) else ((sawmilllaw17_awake.f).bind fun t511 => (some t511))))) else (some false)) else (if bt507.1 = 0 then ((sawmilllaw17_awake.f).bind fun t512 => (some t512)) else (some false))))
end
noncomputable def sawmilllaw17_CuttingBest.f (k : Nat) (a0_0 : Int) (a0_1 : Int) (a0_2 : Int) (l0_3 : List Int) (l0_4 : List (List Int)) (l0_5 : List Int) (l0_6 : List Int) (l1 : List (S69)) : Option (Bool) := (sawmilllaw17_short.f k a0_0 a0_1 a0_2 l0_3 l0_4 l0_5 l0_6).bind fun t496 => (if t496 = true then (sawmilllaw17_CuttingBest.j0 k l1 (decide ((l1.length : Int) > 300)) a0_0 a0_1 a0_2 l0_3 l0_4 l0_5 l0_6) else (sawmilllaw17_CuttingBest.j0 k l1 true a0_0 a0_1 a0_2 l0_3 l0_4 l0_5 l0_6))
theorem sawmilllaw17_CuttingBest.mono_l : ∀ k, (∀ y0 y1 y2 y3 y4 y5 y6 y7 y8, LeO (sawmilllaw17_CuttingBest.j0 k y0 y1 y2 y3 y4 y5 y6 y7 y8) (sawmilllaw17_CuttingBest.j0 (k + 1) y0 y1 y2 y3 y4 y5 y6 y7 y8)) ∧ (∀ y0 y1 y2 y3 y4 y5 y6 y7 y8 y9 y10, LeO (sawmilllaw17_CuttingBest.j1 k y0 y1 y2 y3 y4 y5 y6 y7 y8 y9 y10) (sawmilllaw17_CuttingBest.j1 (k + 1) y0 y1 y2 y3 y4 y5 y6 y7 y8 y9 y10))
  | 0 => ⟨fun _ _ _ _ _ _ _ _ _ r h => by simp [sawmilllaw17_CuttingBest.j0] at h, fun _ _ _ _ _ _ _ _ _ _ _ r h => by simp [sawmilllaw17_CuttingBest.j1] at h⟩
  | k + 1 => by
    obtain ⟨ih0, ih1⟩ := sawmilllaw17_CuttingBest.mono_l k
    refine ⟨?_, ?_⟩
    · intro y0 y1 y2 y3 y4 y5 y6 y7 y8
      unfold sawmilllaw17_CuttingBest.j0
      repeat' first
      | (with_reducible exact ih0 _ _ _ _ _ _ _ _ _)
      | (with_reducible exact ih1 _ _ _ _ _ _ _ _ _ _ _)
      | (with_reducible exact cutting_Best.mono _ _ _ _ _ _ _ _)
      | (with_reducible exact cutting_Check.mono _ _ _ _ _ _ _ _)
      | (with_reducible exact cutting_Value.mono _ _ _ _ _ _ _ _ _)
      | (with_reducible exact sawmilllaw17_before.mono _ _ _)
      | (with_reducible exact sawmilllaw17_short.mono _ _ _ _ _ _ _ _)
      | (with_reducible exact LeO.refl _)
      | (with_reducible exact LeO.none _)
      | (with_reducible refine LeO.ite ?_ ?_)
      | (with_reducible refine LeO.bind ?_ (fun _ => ?_))
      | exact ih0 _ _ _ _ _ _ _ _ _
      | exact ih1 _ _ _ _ _ _ _ _ _ _ _
      | exact cutting_Best.mono _ _ _ _ _ _ _ _
      | exact cutting_Check.mono _ _ _ _ _ _ _ _
      | exact cutting_Value.mono _ _ _ _ _ _ _ _ _
      | exact sawmilllaw17_before.mono _ _ _
      | exact sawmilllaw17_short.mono _ _ _ _ _ _ _ _
      | exact LeO.none _
      | refine LeO.ite ?_ ?_
      | refine LeO.bind ?_ (fun _ => ?_)
    · intro y0 y1 y2 y3 y4 y5 y6 y7 y8 y9 y10
      unfold sawmilllaw17_CuttingBest.j1
      repeat' first
      | (with_reducible exact ih0 _ _ _ _ _ _ _ _ _)
      | (with_reducible exact ih1 _ _ _ _ _ _ _ _ _ _ _)
      | (with_reducible exact cutting_Best.mono _ _ _ _ _ _ _ _)
      | (with_reducible exact cutting_Check.mono _ _ _ _ _ _ _ _)
      | (with_reducible exact cutting_Value.mono _ _ _ _ _ _ _ _ _)
      | (with_reducible exact sawmilllaw17_before.mono _ _ _)
      | (with_reducible exact sawmilllaw17_short.mono _ _ _ _ _ _ _ _)
      | (with_reducible exact LeO.refl _)
      | (with_reducible exact LeO.none _)
      | (with_reducible refine LeO.ite ?_ ?_)
      | (with_reducible refine LeO.bind ?_ (fun _ => ?_))
      | exact ih0 _ _ _ _ _ _ _ _ _
      | exact ih1 _ _ _ _ _ _ _ _ _ _ _
      | exact cutting_Best.mono _ _ _ _ _ _ _ _
      | exact cutting_Check.mono _ _ _ _ _ _ _ _
      | exact cutting_Value.mono _ _ _ _ _ _ _ _ _
      | exact sawmilllaw17_before.mono _ _ _
      | exact sawmilllaw17_short.mono _ _ _ _ _ _ _ _
      | exact LeO.none _
      | refine LeO.ite ?_ ?_
      | refine LeO.bind ?_ (fun _ => ?_)
theorem sawmilllaw17_CuttingBest.mono : ∀ a0 a1 a2 a3 a4 a5 a6 a7 k, LeO (sawmilllaw17_CuttingBest.f k a0 a1 a2 a3 a4 a5 a6 a7) (sawmilllaw17_CuttingBest.f (k + 1) a0 a1 a2 a3 a4 a5 a6 a7) := by
  intro a0 a1 a2 a3 a4 a5 a6 a7 k
  obtain ⟨ih0, ih1⟩ := sawmilllaw17_CuttingBest.mono_l k
  unfold sawmilllaw17_CuttingBest.f
  repeat' first
      | (with_reducible exact ih0 _ _ _ _ _ _ _ _ _)
      | (with_reducible exact ih1 _ _ _ _ _ _ _ _ _ _ _)
      | (with_reducible exact cutting_Best.mono _ _ _ _ _ _ _ _)
      | (with_reducible exact cutting_Check.mono _ _ _ _ _ _ _ _)
      | (with_reducible exact cutting_Value.mono _ _ _ _ _ _ _ _ _)
      | (with_reducible exact sawmilllaw17_before.mono _ _ _)
      | (with_reducible exact sawmilllaw17_short.mono _ _ _ _ _ _ _ _)
      | (with_reducible exact LeO.refl _)
      | (with_reducible exact LeO.none _)
      | (with_reducible refine LeO.ite ?_ ?_)
      | (with_reducible refine LeO.bind ?_ (fun _ => ?_))
      | exact ih0 _ _ _ _ _ _ _ _ _
      | exact ih1 _ _ _ _ _ _ _ _ _ _ _
      | exact cutting_Best.mono _ _ _ _ _ _ _ _
      | exact cutting_Check.mono _ _ _ _ _ _ _ _
      | exact cutting_Value.mono _ _ _ _ _ _ _ _ _
      | exact sawmilllaw17_before.mono _ _ _
      | exact sawmilllaw17_short.mono _ _ _ _ _ _ _ _
      | exact LeO.none _
      | refine LeO.ite ?_ ?_
      | refine LeO.bind ?_ (fun _ => ?_)
theorem L7_0 {p_ : Prop} (k_ : p_ := by
  go_wp2_with (first | ((with_reducible refine gate_callee (f := 27) rfl ?_); refine goesL_ (some 23) rfl rfl Tryd.func27 (by kernel_rfl) rfl #[.agg #[.int .i64 a0_0, .int .i64 a0_1, .int .i64 a0_2, .slice A0_3 l0_3.length c0_3, .slice A0_4 l0_4.length c0_4, .slice A0_5 l0_5.length c0_5, .slice A0_6 l0_6.length c0_6]] rfl mp1 ?_; (with_reducible refine (cutting_Best.calls kj2 a0_0 a0_1 a0_2 _ _ l0_3 _ _ l0_4 _ _ l0_5 _ _ l0_6 t498 t501 t502 _ ?side1 ?side2 ?side3 ?side4 ?side5 ?side6 ?side7 ?side8 ?side9 A16.out).mono ?_); (case side1 => exact cu1 (Kd.C_below HR0_3.out HB.out)); (case side2 => exact HC0_3.out); (case side3 => exact cu1 (Kd.C_below HR0_4.out HB.out)); (case side4 => exact HC0_4.out); (case side5 => exact cu1 (Kd.C_below HR0_5.out HB.out)); (case side6 => exact HC0_5.out); (case side7 => exact cu1 (Kd.C_below HR0_6.out HB.out)); (case side8 => exact HC0_6.out); (case side9 => exact bu BK494.out); rintro e wq1 ⟨vq1, rfl, hoq1, hb⟩; refine ⟨_, rfl, ?_⟩; have nq1 := Aside0.mk (Kd.R_lower hoq1 (below_size bl)); have nq2 := Aside0.mk (blk_below (bu BK494.out) hb); have nq3 := Aside0.mk (blk_below (bu BK495.out) hb); have nq4 := Aside0.mk (below_step bl hb); clear BK494; clear BK495; clear HB; have HOq1 := nq1; have BK494 := nq2; have BK495 := nq3; have HB := nq4; clear nq1 nq2 nq3 nq4; (try clear hb); (try clear hb2); (try clear hk); (try clear hi); (try clear hoq1); have hczq1 := blk_cells BK495.out; have hfzq1 := blk_frozens BK495.out) | ((with_reducible refine gate_callee (f := 19) rfl ?_); refine goesL_ (some 29) rfl rfl Tryd.func19 (by kernel_rfl) rfl #[.agg #[.int .i64 a0_0, .int .i64 a0_1, .int .i64 a0_2, .slice A0_3 l0_3.length c0_3, .slice A0_4 l0_4.length c0_4, .slice A0_5 l0_5.length c0_5, .slice A0_6 l0_6.length c0_6]] rfl mp1 ?_; (with_reducible refine (cutting_Check.calls kj2 a0_0 a0_1 a0_2 _ _ l0_3 (fun k_ => k_ < w.heap.size) _ _ l0_4 (fun k_ => k_ < w.heap.size) _ _ l0_5 (fun k_ => k_ < w.heap.size) _ _ l0_6 t503 _ ?side1 ?side2 ?side3 ?side4 ?side5 A17.out).mono ?_); (case side1 => exact cu1 (Kd.C_below HR0_3.out HB.out)); (case side2 => exact HC0_3.out); (case side3 => exact Kd.V_mk HC0_4.out (Kd.F_below (Kd.C_F (Kd.heap_slice 3 (Kd.heap_int .i64)) HR0_4.out) bl)); (case side4 => exact Kd.V_mk HC0_5.out (Kd.F_below (Kd.C_F (Kd.heap_int .i64) HR0_5.out) bl)); (case side5 => exact Kd.V_mk HC0_6.out (Kd.F_below (Kd.C_F (Kd.heap_int .i64) HR0_6.out) bl)); rintro e wq2 ⟨rfl, hb⟩; refine ⟨_, rfl, ?_⟩; have nq1 := Aside0.mk (Kd.R_below (ru HOq1.out) hb); have nq2 := Aside0.mk (blk_below (bu BK494.out) hb); have nq3 := Aside0.mk (blk_below (bu BK495.out) hb); have nq4 := Aside0.mk (below_step bl hb); clear HOq1; clear BK494; clear BK495; clear HB; have HOq1 := nq1; have BK494 := nq2; have BK495 := nq3; have HB := nq4; clear nq1 nq2 nq3 nq4; (try clear hb); (try clear hb2); (try clear hk); (try clear hi); obtain ⟨Aoq1, coq1, eoq1⟩ := Kd.R_slice HOq1.out; subst eoq1))
  go_ret
  exact ⟨fe1, bl⟩) : p_ := k_
theorem L7_1 {p_ : Prop} (k_ : p_ := by
  go_wp2_with (first | ((with_reducible refine gate_callee (f := 23) rfl ?_); refine goesL_ (some 59) rfl rfl Tryd.func23 (by kernel_rfl) rfl #[.agg #[.int .i64 a0_0, .int .i64 a0_1, .int .i64 a0_2, .slice A0_3 l0_3.length c0_3, .slice A0_4 l0_4.length c0_4, .slice A0_5 l0_5.length c0_5, .slice A0_6 l0_6.length c0_6], .slice A1 l1.length c1] rfl mp1 ?_; (with_reducible refine (cutting_Value.calls kj20 a0_0 a0_1 a0_2 _ _ l0_3 _ _ l0_4 _ _ l0_5 _ _ l0_6 _ _ l1 t507 t508 _ ?side1 ?side2 ?side3 ?side4 ?side5 ?side6 ?side7 ?side8 ?side9 ?side10 A32.out).mono ?_); (case side1 => exact cu1 (Kd.C_below HR0_3.out HB.out)); (case side2 => exact HC0_3.out); (case side3 => exact cu1 (Kd.C_below HR0_4.out HB.out)); (case side4 => exact HC0_4.out); (case side5 => exact cu1 (Kd.C_below HR0_5.out HB.out)); (case side6 => exact HC0_5.out); (case side7 => exact cu1 (Kd.C_below HR0_6.out HB.out)); (case side8 => exact HC0_6.out); (case side9 => exact cu1 (Kd.C_below HR1.out HB.out)); (case side10 => exact HC1.out); rintro e wq1 ⟨rfl, hb⟩; refine ⟨_, rfl, ?_⟩; have nq1 := Aside0.mk (Kd.R_below (ru HO_5.out) hb); have nq2 := Aside0.mk (blk_below (bu BK494.out) hb); have nq3 := Aside0.mk (blk_below (bu BK495.out) hb); have nq4 := Aside0.mk (below_step bl hb); clear HO_5; clear BK494; clear BK495; clear HB; have HO_5 := nq1; have BK494 := nq2; have BK495 := nq3; have HB := nq4; clear nq1 nq2 nq3 nq4; (try clear hb); (try clear hb2); (try clear hk); (try clear hi)))
  go_ret
  exact ⟨fe1, bl⟩) : p_ := k_
set_option maxHeartbeats 8000000 in
set_option maxRecDepth 100000 in
theorem sawmilllaw17_CuttingBest.calls (k : Nat) (a0_0 : Int) (a0_1 : Int) (a0_2 : Int) (A0_3 : Option Addr) (c0_3 : Nat) (l0_3 : List Int) (A0_4 : Option Addr) (c0_4 : Nat) (l0_4 : List (List Int)) (A0_5 : Option Addr) (c0_5 : Nat) (l0_5 : List Int) (A0_6 : Option Addr) (c0_6 : Nat) (l0_6 : List Int) (A1 : Option Addr) (c1 : Nat) (l1 : List (S69)) (r : Bool) (w : World) (hr0_3 : Kd.C (Kd.int .i64) w A0_3 l0_3.length l0_3) (hc0_3 : l0_3.length ≤ c0_3) (hr0_4 : Kd.C (Kd.slice 3 (Kd.int .i64)) w A0_4 l0_4.length l0_4) (hc0_4 : l0_4.length ≤ c0_4) (hr0_5 : Kd.C (Kd.int .i64) w A0_5 l0_5.length l0_5) (hc0_5 : l0_5.length ≤ c0_5) (hr0_6 : Kd.C (Kd.int .i64) w A0_6 l0_6.length l0_6) (hc0_6 : l0_6.length ≤ c0_6) (hr1 : Kd.C k69 w A1 l1.length l1) (hc1 : l1.length ≤ c1) (hG : w.heap[0]? = some (.cells #[.int .i64 (-1), .int .i64 (-1), .int .i64 0] 97 (0, 0))) (h : sawmilllaw17_CuttingBest.f k a0_0 a0_1 a0_2 l0_3 l0_4 l0_5 l0_6 l1 = some r) :
    Calls Tryd.prog 7 #[.agg #[.int .i64 a0_0, .int .i64 a0_1, .int .i64 a0_2, .slice A0_3 l0_3.length c0_3, .slice A0_4 l0_4.length c0_4, .slice A0_5 l0_5.length c0_5, .slice A0_6 l0_6.length c0_6], .slice A1 l1.length c1] w fun e w' => e = .returned (.bool r) ∧ Below w.heap.size w w' := by
 have hu25 := Tryd.underlying25
 have HR0_3 := Aside0.mk hr0_3
 have HC0_3 := Aside0.mk hc0_3
 clear hr0_3 hc0_3
 have HR0_4 := Aside0.mk hr0_4
 have HC0_4 := Aside0.mk hc0_4
 clear hr0_4 hc0_4
 have HR0_5 := Aside0.mk hr0_5
 have HC0_5 := Aside0.mk hc0_5
 clear hr0_5 hc0_5
 have HR0_6 := Aside0.mk hr0_6
 have HC0_6 := Aside0.mk hc0_6
 clear hr0_6 hc0_6
 have HR1 := Aside0.mk hr1
 have HC1 := Aside0.mk hc1
 clear hr1 hc1
 have BK494 := Aside0.mk hG
 clear hG
 have HB := Aside0.mk (Below.refl w.heap.size w)
 have H : ((sawmilllaw17_short.f k a0_0 a0_1 a0_2 l0_3 l0_4 l0_5 l0_6).bind fun t496 => (if t496 = true then (sawmilllaw17_CuttingBest.j0 k l1 (decide ((l1.length : Int) > 300)) a0_0 a0_1 a0_2 l0_3 l0_4 l0_5 l0_6) else (sawmilllaw17_CuttingBest.j0 k l1 true a0_0 a0_1 a0_2 l0_3 l0_4 l0_5 l0_6))) = some r := h
 clear h
 have HC3 := Aside0.mk H
 clear H
 go_enter Tryd.func7, Tryd.ntmps7
 go_upto_region 1 with (first | ((with_reducible refine gate_dst (N := 2) rfl ?_); (try (refine gate_guard (by rfl) ?_; dsimp only)); refine bx1 (N := 2) #[.int .i64 a0_0, .int .i64 a0_1, .int .i64 a0_2, .slice A0_3 l0_3.length c0_3, .slice A0_4 l0_4.length c0_4, .slice A0_5 l0_5.length c0_5, .slice A0_6 l0_6.length c0_6] 25 ?_; intro gb495 hg w4 hbox hb; have n0_ := Aside0.mk (blk_below (bu BK494.out) hb); have n1_ := Aside0.mk (below_step bl hb); have n2_ := Aside0.mk (hbox); have n3_ := Aside0.mk ((gs1 : w.heap.size ≤ gb495)); have n4_ := Aside0.mk ((gs1 : w.heap.size ≤ gb495)); have n5_ := Aside0.mk ((nl1 BK494 : 0 ≠ gb495)); have n6_ := Aside0.mk ((ng1 BK494 : gb495 ≠ 0)); clear BK494; clear HB; have BK494 := n0_; have HB := n1_; have BK495 := n2_; have GW495 := n3_; have GE495 := n4_; have NB494_495 := n5_; have NB495_494 := n6_; clear n0_ n1_ n2_ n3_ n4_ n5_ n6_; clear hb hbox hg))
 (try simp only [Act.put, List.setIfInBounds_toArray, List.set_cons_zero, List.set_cons_succ])
 go_cut [19] (fun v19 wc => ∃ (kq : Nat) (x19_2 : Bool), v19 = .bool x19_2 ∧ Aside0 (sawmilllaw17_CuttingBest.j0 kq l1 x19_2 a0_0 a0_1 a0_2 l0_3 l0_4 l0_5 l0_6 = some r) ∧ Aside0 (kq ≤ k) ∧ Aside0 (wc.heap[0]? = some (.cells #[.int .i64 (-1), .int .i64 (-1), .int .i64 0] 97 (0, 0))) ∧ Aside0 (wc.heap[gb495]? = some (.cells #[.int .i64 a0_0, .int .i64 a0_1, .int .i64 a0_2, (.slice A0_3 l0_3.length c0_3), (.slice A0_4 l0_4.length c0_4), (.slice A0_5 l0_5.length c0_5), (.slice A0_6 l0_6.length c0_6)] 25 (0, 0))) ∧ Aside0 (Below w.heap.size w wc))
 case first =>
  have H := HC3.out
  clear HC3
  replace H := Option.bind_eq_some_iff.mp H
  obtain ⟨t496, A50, H⟩ := H
  replace H : (if t496 = true then (sawmilllaw17_CuttingBest.j0 k l1 (decide ((l1.length : Int) > 300)) a0_0 a0_1 a0_2 l0_3 l0_4 l0_5 l0_6) else (sawmilllaw17_CuttingBest.j0 k l1 true a0_0 a0_1 a0_2 l0_3 l0_4 l0_5 l0_6)) = some r := H
  have A5 := Aside0.mk A50
  clear A50
  by_cases c6 : t496 = true
  · subst c6
    have H1 : (sawmilllaw17_CuttingBest.j0 k l1 (decide ((l1.length : Int) > 300)) a0_0 a0_1 a0_2 l0_3 l0_4 l0_5 l0_6) = some r := by rw [if_pos rfl] at H; exact H
    clear H
    have H := H1
    clear H1
    have H' := Aside0.mk H
    clear H
    have hnb7 := NB495_494.out
    have hnc7 := NB494_495.out
    have hcz8 := blk_cells BK495.out
    have hfz8 := blk_frozens BK495.out
    go_wp2_with (first | ((with_reducible refine gate_callee (f := 26) rfl ?_); refine goesL_ (some 13) rfl rfl Tryd.func26 (by kernel_rfl) rfl #[.agg #[.int .i64 a0_0, .int .i64 a0_1, .int .i64 a0_2, .slice A0_3 l0_3.length c0_3, .slice A0_4 l0_4.length c0_4, .slice A0_5 l0_5.length c0_5, .slice A0_6 l0_6.length c0_6]] rfl mp1 ?_; (with_reducible refine (sawmilllaw17_short.calls k a0_0 a0_1 a0_2 _ _ l0_3 _ _ l0_4 _ _ l0_5 _ _ l0_6 true _ ?side1 ?side2 ?side3 ?side4 ?side5 ?side6 ?side7 ?side8 A5.out).mono ?_); (case side1 => exact cu1 (Kd.C_below HR0_3.out HB.out)); (case side2 => exact HC0_3.out); (case side3 => exact cu1 (Kd.C_below HR0_4.out HB.out)); (case side4 => exact HC0_4.out); (case side5 => exact cu1 (Kd.C_below HR0_5.out HB.out)); (case side6 => exact HC0_5.out); (case side7 => exact cu1 (Kd.C_below HR0_6.out HB.out)); (case side8 => exact HC0_6.out); rintro e w9 ⟨rfl, hb⟩; refine ⟨_, rfl, ?_⟩; have n0_ := Aside0.mk (blk_below (bu BK494.out) hb); have n1_ := Aside0.mk (blk_below (bu BK495.out) hb); have n2_ := Aside0.mk (below_step bl hb); clear BK494; clear BK495; clear HB; have BK494 := n0_; have BK495 := n1_; have HB := n2_; clear n0_ n1_ n2_; (try clear hb); (try clear hb2); (try clear hk); (try clear hi)))
    go_meet
    case rel => exact ⟨_, (decide ((l1.length : Int) > 300)), rs1, H', ⟨by first | omega | exact Nat.le_refl _⟩, ⟨bu BK494.out⟩, ⟨bu BK495.out⟩, ⟨bl⟩⟩
  replace c6 := Bool.eq_false_iff.mpr c6
  subst c6
  have H1 : (sawmilllaw17_CuttingBest.j0 k l1 true a0_0 a0_1 a0_2 l0_3 l0_4 l0_5 l0_6) = some r := by rw [if_neg (show ¬ (false = true) by decide)] at H; exact H
  clear H
  have H := H1
  clear H1
  have H' := Aside0.mk H
  clear H
  have hnb10 := NB495_494.out
  have hnc10 := NB494_495.out
  have hcz11 := blk_cells BK495.out
  have hfz11 := blk_frozens BK495.out
  go_wp2_with (first | ((with_reducible refine gate_callee (f := 26) rfl ?_); refine goesL_ (some 13) rfl rfl Tryd.func26 (by kernel_rfl) rfl #[.agg #[.int .i64 a0_0, .int .i64 a0_1, .int .i64 a0_2, .slice A0_3 l0_3.length c0_3, .slice A0_4 l0_4.length c0_4, .slice A0_5 l0_5.length c0_5, .slice A0_6 l0_6.length c0_6]] rfl mp1 ?_; (with_reducible refine (sawmilllaw17_short.calls k a0_0 a0_1 a0_2 _ _ l0_3 _ _ l0_4 _ _ l0_5 _ _ l0_6 false _ ?side1 ?side2 ?side3 ?side4 ?side5 ?side6 ?side7 ?side8 A5.out).mono ?_); (case side1 => exact cu1 (Kd.C_below HR0_3.out HB.out)); (case side2 => exact HC0_3.out); (case side3 => exact cu1 (Kd.C_below HR0_4.out HB.out)); (case side4 => exact HC0_4.out); (case side5 => exact cu1 (Kd.C_below HR0_5.out HB.out)); (case side6 => exact HC0_5.out); (case side7 => exact cu1 (Kd.C_below HR0_6.out HB.out)); (case side8 => exact HC0_6.out); rintro e w12 ⟨rfl, hb⟩; refine ⟨_, rfl, ?_⟩; have n0_ := Aside0.mk (blk_below (bu BK494.out) hb); have n1_ := Aside0.mk (blk_below (bu BK495.out) hb); have n2_ := Aside0.mk (below_step bl hb); clear BK494; clear BK495; clear HB; have BK494 := n0_; have BK495 := n1_; have HB := n2_; clear n0_ n1_ n2_; (try clear hb); (try clear hb2); (try clear hk); (try clear hi)))
  go_meet
  case rel => exact ⟨_, (true), rs1, H', ⟨by first | omega | exact Nat.le_refl _⟩, ⟨bu BK494.out⟩, ⟨bu BK495.out⟩, ⟨bl⟩⟩
 clear HC3; (try clear c1); (try clear c2); (try clear p2); (try clear c6); (try clear c7); (try clear c10); (try clear hcz11); (try clear hcz8); (try clear hfz11); (try clear hfz8)
 obtain ⟨kq, x19_2, rfl, HA, HJ2, BK494, BK495, HB⟩ := hcut
 rcases kq with _ | kj2
 · exact absurd HA.out (by simp [sawmilllaw17_CuttingBest.j0])
 have H := HA.out
 clear HA
 simp only [sawmilllaw17_CuttingBest.j0] at H
 by_cases c13 : x19_2 = true
 · subst c13
   have H1 : ((sawmilllaw17_awake.f).bind fun t497 => (some t497)) = some r := by rw [if_pos rfl] at H; exact H
   clear H
   have H := H1
   clear H1
   replace H := Option.bind_eq_some_iff.mp H
   obtain ⟨t497, A140, H⟩ := H
   replace H : (some t497) = some r := H
   have A14 := Aside0.mk A140
   clear A140
   obtain rfl := Option.some.inj H
   go_wp2_with (first | ((with_reducible refine gate_callee (f := 18) rfl ?_); refine goesL_ (some 20) rfl rfl Tryd.func18 (by kernel_rfl) rfl #[] rfl mp1 ?_; (with_reducible refine (sawmilllaw17_awake.calls  t497 _ ?side1 A14.out).mono ?_); (case side1 => exact bu BK494.out); rintro e w15 ⟨rfl, hb⟩; refine ⟨_, rfl, ?_⟩; have n0_ := Aside0.mk (blk_below (bu BK494.out) hb); have n1_ := Aside0.mk (blk_below (bu BK495.out) hb); have n2_ := Aside0.mk (below_step bl hb); clear BK494; clear BK495; clear HB; have BK494 := n0_; have BK495 := n1_; have HB := n2_; clear n0_ n1_ n2_; (try clear hb); (try clear hb2); (try clear hk); (try clear hi)))
   go_ret
   exact ⟨fe1, bl⟩
 replace c13 := Bool.eq_false_iff.mpr c13
 subst c13
 have H1 : ((cutting_Best.f kj2 a0_0 a0_1 a0_2 l0_3 l0_4 l0_5 l0_6).bind fun bt498 => ((cutting_Check.f kj2 a0_0 a0_1 a0_2 l0_3 l0_4 l0_5 l0_6).bind fun t503 => (if bt498.2.2 = t503 then (if bt498.2.2 = 0 then ((cutting_Value.f kj2 a0_0 a0_1 a0_2 l0_3 l0_4 l0_5 l0_6 bt498.1).bind fun bt505 => (if bt505.2 = 0 then (sawmilllaw17_CuttingBest.j1 kj2 l1 bt498.1 bt498.2.1 (bt505.1 != bt498.2.1) a0_0 a0_1 a0_2 l0_3 l0_4 l0_5 l0_6) else (sawmilllaw17_CuttingBest.j1 kj2 l1 bt498.1 bt498.2.1 true a0_0 a0_1 a0_2 l0_3 l0_4 l0_5 l0_6))) else (if (bt498.1.length : Int) = 0 then (if bt498.2.1 = 0 then ((sawmilllaw17_awake.f).bind fun t504 => (some t504)) else (some false)) else (some false))) else (some false)))) = some r := by rw [if_neg (show ¬ (false = true) by decide)] at H; exact H
 clear H
 have H := H1
 clear H1
 replace H := Option.bind_eq_some_iff.mp H
 obtain ⟨⟨t498, t501, t502⟩, A160, H⟩ := H
 replace H : ((cutting_Check.f kj2 a0_0 a0_1 a0_2 l0_3 l0_4 l0_5 l0_6).bind fun t503 => (if t502 = t503 then (if t502 = 0 then ((cutting_Value.f kj2 a0_0 a0_1 a0_2 l0_3 l0_4 l0_5 l0_6 t498).bind fun bt505 => (if bt505.2 = 0 then (sawmilllaw17_CuttingBest.j1 kj2 l1 t498 t501 (bt505.1 != t501) a0_0 a0_1 a0_2 l0_3 l0_4 l0_5 l0_6) else (sawmilllaw17_CuttingBest.j1 kj2 l1 t498 t501 true a0_0 a0_1 a0_2 l0_3 l0_4 l0_5 l0_6))) else (if (t498.length : Int) = 0 then (if t501 = 0 then ((sawmilllaw17_awake.f).bind fun t504 => (some t504)) else (some false)) else (some false))) else (some false))) = some r := H
 have A16 := Aside0.mk A160
 clear A160
 replace H := Option.bind_eq_some_iff.mp H
 obtain ⟨t503, A170, H⟩ := H
 replace H : (if t502 = t503 then (if t502 = 0 then ((cutting_Value.f kj2 a0_0 a0_1 a0_2 l0_3 l0_4 l0_5 l0_6 t498).bind fun bt505 => (if bt505.2 = 0 then (sawmilllaw17_CuttingBest.j1 kj2 l1 t498 t501 (bt505.1 != t501) a0_0 a0_1 a0_2 l0_3 l0_4 l0_5 l0_6) else (sawmilllaw17_CuttingBest.j1 kj2 l1 t498 t501 true a0_0 a0_1 a0_2 l0_3 l0_4 l0_5 l0_6))) else (if (t498.length : Int) = 0 then (if t501 = 0 then ((sawmilllaw17_awake.f).bind fun t504 => (some t504)) else (some false)) else (some false))) else (some false)) = some r := H
 have A17 := Aside0.mk A170
 clear A170
 by_cases c18 : t502 = t503
 rotate_left
 · rw [if_neg c18] at H
   have c18b0 : (t502 == t503) = false := beq_eq_false_iff_ne.mpr c18
   have c18b1 : (t502 != t503) = true := bne_iff_ne.mpr c18
   obtain rfl := Option.some.inj H
   have hnb85 := NB495_494.out
   have hnc85 := NB494_495.out
   have hcz86 := blk_cells BK495.out
   have hfz86 := blk_frozens BK495.out
   go_wp2_with (first | ((with_reducible refine gate_callee (f := 27) rfl ?_); refine goesL_ (some 23) rfl rfl Tryd.func27 (by kernel_rfl) rfl #[.agg #[.int .i64 a0_0, .int .i64 a0_1, .int .i64 a0_2, .slice A0_3 l0_3.length c0_3, .slice A0_4 l0_4.length c0_4, .slice A0_5 l0_5.length c0_5, .slice A0_6 l0_6.length c0_6]] rfl mp1 ?_; (with_reducible refine (cutting_Best.calls kj2 a0_0 a0_1 a0_2 _ _ l0_3 _ _ l0_4 _ _ l0_5 _ _ l0_6 t498 t501 t502 _ ?side1 ?side2 ?side3 ?side4 ?side5 ?side6 ?side7 ?side8 ?side9 A16.out).mono ?_); (case side1 => exact cu1 (Kd.C_below HR0_3.out HB.out)); (case side2 => exact HC0_3.out); (case side3 => exact cu1 (Kd.C_below HR0_4.out HB.out)); (case side4 => exact HC0_4.out); (case side5 => exact cu1 (Kd.C_below HR0_5.out HB.out)); (case side6 => exact HC0_5.out); (case side7 => exact cu1 (Kd.C_below HR0_6.out HB.out)); (case side8 => exact HC0_6.out); (case side9 => exact bu BK494.out); rintro e w87 ⟨v499, rfl, ho0, hb⟩; refine ⟨_, rfl, ?_⟩; have n0_ := Aside0.mk (Kd.R_lower ho0 (below_size bl)); have n1_ := Aside0.mk (blk_below (bu BK494.out) hb); have n2_ := Aside0.mk (blk_below (bu BK495.out) hb); have n3_ := Aside0.mk (below_step bl hb); clear BK494; clear BK495; clear HB; have HO500 := n0_; have BK494 := n1_; have BK495 := n2_; have HB := n3_; clear n0_ n1_ n2_ n3_; (try clear hb); (try clear hb2); (try clear hk); (try clear hi); (try clear ho0); have hcz88 := blk_cells BK495.out; have hfz88 := blk_frozens BK495.out) | ((with_reducible refine gate_callee (f := 19) rfl ?_); refine goesL_ (some 29) rfl rfl Tryd.func19 (by kernel_rfl) rfl #[.agg #[.int .i64 a0_0, .int .i64 a0_1, .int .i64 a0_2, .slice A0_3 l0_3.length c0_3, .slice A0_4 l0_4.length c0_4, .slice A0_5 l0_5.length c0_5, .slice A0_6 l0_6.length c0_6]] rfl mp1 ?_; (with_reducible refine (cutting_Check.calls kj2 a0_0 a0_1 a0_2 _ _ l0_3 (fun k_ => k_ < w.heap.size) _ _ l0_4 (fun k_ => k_ < w.heap.size) _ _ l0_5 (fun k_ => k_ < w.heap.size) _ _ l0_6 t503 _ ?side1 ?side2 ?side3 ?side4 ?side5 A17.out).mono ?_); (case side1 => exact cu1 (Kd.C_below HR0_3.out HB.out)); (case side2 => exact HC0_3.out); (case side3 => exact Kd.V_mk HC0_4.out (Kd.F_below (Kd.C_F (Kd.heap_slice 3 (Kd.heap_int .i64)) HR0_4.out) bl)); (case side4 => exact Kd.V_mk HC0_5.out (Kd.F_below (Kd.C_F (Kd.heap_int .i64) HR0_5.out) bl)); (case side5 => exact Kd.V_mk HC0_6.out (Kd.F_below (Kd.C_F (Kd.heap_int .i64) HR0_6.out) bl)); rintro e w89 ⟨rfl, hb⟩; refine ⟨_, rfl, ?_⟩; have n0_ := Aside0.mk (Kd.R_below (ru HO500.out) hb); have n1_ := Aside0.mk (blk_below (bu BK494.out) hb); have n2_ := Aside0.mk (blk_below (bu BK495.out) hb); have n3_ := Aside0.mk (below_step bl hb); clear HO500; clear BK494; clear BK495; clear HB; have HO500 := n0_; have BK494 := n1_; have BK495 := n2_; have HB := n3_; clear n0_ n1_ n2_ n3_; (try clear hb); (try clear hb2); (try clear hk); (try clear hi)))
   go_ret
   exact ⟨fe1, bl⟩
 rw [if_pos c18] at H
 have c18b0 : (t502 == t503) = true := beq_iff_eq.mpr c18
 have c18b1 : (t502 != t503) = false := bne_eq_false_iff_eq.mpr c18
 clear c18
 by_cases c19 : t502 = 0
 rotate_left
 · rw [if_neg c19] at H
   have c19b0 : (t502 == 0) = false := beq_eq_false_iff_ne.mpr c19
   have c19b1 : (t502 != 0) = true := bne_iff_ne.mpr c19
   by_cases c63 : (t498.length : Int) = 0
   rotate_left
   · rw [if_neg c63] at H
     have c63b0 : ((t498.length : Int) == 0) = false := beq_eq_false_iff_ne.mpr c63
     have c63b1 : ((t498.length : Int) != 0) = true := bne_iff_ne.mpr c63
     have c63b2 : ¬ (t498 = []) := fun h_ => c63 (by rw [h_]; rfl)
     obtain rfl := Option.some.inj H
     have hnb79 := NB495_494.out
     have hnc79 := NB494_495.out
     have hcz80 := blk_cells BK495.out
     have hfz80 := blk_frozens BK495.out
     exact L7_0
   rw [if_pos c63] at H
   have c63b0 : ((t498.length : Int) == 0) = true := beq_iff_eq.mpr c63
   have c63b1 : ((t498.length : Int) != 0) = false := bne_eq_false_iff_eq.mpr c63
   clear c63
   by_cases c64 : t501 = 0
   rotate_left
   · rw [if_neg c64] at H
     have c64b0 : (t501 == 0) = false := beq_eq_false_iff_ne.mpr c64
     have c64b1 : (t501 != 0) = true := bne_iff_ne.mpr c64
     obtain rfl := Option.some.inj H
     have hnb73 := NB495_494.out
     have hnc73 := NB494_495.out
     have hcz74 := blk_cells BK495.out
     have hfz74 := blk_frozens BK495.out
     exact L7_0
   rw [if_pos c64] at H
   have c64b0 : (t501 == 0) = true := beq_iff_eq.mpr c64
   have c64b1 : (t501 != 0) = false := bne_eq_false_iff_eq.mpr c64
   clear c64
   replace H := Option.bind_eq_some_iff.mp H
   obtain ⟨t504, A650, H⟩ := H
   replace H : (some t504) = some r := H
   have A65 := Aside0.mk A650
   clear A650
   obtain rfl := Option.some.inj H
   have hnb66 := NB495_494.out
   have hnc66 := NB494_495.out
   have hcz67 := blk_cells BK495.out
   have hfz67 := blk_frozens BK495.out
   go_wp2_with (first | ((with_reducible refine gate_callee (f := 27) rfl ?_); refine goesL_ (some 23) rfl rfl Tryd.func27 (by kernel_rfl) rfl #[.agg #[.int .i64 a0_0, .int .i64 a0_1, .int .i64 a0_2, .slice A0_3 l0_3.length c0_3, .slice A0_4 l0_4.length c0_4, .slice A0_5 l0_5.length c0_5, .slice A0_6 l0_6.length c0_6]] rfl mp1 ?_; (with_reducible refine (cutting_Best.calls kj2 a0_0 a0_1 a0_2 _ _ l0_3 _ _ l0_4 _ _ l0_5 _ _ l0_6 t498 t501 t502 _ ?side1 ?side2 ?side3 ?side4 ?side5 ?side6 ?side7 ?side8 ?side9 A16.out).mono ?_); (case side1 => exact cu1 (Kd.C_below HR0_3.out HB.out)); (case side2 => exact HC0_3.out); (case side3 => exact cu1 (Kd.C_below HR0_4.out HB.out)); (case side4 => exact HC0_4.out); (case side5 => exact cu1 (Kd.C_below HR0_5.out HB.out)); (case side6 => exact HC0_5.out); (case side7 => exact cu1 (Kd.C_below HR0_6.out HB.out)); (case side8 => exact HC0_6.out); (case side9 => exact bu BK494.out); rintro e w68 ⟨v499, rfl, ho0, hb⟩; refine ⟨_, rfl, ?_⟩; have n0_ := Aside0.mk (Kd.R_lower ho0 (below_size bl)); have n1_ := Aside0.mk (blk_below (bu BK494.out) hb); have n2_ := Aside0.mk (blk_below (bu BK495.out) hb); have n3_ := Aside0.mk (below_step bl hb); clear BK494; clear BK495; clear HB; have HO500 := n0_; have BK494 := n1_; have BK495 := n2_; have HB := n3_; clear n0_ n1_ n2_ n3_; (try clear hb); (try clear hb2); (try clear hk); (try clear hi); (try clear ho0); have hcz69 := blk_cells BK495.out; have hfz69 := blk_frozens BK495.out) | ((with_reducible refine gate_callee (f := 19) rfl ?_); refine goesL_ (some 29) rfl rfl Tryd.func19 (by kernel_rfl) rfl #[.agg #[.int .i64 a0_0, .int .i64 a0_1, .int .i64 a0_2, .slice A0_3 l0_3.length c0_3, .slice A0_4 l0_4.length c0_4, .slice A0_5 l0_5.length c0_5, .slice A0_6 l0_6.length c0_6]] rfl mp1 ?_; (with_reducible refine (cutting_Check.calls kj2 a0_0 a0_1 a0_2 _ _ l0_3 (fun k_ => k_ < w.heap.size) _ _ l0_4 (fun k_ => k_ < w.heap.size) _ _ l0_5 (fun k_ => k_ < w.heap.size) _ _ l0_6 t503 _ ?side1 ?side2 ?side3 ?side4 ?side5 A17.out).mono ?_); (case side1 => exact cu1 (Kd.C_below HR0_3.out HB.out)); (case side2 => exact HC0_3.out); (case side3 => exact Kd.V_mk HC0_4.out (Kd.F_below (Kd.C_F (Kd.heap_slice 3 (Kd.heap_int .i64)) HR0_4.out) bl)); (case side4 => exact Kd.V_mk HC0_5.out (Kd.F_below (Kd.C_F (Kd.heap_int .i64) HR0_5.out) bl)); (case side5 => exact Kd.V_mk HC0_6.out (Kd.F_below (Kd.C_F (Kd.heap_int .i64) HR0_6.out) bl)); rintro e w70 ⟨rfl, hb⟩; refine ⟨_, rfl, ?_⟩; have n0_ := Aside0.mk (Kd.R_below (ru HO500.out) hb); have n1_ := Aside0.mk (blk_below (bu BK494.out) hb); have n2_ := Aside0.mk (blk_below (bu BK495.out) hb); have n3_ := Aside0.mk (below_step bl hb); clear HO500; clear BK494; clear BK495; clear HB; have HO500 := n0_; have BK494 := n1_; have BK495 := n2_; have HB := n3_; clear n0_ n1_ n2_ n3_; (try clear hb); (try clear hb2); (try clear hk); (try clear hi); obtain ⟨Ao71, co71, eo71⟩ := Kd.R_slice HO500.out; subst eo71) | (go_at_call 18; (with_reducible refine (sawmilllaw17_awake.calls  t504 _ ?side1 A65.out).mono ?_); (case side1 => exact bu BK494.out); rintro e w72 ⟨rfl, hb⟩; have n0_ := Aside0.mk (Kd.R_below (ru HO500.out) hb); have n1_ := Aside0.mk (blk_below (bu BK494.out) hb); have n2_ := Aside0.mk (blk_below (bu BK495.out) hb); have n3_ := Aside0.mk (below_step bl hb); clear HO500; clear BK494; clear BK495; clear HB; have HO500 := n0_; have BK494 := n1_; have BK495 := n2_; have HB := n3_; clear n0_ n1_ n2_ n3_; (try clear hb); (try clear hb2); (try clear hk); (try clear hi)))
   go_ret
   exact ⟨fe1, bl⟩
 rw [if_pos c19] at H
 have c19b0 : (t502 == 0) = true := beq_iff_eq.mpr c19
 have c19b1 : (t502 != 0) = false := bne_eq_false_iff_eq.mpr c19
 clear c19
 replace H := Option.bind_eq_some_iff.mp H
 obtain ⟨⟨t505, t506⟩, A200, H⟩ := H
 replace H : (if t506 = 0 then (sawmilllaw17_CuttingBest.j1 kj2 l1 t498 t501 (t505 != t501) a0_0 a0_1 a0_2 l0_3 l0_4 l0_5 l0_6) else (sawmilllaw17_CuttingBest.j1 kj2 l1 t498 t501 true a0_0 a0_1 a0_2 l0_3 l0_4 l0_5 l0_6)) = some r := H
 have A20 := Aside0.mk A200
 clear A200
 have HC21 := Aside0.mk H
 clear H
 have hnb22 := NB495_494.out
 have hnc22 := NB494_495.out
 have hcz23 := blk_cells BK495.out
 have hfz23 := blk_frozens BK495.out
 go_upto_region 9 with (first | ((with_reducible refine gate_callee (f := 27) rfl ?_); refine goesL_ (some 23) rfl rfl Tryd.func27 (by kernel_rfl) rfl #[.agg #[.int .i64 a0_0, .int .i64 a0_1, .int .i64 a0_2, .slice A0_3 l0_3.length c0_3, .slice A0_4 l0_4.length c0_4, .slice A0_5 l0_5.length c0_5, .slice A0_6 l0_6.length c0_6]] rfl mp1 ?_; (with_reducible refine (cutting_Best.calls kj2 a0_0 a0_1 a0_2 _ _ l0_3 _ _ l0_4 _ _ l0_5 _ _ l0_6 t498 t501 t502 _ ?side1 ?side2 ?side3 ?side4 ?side5 ?side6 ?side7 ?side8 ?side9 A16.out).mono ?_); (case side1 => exact cu1 (Kd.C_below HR0_3.out HB.out)); (case side2 => exact HC0_3.out); (case side3 => exact cu1 (Kd.C_below HR0_4.out HB.out)); (case side4 => exact HC0_4.out); (case side5 => exact cu1 (Kd.C_below HR0_5.out HB.out)); (case side6 => exact HC0_5.out); (case side7 => exact cu1 (Kd.C_below HR0_6.out HB.out)); (case side8 => exact HC0_6.out); (case side9 => exact bu BK494.out); rintro e w24 ⟨v499, rfl, ho0, hb⟩; refine ⟨_, rfl, ?_⟩; have n0_ := Aside0.mk (Kd.R_lower ho0 (below_size bl)); have n1_ := Aside0.mk (blk_below (bu BK494.out) hb); have n2_ := Aside0.mk (blk_below (bu BK495.out) hb); have n3_ := Aside0.mk (below_step bl hb); clear BK494; clear BK495; clear HB; have HO500 := n0_; have BK494 := n1_; have BK495 := n2_; have HB := n3_; clear n0_ n1_ n2_ n3_; (try clear hb); (try clear hb2); (try clear hk); (try clear hi); (try clear ho0); have hcz25 := blk_cells BK495.out; have hfz25 := blk_frozens BK495.out) | ((with_reducible refine gate_callee (f := 19) rfl ?_); refine goesL_ (some 29) rfl rfl Tryd.func19 (by kernel_rfl) rfl #[.agg #[.int .i64 a0_0, .int .i64 a0_1, .int .i64 a0_2, .slice A0_3 l0_3.length c0_3, .slice A0_4 l0_4.length c0_4, .slice A0_5 l0_5.length c0_5, .slice A0_6 l0_6.length c0_6]] rfl mp1 ?_; (with_reducible refine (cutting_Check.calls kj2 a0_0 a0_1 a0_2 _ _ l0_3 (fun k_ => k_ < w.heap.size) _ _ l0_4 (fun k_ => k_ < w.heap.size) _ _ l0_5 (fun k_ => k_ < w.heap.size) _ _ l0_6 t503 _ ?side1 ?side2 ?side3 ?side4 ?side5 A17.out).mono ?_); (case side1 => exact cu1 (Kd.C_below HR0_3.out HB.out)); (case side2 => exact HC0_3.out); (case side3 => exact Kd.V_mk HC0_4.out (Kd.F_below (Kd.C_F (Kd.heap_slice 3 (Kd.heap_int .i64)) HR0_4.out) bl)); (case side4 => exact Kd.V_mk HC0_5.out (Kd.F_below (Kd.C_F (Kd.heap_int .i64) HR0_5.out) bl)); (case side5 => exact Kd.V_mk HC0_6.out (Kd.F_below (Kd.C_F (Kd.heap_int .i64) HR0_6.out) bl)); rintro e w26 ⟨rfl, hb⟩; refine ⟨_, rfl, ?_⟩; have n0_ := Aside0.mk (Kd.R_below (ru HO500.out) hb); have n1_ := Aside0.mk (blk_below (bu BK494.out) hb); have n2_ := Aside0.mk (blk_below (bu BK495.out) hb); have n3_ := Aside0.mk (below_step bl hb); clear HO500; clear BK494; clear BK495; clear HB; have HO500 := n0_; have BK494 := n1_; have BK495 := n2_; have HB := n3_; clear n0_ n1_ n2_ n3_; (try clear hb); (try clear hb2); (try clear hk); (try clear hi); have hcz27 := blk_cells BK495.out; have hfz27 := blk_frozens BK495.out; obtain ⟨Ao28, co28, eo28⟩ := Kd.R_slice HO500.out; subst eo28) | ((with_reducible refine gate_callee (f := 23) rfl ?_); refine goesL_ (some 46) rfl rfl Tryd.func23 (by kernel_rfl) rfl #[.agg #[.int .i64 a0_0, .int .i64 a0_1, .int .i64 a0_2, .slice A0_3 l0_3.length c0_3, .slice A0_4 l0_4.length c0_4, .slice A0_5 l0_5.length c0_5, .slice A0_6 l0_6.length c0_6], .slice Ao28 t498.length co28] rfl mp1 ?_; (with_reducible refine (cutting_Value.calls kj2 a0_0 a0_1 a0_2 _ _ l0_3 _ _ l0_4 _ _ l0_5 _ _ l0_6 _ _ t498 t505 t506 _ ?side1 ?side2 ?side3 ?side4 ?side5 ?side6 ?side7 ?side8 ?side9 ?side10 A20.out).mono ?_); (case side1 => exact cu1 (Kd.C_below HR0_3.out HB.out)); (case side2 => exact HC0_3.out); (case side3 => exact cu1 (Kd.C_below HR0_4.out HB.out)); (case side4 => exact HC0_4.out); (case side5 => exact cu1 (Kd.C_below HR0_5.out HB.out)); (case side6 => exact HC0_5.out); (case side7 => exact cu1 (Kd.C_below HR0_6.out HB.out)); (case side8 => exact HC0_6.out); (case side9 => repeat (first | exact (Kd.R_reads' HO500.out).2.2 | (with_reducible refine Kd.C_alloc ?_ _) | (with_reducible refine Kd.C_drewN ?_ _) | (with_reducible refine Kd.C_drew ?_))); (case side10 => exact (Kd.R_reads' HO500.out).2.1); rintro e w29 ⟨rfl, hb⟩; refine ⟨_, rfl, ?_⟩; have n0_ := Aside0.mk (Kd.R_below (ru HO500.out) hb); have n1_ := Aside0.mk (blk_below (bu BK494.out) hb); have n2_ := Aside0.mk (blk_below (bu BK495.out) hb); have n3_ := Aside0.mk (below_step bl hb); clear HO500; clear BK494; clear BK495; clear HB; have HO500 := n0_; have BK494 := n1_; have BK495 := n2_; have HB := n3_; clear n0_ n1_ n2_ n3_; (try clear hb); (try clear hb2); (try clear hk); (try clear hi)))
 (try simp only [Act.put, List.setIfInBounds_toArray, List.set_cons_zero, List.set_cons_succ])
 go_cut [55] (fun v55 wc => ∃ (kq : Nat) (x55_20 : Bool), v55 = .bool x55_20 ∧ Aside0 (sawmilllaw17_CuttingBest.j1 kq l1 t498 t501 x55_20 a0_0 a0_1 a0_2 l0_3 l0_4 l0_5 l0_6 = some r) ∧ Aside0 (kq ≤ kj2) ∧ Aside0 (Kd.R k69 69 wc w.heap.size (fun _ => True) (.slice Ao28 t498.length co28) t498) ∧ Aside0 (wc.heap[0]? = some (.cells #[.int .i64 (-1), .int .i64 (-1), .int .i64 0] 97 (0, 0))) ∧ Aside0 (wc.heap[gb495]? = some (.cells #[.int .i64 a0_0, .int .i64 a0_1, .int .i64 a0_2, (.slice A0_3 l0_3.length c0_3), (.slice A0_4 l0_4.length c0_4), (.slice A0_5 l0_5.length c0_5), (.slice A0_6 l0_6.length c0_6)] 25 (0, 0))) ∧ Aside0 (Below w.heap.size w wc))
 case first =>
  have H := HC21.out
  clear HC21
  by_cases c30 : t506 = 0
  rotate_left
  · rw [if_neg c30] at H
    have c30b0 : (t506 == 0) = false := beq_eq_false_iff_ne.mpr c30
    have c30b1 : (t506 != 0) = true := bne_iff_ne.mpr c30
    (first | rw [c30b0] | (simp only [i64_w, i32_w]; rw [c30b0]) | skip)
    have H' := Aside0.mk H
    clear H
    go_wp2
    go_meet
    case rel => exact ⟨_, (true), rs1, H', ⟨by have := HJ2.out; first | omega | exact Nat.le_refl _⟩, ⟨by (with_reducible repeat (first | apply Kd.R_alloc | apply Kd.R_drewN | apply Kd.R_drew)); exact HO500.out⟩, ⟨bu BK494.out⟩, ⟨bu BK495.out⟩, ⟨bl⟩⟩
  rw [if_pos c30] at H
  have c30b0 : (t506 == 0) = true := beq_iff_eq.mpr c30
  have c30b1 : (t506 != 0) = false := bne_eq_false_iff_eq.mpr c30
  clear c30
  (first | rw [c30b0] | (simp only [i64_w, i32_w]; rw [c30b0]) | skip)
  have H' := Aside0.mk H
  clear H
  go_wp2
  go_meet
  case rel => exact ⟨_, ((t505 != t501)), rs1, H', ⟨by have := HJ2.out; first | omega | exact Nat.le_refl _⟩, ⟨by (with_reducible repeat (first | apply Kd.R_alloc | apply Kd.R_drewN | apply Kd.R_drew)); exact HO500.out⟩, ⟨bu BK494.out⟩, ⟨bu BK495.out⟩, ⟨bl⟩⟩
 clear HC21; (try clear c1); (try clear c2); (try clear p2); (try clear c3); (try clear c6); (try clear c7); (try clear c10); (try clear c13); (try clear c18); (try clear c18b0); (try clear c18b1); (try clear c19); (try clear c19b0); (try clear c19b1); (try clear c22); (try clear c23); (try clear c26); (try clear c27); (try clear c30); (try clear c30b0); (try clear c30b1); (try clear hcz11); (try clear hcz23); (try clear hcz25); (try clear hcz27); (try clear hcz8); (try clear hfz11); (try clear hfz23); (try clear hfz25); (try clear hfz27); (try clear hfz8); (try clear p2)
 obtain ⟨kq, x55_20, rfl, HA, HJ20, HO_5, BK494, BK495, HB⟩ := hcut
 rcases kq with _ | kj20
 · exact absurd HA.out (by simp [sawmilllaw17_CuttingBest.j1])
 have H := HA.out
 clear HA
 simp only [sawmilllaw17_CuttingBest.j1] at H
 by_cases c31 : x55_20 = true
 · subst c31
   have H1 : (some false) = some r := by rw [if_pos rfl] at H; exact H
   clear H
   have H := H1
   clear H1
   obtain rfl := Option.some.inj H
   go_wp2
   go_ret
   exact ⟨fe1, bl⟩
 replace c31 := Bool.eq_false_iff.mpr c31
 subst c31
 have H1 : ((cutting_Value.f kj20 a0_0 a0_1 a0_2 l0_3 l0_4 l0_5 l0_6 l1).bind fun bt507 => (if bt507.2 = 0 then (if bt507.1 ≤ t501 then (if bt507.1 < t501 then ((sawmilllaw17_awake.f).bind fun t509 => (some t509)) else ((sawmilllaw17_before.f kj20 l1 t498).bind fun t510 => (if t510 = true then (some false) else ((sawmilllaw17_awake.f).bind fun t511 => (some t511))))) else (some false)) else (if bt507.1 = 0 then ((sawmilllaw17_awake.f).bind fun t512 => (some t512)) else (some false)))) = some r := by rw [if_neg (show ¬ (false = true) by decide)] at H; exact H
 clear H
 have H := H1
 clear H1
 replace H := Option.bind_eq_some_iff.mp H
 obtain ⟨⟨t507, t508⟩, A320, H⟩ := H
 replace H : (if t508 = 0 then (if t507 ≤ t501 then (if t507 < t501 then ((sawmilllaw17_awake.f).bind fun t509 => (some t509)) else ((sawmilllaw17_before.f kj20 l1 t498).bind fun t510 => (if t510 = true then (some false) else ((sawmilllaw17_awake.f).bind fun t511 => (some t511))))) else (some false)) else (if t507 = 0 then ((sawmilllaw17_awake.f).bind fun t512 => (some t512)) else (some false))) = some r := H
 have A32 := Aside0.mk A320
 clear A320
 by_cases c33 : t508 = 0
 rotate_left
 · rw [if_neg c33] at H
   have c33b0 : (t508 == 0) = false := beq_eq_false_iff_ne.mpr c33
   have c33b1 : (t508 != 0) = true := bne_iff_ne.mpr c33
   by_cases c54 : t507 = 0
   rotate_left
   · rw [if_neg c54] at H
     have c54b0 : (t507 == 0) = false := beq_eq_false_iff_ne.mpr c54
     have c54b1 : (t507 != 0) = true := bne_iff_ne.mpr c54
     obtain rfl := Option.some.inj H
     have hnb60 := NB495_494.out
     have hnc60 := NB494_495.out
     have hcz61 := blk_cells BK495.out
     have hfz61 := blk_frozens BK495.out
     exact L7_1
   rw [if_pos c54] at H
   have c54b0 : (t507 == 0) = true := beq_iff_eq.mpr c54
   have c54b1 : (t507 != 0) = false := bne_eq_false_iff_eq.mpr c54
   clear c54
   replace H := Option.bind_eq_some_iff.mp H
   obtain ⟨t512, A550, H⟩ := H
   replace H : (some t512) = some r := H
   have A55 := Aside0.mk A550
   clear A550
   obtain rfl := Option.some.inj H
   have hnb56 := NB495_494.out
   have hnc56 := NB494_495.out
   have hcz57 := blk_cells BK495.out
   have hfz57 := blk_frozens BK495.out
   go_wp2_with (first | ((with_reducible refine gate_callee (f := 23) rfl ?_); refine goesL_ (some 59) rfl rfl Tryd.func23 (by kernel_rfl) rfl #[.agg #[.int .i64 a0_0, .int .i64 a0_1, .int .i64 a0_2, .slice A0_3 l0_3.length c0_3, .slice A0_4 l0_4.length c0_4, .slice A0_5 l0_5.length c0_5, .slice A0_6 l0_6.length c0_6], .slice A1 l1.length c1] rfl mp1 ?_; (with_reducible refine (cutting_Value.calls kj20 a0_0 a0_1 a0_2 _ _ l0_3 _ _ l0_4 _ _ l0_5 _ _ l0_6 _ _ l1 t507 t508 _ ?side1 ?side2 ?side3 ?side4 ?side5 ?side6 ?side7 ?side8 ?side9 ?side10 A32.out).mono ?_); (case side1 => exact cu1 (Kd.C_below HR0_3.out HB.out)); (case side2 => exact HC0_3.out); (case side3 => exact cu1 (Kd.C_below HR0_4.out HB.out)); (case side4 => exact HC0_4.out); (case side5 => exact cu1 (Kd.C_below HR0_5.out HB.out)); (case side6 => exact HC0_5.out); (case side7 => exact cu1 (Kd.C_below HR0_6.out HB.out)); (case side8 => exact HC0_6.out); (case side9 => exact cu1 (Kd.C_below HR1.out HB.out)); (case side10 => exact HC1.out); rintro e w58 ⟨rfl, hb⟩; refine ⟨_, rfl, ?_⟩; have n0_ := Aside0.mk (Kd.R_below (ru HO_5.out) hb); have n1_ := Aside0.mk (blk_below (bu BK494.out) hb); have n2_ := Aside0.mk (blk_below (bu BK495.out) hb); have n3_ := Aside0.mk (below_step bl hb); clear HO_5; clear BK494; clear BK495; clear HB; have HO_5 := n0_; have BK494 := n1_; have BK495 := n2_; have HB := n3_; clear n0_ n1_ n2_ n3_; (try clear hb); (try clear hb2); (try clear hk); (try clear hi)) | (go_at_call 18; (with_reducible refine (sawmilllaw17_awake.calls  t512 _ ?side1 A55.out).mono ?_); (case side1 => exact bu BK494.out); rintro e w59 ⟨rfl, hb⟩; have n0_ := Aside0.mk (Kd.R_below (ru HO_5.out) hb); have n1_ := Aside0.mk (blk_below (bu BK494.out) hb); have n2_ := Aside0.mk (blk_below (bu BK495.out) hb); have n3_ := Aside0.mk (below_step bl hb); clear HO_5; clear BK494; clear BK495; clear HB; have HO_5 := n0_; have BK494 := n1_; have BK495 := n2_; have HB := n3_; clear n0_ n1_ n2_ n3_; (try clear hb); (try clear hb2); (try clear hk); (try clear hi)))
   go_ret
   exact ⟨fe1, bl⟩
 rw [if_pos c33] at H
 have c33b0 : (t508 == 0) = true := beq_iff_eq.mpr c33
 have c33b1 : (t508 != 0) = false := bne_eq_false_iff_eq.mpr c33
 clear c33
 by_cases c34 : t507 ≤ t501
 rotate_left
 · rw [if_neg c34] at H
   have c34b0 : decide (t507 ≤ t501) = false := decide_eq_false c34
   clear c34
   obtain rfl := Option.some.inj H
   have hnb51 := NB495_494.out
   have hnc51 := NB494_495.out
   have hcz52 := blk_cells BK495.out
   have hfz52 := blk_frozens BK495.out
   exact L7_1
 rw [if_pos c34] at H
 have c34b0 : decide (t507 ≤ t501) = true := decide_eq_true c34
 clear c34
 by_cases c35 : t507 < t501
 · rw [if_pos c35] at H
   have c35b0 : decide (t507 < t501) = true := decide_eq_true c35
   clear c35
   replace H := Option.bind_eq_some_iff.mp H
   obtain ⟨t509, A360, H⟩ := H
   replace H : (some t509) = some r := H
   have A36 := Aside0.mk A360
   clear A360
   obtain rfl := Option.some.inj H
   have hnb37 := NB495_494.out
   have hnc37 := NB494_495.out
   have hcz38 := blk_cells BK495.out
   have hfz38 := blk_frozens BK495.out
   go_wp2_with (first | ((with_reducible refine gate_callee (f := 23) rfl ?_); refine goesL_ (some 59) rfl rfl Tryd.func23 (by kernel_rfl) rfl #[.agg #[.int .i64 a0_0, .int .i64 a0_1, .int .i64 a0_2, .slice A0_3 l0_3.length c0_3, .slice A0_4 l0_4.length c0_4, .slice A0_5 l0_5.length c0_5, .slice A0_6 l0_6.length c0_6], .slice A1 l1.length c1] rfl mp1 ?_; (with_reducible refine (cutting_Value.calls kj20 a0_0 a0_1 a0_2 _ _ l0_3 _ _ l0_4 _ _ l0_5 _ _ l0_6 _ _ l1 t507 t508 _ ?side1 ?side2 ?side3 ?side4 ?side5 ?side6 ?side7 ?side8 ?side9 ?side10 A32.out).mono ?_); (case side1 => exact cu1 (Kd.C_below HR0_3.out HB.out)); (case side2 => exact HC0_3.out); (case side3 => exact cu1 (Kd.C_below HR0_4.out HB.out)); (case side4 => exact HC0_4.out); (case side5 => exact cu1 (Kd.C_below HR0_5.out HB.out)); (case side6 => exact HC0_5.out); (case side7 => exact cu1 (Kd.C_below HR0_6.out HB.out)); (case side8 => exact HC0_6.out); (case side9 => exact cu1 (Kd.C_below HR1.out HB.out)); (case side10 => exact HC1.out); rintro e w39 ⟨rfl, hb⟩; refine ⟨_, rfl, ?_⟩; have n0_ := Aside0.mk (Kd.R_below (ru HO_5.out) hb); have n1_ := Aside0.mk (blk_below (bu BK494.out) hb); have n2_ := Aside0.mk (blk_below (bu BK495.out) hb); have n3_ := Aside0.mk (below_step bl hb); clear HO_5; clear BK494; clear BK495; clear HB; have HO_5 := n0_; have BK494 := n1_; have BK495 := n2_; have HB := n3_; clear n0_ n1_ n2_ n3_; (try clear hb); (try clear hb2); (try clear hk); (try clear hi)) | (go_at_call 18; (with_reducible refine (sawmilllaw17_awake.calls  t509 _ ?side1 A36.out).mono ?_); (case side1 => exact bu BK494.out); rintro e w40 ⟨rfl, hb⟩; have n0_ := Aside0.mk (Kd.R_below (ru HO_5.out) hb); have n1_ := Aside0.mk (blk_below (bu BK494.out) hb); have n2_ := Aside0.mk (blk_below (bu BK495.out) hb); have n3_ := Aside0.mk (below_step bl hb); clear HO_5; clear BK494; clear BK495; clear HB; have HO_5 := n0_; have BK494 := n1_; have BK495 := n2_; have HB := n3_; clear n0_ n1_ n2_ n3_; (try clear hb); (try clear hb2); (try clear hk); (try clear hi)))
   go_ret
   exact ⟨fe1, bl⟩
 rw [if_neg c35] at H
 have c35b0 : decide (t507 < t501) = false := decide_eq_false c35
 clear c35
 replace H := Option.bind_eq_some_iff.mp H
 obtain ⟨t510, A410, H⟩ := H
 replace H : (if t510 = true then (some false) else ((sawmilllaw17_awake.f).bind fun t511 => (some t511))) = some r := H
 have A41 := Aside0.mk A410
 clear A410
 by_cases c42 : t510 = true
 · subst c42
   have H1 : (some false) = some r := by rw [if_pos rfl] at H; exact H
   clear H
   have H := H1
   clear H1
   obtain rfl := Option.some.inj H
   have hnb43 := NB495_494.out
   have hnc43 := NB494_495.out
   have hcz44 := blk_cells BK495.out
   have hfz44 := blk_frozens BK495.out
   go_wp2_with (first | ((with_reducible refine gate_callee (f := 23) rfl ?_); refine goesL_ (some 59) rfl rfl Tryd.func23 (by kernel_rfl) rfl #[.agg #[.int .i64 a0_0, .int .i64 a0_1, .int .i64 a0_2, .slice A0_3 l0_3.length c0_3, .slice A0_4 l0_4.length c0_4, .slice A0_5 l0_5.length c0_5, .slice A0_6 l0_6.length c0_6], .slice A1 l1.length c1] rfl mp1 ?_; (with_reducible refine (cutting_Value.calls kj20 a0_0 a0_1 a0_2 _ _ l0_3 _ _ l0_4 _ _ l0_5 _ _ l0_6 _ _ l1 t507 t508 _ ?side1 ?side2 ?side3 ?side4 ?side5 ?side6 ?side7 ?side8 ?side9 ?side10 A32.out).mono ?_); (case side1 => exact cu1 (Kd.C_below HR0_3.out HB.out)); (case side2 => exact HC0_3.out); (case side3 => exact cu1 (Kd.C_below HR0_4.out HB.out)); (case side4 => exact HC0_4.out); (case side5 => exact cu1 (Kd.C_below HR0_5.out HB.out)); (case side6 => exact HC0_5.out); (case side7 => exact cu1 (Kd.C_below HR0_6.out HB.out)); (case side8 => exact HC0_6.out); (case side9 => exact cu1 (Kd.C_below HR1.out HB.out)); (case side10 => exact HC1.out); rintro e w45 ⟨rfl, hb⟩; refine ⟨_, rfl, ?_⟩; have n0_ := Aside0.mk (Kd.R_below (ru HO_5.out) hb); have n1_ := Aside0.mk (blk_below (bu BK494.out) hb); have n2_ := Aside0.mk (blk_below (bu BK495.out) hb); have n3_ := Aside0.mk (below_step bl hb); clear HO_5; clear BK494; clear BK495; clear HB; have HO_5 := n0_; have BK494 := n1_; have BK495 := n2_; have HB := n3_; clear n0_ n1_ n2_ n3_; (try clear hb); (try clear hb2); (try clear hk); (try clear hi)) | (go_at_call 33; (with_reducible refine (sawmilllaw17_before.calls kj20 _ _ l1 _ _ t498 true _ ?side1 ?side2 ?side3 ?side4 A41.out).mono ?_); (case side1 => exact cu1 (Kd.C_below HR1.out HB.out)); (case side2 => exact HC1.out); (case side3 => repeat (first | exact (Kd.R_reads' HO_5.out).2.2 | (with_reducible refine Kd.C_alloc ?_ _) | (with_reducible refine Kd.C_drewN ?_ _) | (with_reducible refine Kd.C_drew ?_))); (case side4 => exact (Kd.R_reads' HO_5.out).2.1); rintro e w' ⟨rfl, ⟨nd, rfl⟩⟩))
   go_ret
   exact ⟨fe1, bl⟩
 replace c42 := Bool.eq_false_iff.mpr c42
 subst c42
 have H1 : ((sawmilllaw17_awake.f).bind fun t511 => (some t511)) = some r := by rw [if_neg (show ¬ (false = true) by decide)] at H; exact H
 clear H
 have H := H1
 clear H1
 replace H := Option.bind_eq_some_iff.mp H
 obtain ⟨t511, A460, H⟩ := H
 replace H : (some t511) = some r := H
 have A46 := Aside0.mk A460
 clear A460
 obtain rfl := Option.some.inj H
 have hnb47 := NB495_494.out
 have hnc47 := NB494_495.out
 have hcz48 := blk_cells BK495.out
 have hfz48 := blk_frozens BK495.out
 go_wp2_with (first | ((with_reducible refine gate_callee (f := 23) rfl ?_); refine goesL_ (some 59) rfl rfl Tryd.func23 (by kernel_rfl) rfl #[.agg #[.int .i64 a0_0, .int .i64 a0_1, .int .i64 a0_2, .slice A0_3 l0_3.length c0_3, .slice A0_4 l0_4.length c0_4, .slice A0_5 l0_5.length c0_5, .slice A0_6 l0_6.length c0_6], .slice A1 l1.length c1] rfl mp1 ?_; (with_reducible refine (cutting_Value.calls kj20 a0_0 a0_1 a0_2 _ _ l0_3 _ _ l0_4 _ _ l0_5 _ _ l0_6 _ _ l1 t507 t508 _ ?side1 ?side2 ?side3 ?side4 ?side5 ?side6 ?side7 ?side8 ?side9 ?side10 A32.out).mono ?_); (case side1 => exact cu1 (Kd.C_below HR0_3.out HB.out)); (case side2 => exact HC0_3.out); (case side3 => exact cu1 (Kd.C_below HR0_4.out HB.out)); (case side4 => exact HC0_4.out); (case side5 => exact cu1 (Kd.C_below HR0_5.out HB.out)); (case side6 => exact HC0_5.out); (case side7 => exact cu1 (Kd.C_below HR0_6.out HB.out)); (case side8 => exact HC0_6.out); (case side9 => exact cu1 (Kd.C_below HR1.out HB.out)); (case side10 => exact HC1.out); rintro e w49 ⟨rfl, hb⟩; refine ⟨_, rfl, ?_⟩; have n0_ := Aside0.mk (Kd.R_below (ru HO_5.out) hb); have n1_ := Aside0.mk (blk_below (bu BK494.out) hb); have n2_ := Aside0.mk (blk_below (bu BK495.out) hb); have n3_ := Aside0.mk (below_step bl hb); clear HO_5; clear BK494; clear BK495; clear HB; have HO_5 := n0_; have BK494 := n1_; have BK495 := n2_; have HB := n3_; clear n0_ n1_ n2_ n3_; (try clear hb); (try clear hb2); (try clear hk); (try clear hi)) | (go_at_call 33; (with_reducible refine (sawmilllaw17_before.calls kj20 _ _ l1 _ _ t498 false _ ?side1 ?side2 ?side3 ?side4 A41.out).mono ?_); (case side1 => exact cu1 (Kd.C_below HR1.out HB.out)); (case side2 => exact HC1.out); (case side3 => repeat (first | exact (Kd.R_reads' HO_5.out).2.2 | (with_reducible refine Kd.C_alloc ?_ _) | (with_reducible refine Kd.C_drewN ?_ _) | (with_reducible refine Kd.C_drew ?_))); (case side4 => exact (Kd.R_reads' HO_5.out).2.1); rintro e w' ⟨rfl, ⟨nd, rfl⟩⟩) | (go_at_call 18; (with_reducible refine (sawmilllaw17_awake.calls  t511 _ ?side1 A46.out).mono ?_); (case side1 => exact bu BK494.out); rintro e w50 ⟨rfl, hb⟩; have n0_ := Aside0.mk (Kd.R_below (ru HO_5.out) hb); have n1_ := Aside0.mk (blk_below (bu BK494.out) hb); have n2_ := Aside0.mk (blk_below (bu BK495.out) hb); have n3_ := Aside0.mk (below_step bl hb); clear HO_5; clear BK494; clear BK495; clear HB; have HO_5 := n0_; have BK494 := n1_; have BK495 := n2_; have HB := n3_; clear n0_ n1_ n2_ n3_; (try clear hb); (try clear hb2); (try clear hk); (try clear hi)))
 go_ret
 exact ⟨fe1, bl⟩
end Go.Proofs.YtoaicheopcojoaaDoor.P
