import Derived.Test.YtoaicheopcojoaaDoorF24d
import Derived.Test.YtoaicheopcojoaaDoorF22
namespace Go.Proofs.YtoaicheopcojoaaDoor.P
open Go.RowKit Go.Proofs.YtoaicheopcojoaaDoorW.PrintWords Go.Proofs.YtoaicheopcojoaaDoorW.PrintLast Go.Proofs.YtoaicheopcojoaaDoorW.PrintMore
attribute [local go_sem] max2_int min2_int max_two min_two max_three min_three max_four min_four   -- for this text's walks alone
set_option linter.unusedVariables false
set_option linter.unusedSimpArgs false
set_option maxHeartbeats 8000000 in
set_option maxRecDepth 100000 in
theorem sawmillref17_Value.calls (k : Nat) (a0_0 : Int) (a0_1 : Int) (a0_2 : Int) (A0_3 : Option Addr) (c0_3 : Nat) (l0_3 : List Int) (A0_4 : Option Addr) (c0_4 : Nat) (l0_4 : List (List Int)) (A0_5 : Option Addr) (c0_5 : Nat) (l0_5 : List Int) (A0_6 : Option Addr) (c0_6 : Nat) (l0_6 : List Int) (A1 : Option Addr) (c1 : Nat) (l1 : List (S69)) (r1 : Int) (r2 : Int) (w : World) (hr0_3 : Kd.C (Kd.int .i64) w A0_3 l0_3.length l0_3) (hc0_3 : l0_3.length ≤ c0_3) (hr0_4 : Kd.C (Kd.slice 3 (Kd.int .i64)) w A0_4 l0_4.length l0_4) (hc0_4 : l0_4.length ≤ c0_4) (hr0_5 : Kd.C (Kd.int .i64) w A0_5 l0_5.length l0_5) (hc0_5 : l0_5.length ≤ c0_5) (hr0_6 : Kd.C (Kd.int .i64) w A0_6 l0_6.length l0_6) (hc0_6 : l0_6.length ≤ c0_6) (hr1 : Kd.C k69 w A1 l1.length l1) (hc1 : l1.length ≤ c1) (h : sawmillref17_Value.f k a0_0 a0_1 a0_2 l0_3 l0_4 l0_5 l0_6 l1 = some (r1, r2)) :
    Calls Tryd.prog 24 #[.agg #[.int .i64 a0_0, .int .i64 a0_1, .int .i64 a0_2, .slice A0_3 l0_3.length c0_3, .slice A0_4 l0_4.length c0_4, .slice A0_5 l0_5.length c0_5, .slice A0_6 l0_6.length c0_6], .slice A1 l1.length c1] w fun e w' => e = .returned (.tuple #[.int .i64 r1, .int .i64 r2]) ∧ Below w.heap.size w w' := by
 have hu25 := Tryd.underlying25
 have HR0_3 := Aside0.mk hr0_3
 have HC0_3 := Aside0.mk hc0_3
 clear hr0_3 hc0_3
 have HR0_4 := Aside0.mk hr0_4
 have HC0_4 := Aside0.mk hc0_4
 clear hr0_4 hc0_4
 have HR0_5 := Aside0.mk hr0_5
 have HC0_5 := Aside0.mk hc0_5
 clear hr0_5 hc0_5
 have HR0_6 := Aside0.mk hr0_6
 have HC0_6 := Aside0.mk hc0_6
 clear hr0_6 hc0_6
 have HR1 := Aside0.mk hr1
 have HC1 := Aside0.mk hc1
 clear hr1 hc1
 have HB := Aside0.mk (Below.refl w.heap.size w)
 have H : ((sawmillref17_Cuts.f k a0_0 a0_1 a0_2 l0_3 l0_4 l0_5 l0_6 l1).bind fun bt298 => (if bt298.2.2 = 0 then ((sawmillref17_sum.f k l0_6 bt298.1).bind fun t305 => ((sawmillref17_sum.f k l0_5 bt298.2.1).bind fun t306 => (sawmillref17_Value.l0 k l1 (wrap64 (t305 + t306)) 0 a0_0 a0_1 a0_2 l0_3 l0_4 l0_5 l0_6))) else (some (0, bt298.2.2)))) = some (r1, r2) := h
 clear h
 replace H := Option.bind_eq_some_iff.mp H
 obtain ⟨⟨t298, t301, t304⟩, A30, H⟩ := H
 replace H : (if t304 = 0 then ((sawmillref17_sum.f k l0_6 t298).bind fun t305 => ((sawmillref17_sum.f k l0_5 t301).bind fun t306 => (sawmillref17_Value.l0 k l1 (wrap64 (t305 + t306)) 0 a0_0 a0_1 a0_2 l0_3 l0_4 l0_5 l0_6))) else (some (0, t304))) = some (r1, r2) := H
 have A3 := Aside0.mk A30
 clear A30
 by_cases c4 : t304 = 0
 rotate_left
 · rw [if_neg c4] at H
   have c4b0 : (t304 == 0) = false := beq_eq_false_iff_ne.mpr c4
   have c4b1 : (t304 != 0) = true := bne_iff_ne.mpr c4
   simp only [Option.some.injEq, Prod.mk.injEq] at H
   obtain ⟨rfl, rfl⟩ := H
   go_enter Tryd.func24, Tryd.ntmps24
   go_wp2_with (first | ((with_reducible refine gate_dst (N := 2) rfl ?_); refine bx1 (N := 2) #[.int .i64 a0_0, .int .i64 a0_1, .int .i64 a0_2, .slice A0_3 l0_3.length c0_3, .slice A0_4 l0_4.length c0_4, .slice A0_5 l0_5.length c0_5, .slice A0_6 l0_6.length c0_6] 25 ?_; intro gb297 hg w20 hbox hb; have n0_ := Aside0.mk (below_step bl hb); have n1_ := Aside0.mk (hbox); have n2_ := Aside0.mk ((gs1 : w.heap.size ≤ gb297)); have n3_ := Aside0.mk ((gs1 : w.heap.size ≤ gb297)); clear HB; have HB := n0_; have BK297 := n1_; have GW297 := n2_; have GE297 := n3_; clear n0_ n1_ n2_ n3_; clear hb hbox hg; have hcz21 := blk_cells BK297.out; have hfz21 := blk_frozens BK297.out) | (go_at_call 22; (with_reducible refine (sawmillref17_Cuts.calls k a0_0 a0_1 a0_2 _ _ l0_3 _ _ l0_4 _ _ l0_5 _ _ l0_6 _ _ l1 t298 t301 t304 _ ?side1 ?side2 ?side3 ?side4 ?side5 ?side6 ?side7 ?side8 ?side9 ?side10 A3.out).mono ?_); (case side1 => exact cu1 (Kd.C_below HR0_3.out HB.out)); (case side2 => exact HC0_3.out); (case side3 => exact cu1 (Kd.C_below HR0_4.out HB.out)); (case side4 => exact HC0_4.out); (case side5 => exact cu1 (Kd.C_below HR0_5.out HB.out)); (case side6 => exact HC0_5.out); (case side7 => exact cu1 (Kd.C_below HR0_6.out HB.out)); (case side8 => exact HC0_6.out); (case side9 => exact cu1 (Kd.C_below HR1.out HB.out)); (case side10 => exact HC1.out); rintro e w22 ⟨v299, v302, rfl, ho0, ho1, hb⟩; have n0_ := Aside0.mk (Kd.R_lower ho0 (below_size bl)); have n1_ := Aside0.mk (Kd.R_lower ho1 (below_size bl)); have n2_ := Aside0.mk (blk_below (bu BK297.out) hb); have n3_ := Aside0.mk (below_step bl hb); clear BK297; clear HB; have HO300 := n0_; have HO303 := n1_; have BK297 := n2_; have HB := n3_; clear n0_ n1_ n2_ n3_; (try clear hb); (try clear hb2); (try clear hk); (try clear hi); (try clear ho0); (try clear ho1)))
   repeat (go_quiet (first | ((with_reducible refine gate_dst (N := 2) rfl ?_); refine bx1 (N := 2) #[.int .i64 a0_0, .int .i64 a0_1, .int .i64 a0_2, .slice A0_3 l0_3.length c0_3, .slice A0_4 l0_4.length c0_4, .slice A0_5 l0_5.length c0_5, .slice A0_6 l0_6.length c0_6] 25 ?_; intro gb297 hg w20 hbox hb; have n0_ := Aside0.mk (below_step bl hb); have n1_ := Aside0.mk (hbox); have n2_ := Aside0.mk ((gs1 : w.heap.size ≤ gb297)); have n3_ := Aside0.mk ((gs1 : w.heap.size ≤ gb297)); clear HB; have HB := n0_; have BK297 := n1_; have GW297 := n2_; have GE297 := n3_; clear n0_ n1_ n2_ n3_; clear hb hbox hg; have hcz21 := blk_cells BK297.out; have hfz21 := blk_frozens BK297.out) | (go_at_call 22; (with_reducible refine (sawmillref17_Cuts.calls k a0_0 a0_1 a0_2 _ _ l0_3 _ _ l0_4 _ _ l0_5 _ _ l0_6 _ _ l1 t298 t301 t304 _ ?side1 ?side2 ?side3 ?side4 ?side5 ?side6 ?side7 ?side8 ?side9 ?side10 A3.out).mono ?_); (case side1 => exact cu1 (Kd.C_below HR0_3.out HB.out)); (case side2 => exact HC0_3.out); (case side3 => exact cu1 (Kd.C_below HR0_4.out HB.out)); (case side4 => exact HC0_4.out); (case side5 => exact cu1 (Kd.C_below HR0_5.out HB.out)); (case side6 => exact HC0_5.out); (case side7 => exact cu1 (Kd.C_below HR0_6.out HB.out)); (case side8 => exact HC0_6.out); (case side9 => exact cu1 (Kd.C_below HR1.out HB.out)); (case side10 => exact HC1.out); rintro e w22 ⟨v299, v302, rfl, ho0, ho1, hb⟩; have n0_ := Aside0.mk (Kd.R_lower ho0 (below_size bl)); have n1_ := Aside0.mk (Kd.R_lower ho1 (below_size bl)); have n2_ := Aside0.mk (blk_below (bu BK297.out) hb); have n3_ := Aside0.mk (below_step bl hb); clear BK297; clear HB; have HO300 := n0_; have HO303 := n1_; have BK297 := n2_; have HB := n3_; clear n0_ n1_ n2_ n3_; (try clear hb); (try clear hb2); (try clear hk); (try clear hi); (try clear ho0); (try clear ho1))); try go_wp2_with (first | ((with_reducible refine gate_dst (N := 2) rfl ?_); refine bx1 (N := 2) #[.int .i64 a0_0, .int .i64 a0_1, .int .i64 a0_2, .slice A0_3 l0_3.length c0_3, .slice A0_4 l0_4.length c0_4, .slice A0_5 l0_5.length c0_5, .slice A0_6 l0_6.length c0_6] 25 ?_; intro gb297 hg w20 hbox hb; have n0_ := Aside0.mk (below_step bl hb); have n1_ := Aside0.mk (hbox); have n2_ := Aside0.mk ((gs1 : w.heap.size ≤ gb297)); have n3_ := Aside0.mk ((gs1 : w.heap.size ≤ gb297)); clear HB; have HB := n0_; have BK297 := n1_; have GW297 := n2_; have GE297 := n3_; clear n0_ n1_ n2_ n3_; clear hb hbox hg; have hcz21 := blk_cells BK297.out; have hfz21 := blk_frozens BK297.out) | (go_at_call 22; (with_reducible refine (sawmillref17_Cuts.calls k a0_0 a0_1 a0_2 _ _ l0_3 _ _ l0_4 _ _ l0_5 _ _ l0_6 _ _ l1 t298 t301 t304 _ ?side1 ?side2 ?side3 ?side4 ?side5 ?side6 ?side7 ?side8 ?side9 ?side10 A3.out).mono ?_); (case side1 => exact cu1 (Kd.C_below HR0_3.out HB.out)); (case side2 => exact HC0_3.out); (case side3 => exact cu1 (Kd.C_below HR0_4.out HB.out)); (case side4 => exact HC0_4.out); (case side5 => exact cu1 (Kd.C_below HR0_5.out HB.out)); (case side6 => exact HC0_5.out); (case side7 => exact cu1 (Kd.C_below HR0_6.out HB.out)); (case side8 => exact HC0_6.out); (case side9 => exact cu1 (Kd.C_below HR1.out HB.out)); (case side10 => exact HC1.out); rintro e w22 ⟨v299, v302, rfl, ho0, ho1, hb⟩; have n0_ := Aside0.mk (Kd.R_lower ho0 (below_size bl)); have n1_ := Aside0.mk (Kd.R_lower ho1 (below_size bl)); have n2_ := Aside0.mk (blk_below (bu BK297.out) hb); have n3_ := Aside0.mk (below_step bl hb); clear BK297; clear HB; have HO300 := n0_; have HO303 := n1_; have BK297 := n2_; have HB := n3_; clear n0_ n1_ n2_ n3_; (try clear hb); (try clear hb2); (try clear hk); (try clear hi); (try clear ho0); (try clear ho1))))
   go_ret2
   exact ⟨fe1, bl⟩
 rw [if_pos c4] at H
 have c4b0 : (t304 == 0) = true := beq_iff_eq.mpr c4
 have c4b1 : (t304 != 0) = false := bne_eq_false_iff_eq.mpr c4
 clear c4
 replace H := Option.bind_eq_some_iff.mp H
 obtain ⟨t305, A50, H⟩ := H
 replace H : ((sawmillref17_sum.f k l0_5 t301).bind fun t306 => (sawmillref17_Value.l0 k l1 (wrap64 (t305 + t306)) 0 a0_0 a0_1 a0_2 l0_3 l0_4 l0_5 l0_6)) = some (r1, r2) := H
 have A5 := Aside0.mk A50
 clear A50
 replace H := Option.bind_eq_some_iff.mp H
 obtain ⟨t306, A60, H⟩ := H
 replace H : (sawmillref17_Value.l0 k l1 (wrap64 (t305 + t306)) 0 a0_0 a0_1 a0_2 l0_3 l0_4 l0_5 l0_6) = some (r1, r2) := H
 have A6 := Aside0.mk A60
 clear A60
 have H' := Aside0.mk H
 clear H
 go_enter Tryd.func24, Tryd.ntmps24
 go_wp2_with (first | ((with_reducible refine gate_dst (N := 2) rfl ?_); refine bx1 (N := 2) #[.int .i64 a0_0, .int .i64 a0_1, .int .i64 a0_2, .slice A0_3 l0_3.length c0_3, .slice A0_4 l0_4.length c0_4, .slice A0_5 l0_5.length c0_5, .slice A0_6 l0_6.length c0_6] 25 ?_; intro gb297 hg w7 hbox hb; have n0_ := Aside0.mk (below_step bl hb); have n1_ := Aside0.mk (hbox); have n2_ := Aside0.mk ((gs1 : w.heap.size ≤ gb297)); have n3_ := Aside0.mk ((gs1 : w.heap.size ≤ gb297)); clear HB; have HB := n0_; have BK297 := n1_; have GW297 := n2_; have GE297 := n3_; clear n0_ n1_ n2_ n3_; clear hb hbox hg; have hcz8 := blk_cells BK297.out; have hfz8 := blk_frozens BK297.out) | (go_at_call 22; (with_reducible refine (sawmillref17_Cuts.calls k a0_0 a0_1 a0_2 _ _ l0_3 _ _ l0_4 _ _ l0_5 _ _ l0_6 _ _ l1 t298 t301 t304 _ ?side1 ?side2 ?side3 ?side4 ?side5 ?side6 ?side7 ?side8 ?side9 ?side10 A3.out).mono ?_); (case side1 => exact cu1 (Kd.C_below HR0_3.out HB.out)); (case side2 => exact HC0_3.out); (case side3 => exact cu1 (Kd.C_below HR0_4.out HB.out)); (case side4 => exact HC0_4.out); (case side5 => exact cu1 (Kd.C_below HR0_5.out HB.out)); (case side6 => exact HC0_5.out); (case side7 => exact cu1 (Kd.C_below HR0_6.out HB.out)); (case side8 => exact HC0_6.out); (case side9 => exact cu1 (Kd.C_below HR1.out HB.out)); (case side10 => exact HC1.out); rintro e w9 ⟨v299, v302, rfl, ho0, ho1, hb⟩; have n0_ := Aside0.mk (Kd.R_lower ho0 (below_size bl)); have n1_ := Aside0.mk (Kd.R_lower ho1 (below_size bl)); have n2_ := Aside0.mk (blk_below (bu BK297.out) hb); have n3_ := Aside0.mk (below_step bl hb); clear BK297; clear HB; have HO300 := n0_; have HO303 := n1_; have BK297 := n2_; have HB := n3_; clear n0_ n1_ n2_ n3_; (try clear hb); (try clear hb2); (try clear hk); (try clear hi); (try clear ho0); (try clear ho1); have hcz10 := blk_cells BK297.out; have hfz10 := blk_frozens BK297.out; obtain ⟨Ao11, co11, eo11⟩ := Kd.R_slice HO300.out; subst eo11) | (go_at_call 55; (with_reducible refine (sawmillref17_sum.calls k _ _ l0_6 _ _ t298 t305 _ ?side1 ?side2 ?side3 ?side4 A5.out).mono ?_); (case side1 => exact cu1 (Kd.C_below HR0_6.out HB.out)); (case side2 => exact HC0_6.out); (case side3 => repeat (first | exact (Kd.R_reads' HO300.out).2.2 | (with_reducible refine Kd.C_alloc ?_ _) | (with_reducible refine Kd.C_drewN ?_ _) | (with_reducible refine Kd.C_drew ?_))); (case side4 => exact (Kd.R_reads' HO300.out).2.1); rintro e w' ⟨rfl, ⟨nd, rfl⟩⟩; (try first | exact ⟨rfl, _, World.drewN_drewN _ _ _⟩ | exact ⟨rfl, _, Eq.trans (World.drewN_drewN _ _ _) (congrArg (World.drewN _) (Nat.add_assoc _ _ _))⟩); obtain ⟨Ao12, co12, eo12⟩ := Kd.R_slice HO303.out; subst eo12) | (go_at_call 55; (with_reducible refine (sawmillref17_sum.calls k _ _ l0_5 _ _ t301 t306 _ ?side1 ?side2 ?side3 ?side4 A6.out).mono ?_); (case side1 => repeat (first | exact (Kd.C_below HR0_5.out bl) | (with_reducible refine Kd.C_alloc ?_ _) | (with_reducible refine Kd.C_drewN ?_ _) | (with_reducible refine Kd.C_drew ?_))); (case side2 => exact HC0_5.out); (case side3 => repeat (first | exact (Kd.R_reads' HO303.out).2.2 | (with_reducible refine Kd.C_alloc ?_ _) | (with_reducible refine Kd.C_drewN ?_ _) | (with_reducible refine Kd.C_drew ?_))); (case side4 => exact (Kd.R_reads' HO303.out).2.1); rintro e w' ⟨rfl, ⟨nd, rfl⟩⟩; (try first | exact ⟨rfl, _, World.drewN_drewN _ _ _⟩ | exact ⟨rfl, _, Eq.trans (World.drewN_drewN _ _ _) (congrArg (World.drewN _) (Nat.add_assoc _ _ _))⟩)))
 repeat (go_quiet (first | ((with_reducible refine gate_dst (N := 2) rfl ?_); refine bx1 (N := 2) #[.int .i64 a0_0, .int .i64 a0_1, .int .i64 a0_2, .slice A0_3 l0_3.length c0_3, .slice A0_4 l0_4.length c0_4, .slice A0_5 l0_5.length c0_5, .slice A0_6 l0_6.length c0_6] 25 ?_; intro gb297 hg w7 hbox hb; have n0_ := Aside0.mk (below_step bl hb); have n1_ := Aside0.mk (hbox); have n2_ := Aside0.mk ((gs1 : w.heap.size ≤ gb297)); have n3_ := Aside0.mk ((gs1 : w.heap.size ≤ gb297)); clear HB; have HB := n0_; have BK297 := n1_; have GW297 := n2_; have GE297 := n3_; clear n0_ n1_ n2_ n3_; clear hb hbox hg; have hcz8 := blk_cells BK297.out; have hfz8 := blk_frozens BK297.out) | (go_at_call 22; (with_reducible refine (sawmillref17_Cuts.calls k a0_0 a0_1 a0_2 _ _ l0_3 _ _ l0_4 _ _ l0_5 _ _ l0_6 _ _ l1 t298 t301 t304 _ ?side1 ?side2 ?side3 ?side4 ?side5 ?side6 ?side7 ?side8 ?side9 ?side10 A3.out).mono ?_); (case side1 => exact cu1 (Kd.C_below HR0_3.out HB.out)); (case side2 => exact HC0_3.out); (case side3 => exact cu1 (Kd.C_below HR0_4.out HB.out)); (case side4 => exact HC0_4.out); (case side5 => exact cu1 (Kd.C_below HR0_5.out HB.out)); (case side6 => exact HC0_5.out); (case side7 => exact cu1 (Kd.C_below HR0_6.out HB.out)); (case side8 => exact HC0_6.out); (case side9 => exact cu1 (Kd.C_below HR1.out HB.out)); (case side10 => exact HC1.out); rintro e w9 ⟨v299, v302, rfl, ho0, ho1, hb⟩; have n0_ := Aside0.mk (Kd.R_lower ho0 (below_size bl)); have n1_ := Aside0.mk (Kd.R_lower ho1 (below_size bl)); have n2_ := Aside0.mk (blk_below (bu BK297.out) hb); have n3_ := Aside0.mk (below_step bl hb); clear BK297; clear HB; have HO300 := n0_; have HO303 := n1_; have BK297 := n2_; have HB := n3_; clear n0_ n1_ n2_ n3_; (try clear hb); (try clear hb2); (try clear hk); (try clear hi); (try clear ho0); (try clear ho1); have hcz10 := blk_cells BK297.out; have hfz10 := blk_frozens BK297.out; obtain ⟨Ao11, co11, eo11⟩ := Kd.R_slice HO300.out; subst eo11) | (go_at_call 55; (with_reducible refine (sawmillref17_sum.calls k _ _ l0_6 _ _ t298 t305 _ ?side1 ?side2 ?side3 ?side4 A5.out).mono ?_); (case side1 => exact cu1 (Kd.C_below HR0_6.out HB.out)); (case side2 => exact HC0_6.out); (case side3 => repeat (first | exact (Kd.R_reads' HO300.out).2.2 | (with_reducible refine Kd.C_alloc ?_ _) | (with_reducible refine Kd.C_drewN ?_ _) | (with_reducible refine Kd.C_drew ?_))); (case side4 => exact (Kd.R_reads' HO300.out).2.1); rintro e w' ⟨rfl, ⟨nd, rfl⟩⟩; (try first | exact ⟨rfl, _, World.drewN_drewN _ _ _⟩ | exact ⟨rfl, _, Eq.trans (World.drewN_drewN _ _ _) (congrArg (World.drewN _) (Nat.add_assoc _ _ _))⟩); obtain ⟨Ao12, co12, eo12⟩ := Kd.R_slice HO303.out; subst eo12) | (go_at_call 55; (with_reducible refine (sawmillref17_sum.calls k _ _ l0_5 _ _ t301 t306 _ ?side1 ?side2 ?side3 ?side4 A6.out).mono ?_); (case side1 => repeat (first | exact (Kd.C_below HR0_5.out bl) | (with_reducible refine Kd.C_alloc ?_ _) | (with_reducible refine Kd.C_drewN ?_ _) | (with_reducible refine Kd.C_drew ?_))); (case side2 => exact HC0_5.out); (case side3 => repeat (first | exact (Kd.R_reads' HO303.out).2.2 | (with_reducible refine Kd.C_alloc ?_ _) | (with_reducible refine Kd.C_drewN ?_ _) | (with_reducible refine Kd.C_drew ?_))); (case side4 => exact (Kd.R_reads' HO303.out).2.1); rintro e w' ⟨rfl, ⟨nd, rfl⟩⟩; (try first | exact ⟨rfl, _, World.drewN_drewN _ _ _⟩ | exact ⟨rfl, _, Eq.trans (World.drewN_drewN _ _ _) (congrArg (World.drewN _) (Nat.add_assoc _ _ _))⟩))); try go_wp2_with (first | ((with_reducible refine gate_dst (N := 2) rfl ?_); refine bx1 (N := 2) #[.int .i64 a0_0, .int .i64 a0_1, .int .i64 a0_2, .slice A0_3 l0_3.length c0_3, .slice A0_4 l0_4.length c0_4, .slice A0_5 l0_5.length c0_5, .slice A0_6 l0_6.length c0_6] 25 ?_; intro gb297 hg w7 hbox hb; have n0_ := Aside0.mk (below_step bl hb); have n1_ := Aside0.mk (hbox); have n2_ := Aside0.mk ((gs1 : w.heap.size ≤ gb297)); have n3_ := Aside0.mk ((gs1 : w.heap.size ≤ gb297)); clear HB; have HB := n0_; have BK297 := n1_; have GW297 := n2_; have GE297 := n3_; clear n0_ n1_ n2_ n3_; clear hb hbox hg; have hcz8 := blk_cells BK297.out; have hfz8 := blk_frozens BK297.out) | (go_at_call 22; (with_reducible refine (sawmillref17_Cuts.calls k a0_0 a0_1 a0_2 _ _ l0_3 _ _ l0_4 _ _ l0_5 _ _ l0_6 _ _ l1 t298 t301 t304 _ ?side1 ?side2 ?side3 ?side4 ?side5 ?side6 ?side7 ?side8 ?side9 ?side10 A3.out).mono ?_); (case side1 => exact cu1 (Kd.C_below HR0_3.out HB.out)); (case side2 => exact HC0_3.out); (case side3 => exact cu1 (Kd.C_below HR0_4.out HB.out)); (case side4 => exact HC0_4.out); (case side5 => exact cu1 (Kd.C_below HR0_5.out HB.out)); (case side6 => exact HC0_5.out); (case side7 => exact cu1 (Kd.C_below HR0_6.out HB.out)); (case side8 => exact HC0_6.out); (case side9 => exact cu1 (Kd.C_below HR1.out HB.out)); (case side10 => exact HC1.out); rintro e w9 ⟨v299, v302, rfl, ho0, ho1, hb⟩; have n0_ := Aside0.mk (Kd.R_lower ho0 (below_size bl)); have n1_ := Aside0.mk (Kd.R_lower ho1 (below_size bl)); have n2_ := Aside0.mk (blk_below (bu BK297.out) hb); have n3_ := Aside0.mk (below_step bl hb); clear BK297; clear HB; have HO300 := n0_; have HO303 := n1_; have BK297 := n2_; have HB := n3_; clear n0_ n1_ n2_ n3_; (try clear hb); (try clear hb2); (try clear hk); (try clear hi); (try clear ho0); (try clear ho1); have hcz10 := blk_cells BK297.out; have hfz10 := blk_frozens BK297.out; obtain ⟨Ao11, co11, eo11⟩ := Kd.R_slice HO300.out; subst eo11) | (go_at_call 55; (with_reducible refine (sawmillref17_sum.calls k _ _ l0_6 _ _ t298 t305 _ ?side1 ?side2 ?side3 ?side4 A5.out).mono ?_); (case side1 => exact cu1 (Kd.C_below HR0_6.out HB.out)); (case side2 => exact HC0_6.out); (case side3 => repeat (first | exact (Kd.R_reads' HO300.out).2.2 | (with_reducible refine Kd.C_alloc ?_ _) | (with_reducible refine Kd.C_drewN ?_ _) | (with_reducible refine Kd.C_drew ?_))); (case side4 => exact (Kd.R_reads' HO300.out).2.1); rintro e w' ⟨rfl, ⟨nd, rfl⟩⟩; (try first | exact ⟨rfl, _, World.drewN_drewN _ _ _⟩ | exact ⟨rfl, _, Eq.trans (World.drewN_drewN _ _ _) (congrArg (World.drewN _) (Nat.add_assoc _ _ _))⟩); obtain ⟨Ao12, co12, eo12⟩ := Kd.R_slice HO303.out; subst eo12) | (go_at_call 55; (with_reducible refine (sawmillref17_sum.calls k _ _ l0_5 _ _ t301 t306 _ ?side1 ?side2 ?side3 ?side4 A6.out).mono ?_); (case side1 => repeat (first | exact (Kd.C_below HR0_5.out bl) | (with_reducible refine Kd.C_alloc ?_ _) | (with_reducible refine Kd.C_drewN ?_ _) | (with_reducible refine Kd.C_drew ?_))); (case side2 => exact HC0_5.out); (case side3 => repeat (first | exact (Kd.R_reads' HO303.out).2.2 | (with_reducible refine Kd.C_alloc ?_ _) | (with_reducible refine Kd.C_drewN ?_ _) | (with_reducible refine Kd.C_drew ?_))); (case side4 => exact (Kd.R_reads' HO303.out).2.1); rintro e w' ⟨rfl, ⟨nd, rfl⟩⟩; (try first | exact ⟨rfl, _, World.drewN_drewN _ _ _⟩ | exact ⟨rfl, _, Eq.trans (World.drewN_drewN _ _ _) (congrArg (World.drewN _) (Nat.add_assoc _ _ _))⟩))))
 go_loopg [9, 10] k (fun kq v9 v10 w' => ∃ (x9_1 : Int) (x10_1 : Int), v9 = .int .i64 x9_1 ∧ v10 = .int .i64 x10_1 ∧ Aside0 (sawmillref17_Value.l0 kq l1 x9_1 x10_1 a0_0 a0_1 a0_2 l0_3 l0_4 l0_5 l0_6 = some (r1, r2)) ∧ Aside0 (kq ≤ k) ∧ Aside0 (w'.heap[gb297]? = some (.cells #[.int .i64 a0_0, .int .i64 a0_1, .int .i64 a0_2, (.slice A0_3 l0_3.length c0_3), (.slice A0_4 l0_4.length c0_4), (.slice A0_5 l0_5.length c0_5), (.slice A0_6 l0_6.length c0_6)] 25 (0, 0))) ∧ Aside0 (Below w.heap.size w w'))
 case atStart => exact ⟨(wrap64 (t305 + t306)), (0), (by simp [i64_w]), rs1, H', ⟨Nat.le_refl _⟩, ⟨bu BK297.out⟩, ⟨bl⟩⟩
 clear H'; (try clear c1); (try clear c2); (try clear p2); (try clear c4); (try clear c4b0); (try clear c4b1); (try clear p6); (try clear hcz10); (try clear hcz8); (try clear hfz10); (try clear hfz8)
 obtain ⟨x9_1, x10_1, rfl, rfl, HA, HK1, BK297, HB⟩ := hrel
 rcases gk with _ | k1
 · exact absurd HA.out (by simp [sawmillref17_Value.l0])
 have H := HA.out
 clear HA
 simp only [sawmillref17_Value.l0] at H
 by_cases c13 : x10_1 < (l1.length : Int)
 rotate_left
 · rw [if_neg c13] at H
   have c13b0 : decide (x10_1 < (l1.length : Int)) = false := decide_eq_false c13
   clear c13
   simp only [Option.some.injEq, Prod.mk.injEq] at H
   obtain ⟨rfl, rfl⟩ := H
   go_wp2
   repeat (go_quiet (fail); try go_wp2)
   go_ret2
   exact ⟨fe1, bl⟩
 rw [if_pos c13] at H
 have c13b0 : decide (x10_1 < (l1.length : Int)) = true := decide_eq_true c13
 clear c13
 obtain ⟨c14, H⟩ := gd1 H
 have c14b0 : decide (0 ≤ x10_1) = true := decide_eq_true c14
 clear c14
 obtain ⟨c15, H⟩ := gd1 H
 have c15b0 : decide (0 ≤ ((rd_T69 l1 x10_1).f0)) = true := decide_eq_true c15
 clear c15
 obtain ⟨c16, H⟩ := gd1 H
 have c16b0 : decide (((rd_T69 l1 x10_1).f0) < (l0_4.length : Int)) = true := decide_eq_true c16
 clear c16
 obtain ⟨c17, H⟩ := gd1 H
 have c17b0 : decide (0 ≤ ((rd_T69 l1 x10_1).f1)) = true := decide_eq_true c17
 clear c17
 obtain ⟨c18, H⟩ := gd1 H
 have c18b0 : decide (((rd_T69 l1 x10_1).f1) < ((rd_L1 l0_4 ((rd_T69 l1 x10_1).f0)).length : Int)) = true := decide_eq_true c18
 clear c18
 have H' := Aside0.mk H
 clear H
 have hcz19 := blk_cells BK297.out
 have hfz19 := blk_frozens BK297.out
 have p307 : 0 ≤ (x10_1 : Int) := da1
 have q307 : x10_1 < (l1.length : Int) := da1
 obtain ⟨ad307, e307, hx307_0, hx307_1⟩ := at_T69 HR1.out x10_1 p307 q307
 cases e307
 (try replace hx307_0 := (HB.out.cell (World.block_lt_of_cell? w _ hx307_0)).trans hx307_0)
 (try replace hx307_1 := (HB.out.cell (World.block_lt_of_cell? w _ hx307_1)).trans hx307_1)
 replace p307 := eq_true p307
 replace q307 := eq_true q307
 have p308 : 0 ≤ (((rd_T69 l1 x10_1).f0) : Int) := da1
 have q308 : ((rd_T69 l1 x10_1).f0) < (l0_4.length : Int) := da1
 obtain ⟨ad308, A308_0, c308_0, e308, hx308_0, hl308_0, hi308_0⟩ := at_L1 HR0_4.out ((rd_T69 l1 x10_1).f0) p308 q308
 cases e308
 (try replace hx308_0 := (HB.out.cell (World.block_lt_of_cell? w _ hx308_0)).trans hx308_0)
 have HR308_0 := Aside0.mk hi308_0
 have HC308_0 := Aside0.mk hl308_0
 clear hi308_0 hl308_0
 replace p308 := eq_true p308
 replace q308 := eq_true q308
 have p309 : 0 ≤ (x10_1 : Int) := da1
 have q309 : x10_1 < (l1.length : Int) := da1
 obtain ⟨ad309, e309, hx309_0, hx309_1⟩ := at_T69 HR1.out x10_1 p309 q309
 obtain rfl : ad307 = ad309 := (by injection e309)
 (try replace hx309_0 := (HB.out.cell (World.block_lt_of_cell? w _ hx309_0)).trans hx309_0)
 (try replace hx309_1 := (HB.out.cell (World.block_lt_of_cell? w _ hx309_1)).trans hx309_1)
 replace p309 := eq_true p309
 replace q309 := eq_true q309
 have p310 : 0 ≤ (((rd_T69 l1 x10_1).f1) : Int) := da1
 have q310 : ((rd_T69 l1 x10_1).f1) < ((rd_L1 l0_4 ((rd_T69 l1 x10_1).f0)).length : Int) := da1
 obtain ⟨ad310, e310, hx310_0⟩ := Kd.at_int HR308_0.out ((rd_T69 l1 x10_1).f1) p310 q310
 cases e310
 (try replace hx310_0 := (HB.out.cell (World.block_lt_of_cell? w _ hx310_0)).trans hx310_0)
 replace p310 := eq_true p310
 replace q310 := eq_true q310
 go_wp2
 repeat (go_quiet (fail); try go_wp2)
 go_roundg k1
 case measure => have := HK1.out; omega
 case rel => exact ⟨(wrap64 (x9_1 + (rd (rd_L1 l0_4 ((rd_T69 l1 x10_1).f0)) ((rd_T69 l1 x10_1).f1)))), (wrap64 (x10_1 + 1)), rs1, rs1, H', ⟨by have := HK1.out; omega⟩, ⟨bu BK297.out⟩, ⟨bl⟩⟩
end Go.Proofs.YtoaicheopcojoaaDoor.P
