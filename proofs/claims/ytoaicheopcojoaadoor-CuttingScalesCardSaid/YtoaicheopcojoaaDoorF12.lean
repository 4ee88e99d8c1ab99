import Derived.Test.YtoaicheopcojoaaDoorF12d
namespace Go.Proofs.YtoaicheopcojoaaDoor.P
open Go.RowKit Go.Proofs.YtoaicheopcojoaaDoorW.PrintWords Go.Proofs.YtoaicheopcojoaaDoorW.PrintLast Go.Proofs.YtoaicheopcojoaaDoorW.PrintMore
attribute [local go_sem] max2_int min2_int max_two min_two max_three min_three max_four min_four   -- for this text's walks alone
set_option linter.unusedVariables false
set_option linter.unusedSimpArgs false
def sawmilllaw17_CuttingScales.T4 : Bool × List (List Nat × List Nat) := (true, [([], []), ([0], [0]), ([], []), ([1, 2], [1, 2]), ([], []), ([4], [4]), ([], []), ([5, 6, 3], [5, 6]), ([0, 1, 2, 3], []), ([8, 3, 7, 0, 1, 2, 3], [3, 8]), ([0, 1, 2, 3, 4, 5, 6, 7, 8, 9], []), ([10, 7, 9, 0, 1, 2, 3, 4, 5, 6, 7, 8, 9], [7, 10])])
def sawmilllaw17_CuttingScales.B4 : List Nat := [0, 1, 0, 7, 0, 16, 0, 127, 15, 511, 1023, 2047]
theorem sawmilllaw17_CuttingScales.tab4 : rtab .any (opsOf Tryd.f12 4) = sawmilllaw17_CuttingScales.T4 := by kernel_rfl
theorem sawmilllaw17_CuttingScales.bits4 : waitsOk sawmilllaw17_CuttingScales.T4.2 sawmilllaw17_CuttingScales.B4 = true := by kernel_rfl
def sawmilllaw17_CuttingScales.T8 : Bool × List (List Nat × List Nat) := (true, [([], []), ([0], [0]), ([], []), ([], []), ([3], [3]), ([], []), ([4, 5], [4, 5]), ([6], [6]), ([], []), ([7, 8], [7, 8]), ([1, 2, 0, 1, 2, 3, 4, 5, 6, 7, 8, 9], [1, 2]), ([10, 9, 9, 0, 1, 2, 3, 4, 5, 6, 7, 8, 9], [9, 10])])
def sawmilllaw17_CuttingScales.B8 : List Nat := [0, 1, 0, 0, 8, 0, 56, 120, 0, 504, 1023, 2047]
theorem sawmilllaw17_CuttingScales.tab8 : rtab .any (opsOf Tryd.f12 8) = sawmilllaw17_CuttingScales.T8 := by kernel_rfl
theorem sawmilllaw17_CuttingScales.bits8 : waitsOk sawmilllaw17_CuttingScales.T8.2 sawmilllaw17_CuttingScales.B8 = true := by kernel_rfl
theorem L12_0 {p_ : Prop} (k_ : p_ := by
  go_wp2_with (first | ((with_reducible refine gate_callee (f := 26) rfl ?_); refine goesL_ (some 14) rfl rfl Tryd.func26 (by kernel_rfl) rfl #[.agg #[.int .i64 a0_0, .int .i64 a0_1, .int .i64 a0_2, .slice A0_3 l0_3.length c0_3, .slice A0_4 l0_4.length c0_4, .slice A0_5 l0_5.length c0_5, .slice A0_6 l0_6.length c0_6]] rfl mp1 ?_; (with_reducible refine (sawmilllaw17_short.calls k a0_0 a0_1 a0_2 _ _ l0_3 _ _ l0_4 _ _ l0_5 _ _ l0_6 true _ ?side1 ?side2 ?side3 ?side4 ?side5 ?side6 ?side7 ?side8 A5.out).mono ?_); (case side1 => exact cu1 (Kd.C_below HR0_3.out HB.out)); (case side2 => exact HC0_3.out); (case side3 => exact cu1 (Kd.C_below HR0_4.out HB.out)); (case side4 => exact HC0_4.out); (case side5 => exact cu1 (Kd.C_below HR0_5.out HB.out)); (case side6 => exact HC0_5.out); (case side7 => exact cu1 (Kd.C_below HR0_6.out HB.out)); (case side8 => exact HC0_6.out); rintro e wq1 ⟨rfl, hb⟩; refine ⟨_, rfl, ?_⟩; have nq1 := Aside0.mk (blk_below (bu BK573.out) hb); have nq2 := Aside0.mk (blk_below (bu BK574.out) hb); have nq3 := Aside0.mk (below_step bl hb); clear BK573; clear BK574; clear HB; have BK573 := nq1; have BK574 := nq2; have HB := nq3; clear nq1 nq2 nq3; (try clear hb); (try clear hb2); (try clear hk); (try clear hi); have hczq1 := blk_cells BK574.out; have hfzq1 := blk_frozens BK574.out) | (go_at_call 19; (with_reducible refine (cutting_Check.calls k a0_0 a0_1 a0_2 _ _ l0_3 (fun k_ => k_ < w.heap.size) _ _ l0_4 (fun k_ => k_ < w.heap.size) _ _ l0_5 (fun k_ => k_ < w.heap.size) _ _ l0_6 t576 _ ?side1 ?side2 ?side3 ?side4 ?side5 A7.out).mono ?_); (case side1 => exact cu1 (Kd.C_below HR0_3.out HB.out)); (case side2 => exact HC0_3.out); (case side3 => exact Kd.V_mk HC0_4.out (Kd.F_below (Kd.C_F (Kd.heap_slice 3 (Kd.heap_int .i64)) HR0_4.out) bl)); (case side4 => exact Kd.V_mk HC0_5.out (Kd.F_below (Kd.C_F (Kd.heap_int .i64) HR0_5.out) bl)); (case side5 => exact Kd.V_mk HC0_6.out (Kd.F_below (Kd.C_F (Kd.heap_int .i64) HR0_6.out) bl)); rintro e wq2 ⟨rfl, hb⟩; have nq1 := Aside0.mk (blk_below (bu BK573.out) hb); have nq2 := Aside0.mk (blk_below (bu BK574.out) hb); have nq3 := Aside0.mk (below_step bl hb); clear BK573; clear BK574; clear HB; have BK573 := nq1; have BK574 := nq2; have HB := nq3; clear nq1 nq2 nq3; (try clear hb); (try clear hb2); (try clear hk); (try clear hi)))
  go_meet
  case rel => exact ⟨_, (true), rs1, H', ⟨by first | omega | exact Nat.le_refl _⟩, ⟨bu BK573.out⟩, ⟨bu BK574.out⟩, ⟨bl⟩⟩) : p_ := k_
set_option maxHeartbeats 8000000 in
set_option maxRecDepth 100000 in
theorem sawmilllaw17_CuttingScales.calls (k : Nat) (a0_0 : Int) (a0_1 : Int) (a0_2 : Int) (A0_3 : Option Addr) (c0_3 : Nat) (l0_3 : List Int) (A0_4 : Option Addr) (c0_4 : Nat) (l0_4 : List (List Int)) (A0_5 : Option Addr) (c0_5 : Nat) (l0_5 : List Int) (A0_6 : Option Addr) (c0_6 : Nat) (l0_6 : List Int) (a1 : Int) (r : Bool) (w : World) (hr0_3 : Kd.C (Kd.int .i64) w A0_3 l0_3.length l0_3) (hc0_3 : l0_3.length ≤ c0_3) (hr0_4 : Kd.C (Kd.slice 3 (Kd.int .i64)) w A0_4 l0_4.length l0_4) (hc0_4 : l0_4.length ≤ c0_4) (hr0_5 : Kd.C (Kd.int .i64) w A0_5 l0_5.length l0_5) (hc0_5 : l0_5.length ≤ c0_5) (hr0_6 : Kd.C (Kd.int .i64) w A0_6 l0_6.length l0_6) (hc0_6 : l0_6.length ≤ c0_6) (hG : w.heap[0]? = some (.cells #[.int .i64 (-1), .int .i64 (-1), .int .i64 0] 97 (0, 0))) (h : sawmilllaw17_CuttingScales.f k a0_0 a0_1 a0_2 l0_3 l0_4 l0_5 l0_6 a1 = some r) :
    Calls Tryd.prog 12 #[.agg #[.int .i64 a0_0, .int .i64 a0_1, .int .i64 a0_2, .slice A0_3 l0_3.length c0_3, .slice A0_4 l0_4.length c0_4, .slice A0_5 l0_5.length c0_5, .slice A0_6 l0_6.length c0_6], .int .i64 a1] w fun e w' => e = .returned (.bool r) ∧ Below w.heap.size w w' := by
 have hu25 := Tryd.underlying25
 have HR0_3 := Aside0.mk hr0_3
 have HC0_3 := Aside0.mk hc0_3
 clear hr0_3 hc0_3
 have HR0_4 := Aside0.mk hr0_4
 have HC0_4 := Aside0.mk hc0_4
 clear hr0_4 hc0_4
 have HR0_5 := Aside0.mk hr0_5
 have HC0_5 := Aside0.mk hc0_5
 clear hr0_5 hc0_5
 have HR0_6 := Aside0.mk hr0_6
 have HC0_6 := Aside0.mk hc0_6
 clear hr0_6 hc0_6
 have BK573 := Aside0.mk hG
 clear hG
 have HB := Aside0.mk (Below.refl w.heap.size w)
 have H : ((sawmilllaw17_short.f k a0_0 a0_1 a0_2 l0_3 l0_4 l0_5 l0_6).bind fun t575 => (if t575 = true then ((cutting_Check.f k a0_0 a0_1 a0_2 l0_3 l0_4 l0_5 l0_6).bind fun t576 => (if t576 = 0 then (if a1 < 1 then (sawmilllaw17_CuttingScales.j0 k a1 true a0_0 a0_1 a0_2 l0_3 l0_4 l0_5 l0_6) else (sawmilllaw17_CuttingScales.j0 k a1 (decide (a1 > 1000)) a0_0 a0_1 a0_2 l0_3 l0_4 l0_5 l0_6)) else (sawmilllaw17_CuttingScales.j0 k a1 true a0_0 a0_1 a0_2 l0_3 l0_4 l0_5 l0_6))) else (sawmilllaw17_CuttingScales.j0 k a1 true a0_0 a0_1 a0_2 l0_3 l0_4 l0_5 l0_6))) = some r := h
 clear h
 have HC3 := Aside0.mk H
 clear H
 go_enter Tryd.func12, Tryd.ntmps12
 go_upto_region 1 with (first | ((with_reducible refine gate_dst (N := 2) rfl ?_); refine bx1 (N := 2) #[.int .i64 a0_0, .int .i64 a0_1, .int .i64 a0_2, .slice A0_3 l0_3.length c0_3, .slice A0_4 l0_4.length c0_4, .slice A0_5 l0_5.length c0_5, .slice A0_6 l0_6.length c0_6] 25 ?_; intro gb574 hg w4 hbox hb; have n0_ := Aside0.mk (blk_below (bu BK573.out) hb); have n1_ := Aside0.mk (below_step bl hb); have n2_ := Aside0.mk (hbox); have n3_ := Aside0.mk ((gs1 : w.heap.size ≤ gb574)); have n4_ := Aside0.mk ((gs1 : w.heap.size ≤ gb574)); have n5_ := Aside0.mk ((nl1 BK573 : 0 ≠ gb574)); have n6_ := Aside0.mk ((ng1 BK573 : gb574 ≠ 0)); clear BK573; clear HB; have BK573 := n0_; have HB := n1_; have BK574 := n2_; have GW574 := n3_; have GE574 := n4_; have NB573_574 := n5_; have NB574_573 := n6_; clear n0_ n1_ n2_ n3_ n4_ n5_ n6_; clear hb hbox hg))
 (try simp only [Act.put, List.setIfInBounds_toArray, List.set_cons_zero, List.set_cons_succ])
 go_cut [28] (fun v28 wc => ∃ (kq : Nat) (x28_2 : Bool), v28 = .bool x28_2 ∧ Aside0 (sawmilllaw17_CuttingScales.j0 kq a1 x28_2 a0_0 a0_1 a0_2 l0_3 l0_4 l0_5 l0_6 = some r) ∧ Aside0 (kq ≤ k) ∧ Aside0 (wc.heap[0]? = some (.cells #[.int .i64 (-1), .int .i64 (-1), .int .i64 0] 97 (0, 0))) ∧ Aside0 (wc.heap[gb574]? = some (.cells #[.int .i64 a0_0, .int .i64 a0_1, .int .i64 a0_2, (.slice A0_3 l0_3.length c0_3), (.slice A0_4 l0_4.length c0_4), (.slice A0_5 l0_5.length c0_5), (.slice A0_6 l0_6.length c0_6)] 25 (0, 0))) ∧ Aside0 (Below w.heap.size w wc))
 case first =>
  have H := HC3.out
  clear HC3
  replace H := Option.bind_eq_some_iff.mp H
  obtain ⟨t575, A50, H⟩ := H
  replace H : (if t575 = true then ((cutting_Check.f k a0_0 a0_1 a0_2 l0_3 l0_4 l0_5 l0_6).bind fun t576 => (if t576 = 0 then (if a1 < 1 then (sawmilllaw17_CuttingScales.j0 k a1 true a0_0 a0_1 a0_2 l0_3 l0_4 l0_5 l0_6) else (sawmilllaw17_CuttingScales.j0 k a1 (decide (a1 > 1000)) a0_0 a0_1 a0_2 l0_3 l0_4 l0_5 l0_6)) else (sawmilllaw17_CuttingScales.j0 k a1 true a0_0 a0_1 a0_2 l0_3 l0_4 l0_5 l0_6))) else (sawmilllaw17_CuttingScales.j0 k a1 true a0_0 a0_1 a0_2 l0_3 l0_4 l0_5 l0_6)) = some r := H
  have A5 := Aside0.mk A50
  clear A50
  by_cases c6 : t575 = true
  rotate_left
  · replace c6 := Bool.eq_false_iff.mpr c6
    subst c6
    have H1 : (sawmilllaw17_CuttingScales.j0 k a1 true a0_0 a0_1 a0_2 l0_3 l0_4 l0_5 l0_6) = some r := by rw [if_neg (show ¬ (false = true) by decide)] at H; exact H
    clear H
    have H := H1
    clear H1
    have H' := Aside0.mk H
    clear H
    have hnb25 := NB574_573.out
    have hnc25 := NB573_574.out
    have hcz26 := blk_cells BK574.out
    have hfz26 := blk_frozens BK574.out
    go_wp2_with (first | ((with_reducible refine gate_callee (f := 26) rfl ?_); refine goesL_ (some 14) rfl rfl Tryd.func26 (by kernel_rfl) rfl #[.agg #[.int .i64 a0_0, .int .i64 a0_1, .int .i64 a0_2, .slice A0_3 l0_3.length c0_3, .slice A0_4 l0_4.length c0_4, .slice A0_5 l0_5.length c0_5, .slice A0_6 l0_6.length c0_6]] rfl mp1 ?_; (with_reducible refine (sawmilllaw17_short.calls k a0_0 a0_1 a0_2 _ _ l0_3 _ _ l0_4 _ _ l0_5 _ _ l0_6 false _ ?side1 ?side2 ?side3 ?side4 ?side5 ?side6 ?side7 ?side8 A5.out).mono ?_); (case side1 => exact cu1 (Kd.C_below HR0_3.out HB.out)); (case side2 => exact HC0_3.out); (case side3 => exact cu1 (Kd.C_below HR0_4.out HB.out)); (case side4 => exact HC0_4.out); (case side5 => exact cu1 (Kd.C_below HR0_5.out HB.out)); (case side6 => exact HC0_5.out); (case side7 => exact cu1 (Kd.C_below HR0_6.out HB.out)); (case side8 => exact HC0_6.out); rintro e w27 ⟨rfl, hb⟩; refine ⟨_, rfl, ?_⟩; have n0_ := Aside0.mk (blk_below (bu BK573.out) hb); have n1_ := Aside0.mk (blk_below (bu BK574.out) hb); have n2_ := Aside0.mk (below_step bl hb); clear BK573; clear BK574; clear HB; have BK573 := n0_; have BK574 := n1_; have HB := n2_; clear n0_ n1_ n2_; (try clear hb); (try clear hb2); (try clear hk); (try clear hi)))
    go_meet
    case rel => exact ⟨_, (true), rs1, H', ⟨by first | omega | exact Nat.le_refl _⟩, ⟨bu BK573.out⟩, ⟨bu BK574.out⟩, ⟨bl⟩⟩
  subst c6
  have H1 : ((cutting_Check.f k a0_0 a0_1 a0_2 l0_3 l0_4 l0_5 l0_6).bind fun t576 => (if t576 = 0 then (if a1 < 1 then (sawmilllaw17_CuttingScales.j0 k a1 true a0_0 a0_1 a0_2 l0_3 l0_4 l0_5 l0_6) else (sawmilllaw17_CuttingScales.j0 k a1 (decide (a1 > 1000)) a0_0 a0_1 a0_2 l0_3 l0_4 l0_5 l0_6)) else (sawmilllaw17_CuttingScales.j0 k a1 true a0_0 a0_1 a0_2 l0_3 l0_4 l0_5 l0_6))) = some r := by rw [if_pos rfl] at H; exact H
  clear H
  have H := H1
  clear H1
  replace H := Option.bind_eq_some_iff.mp H
  obtain ⟨t576, A70, H⟩ := H
  replace H : (if t576 = 0 then (if a1 < 1 then (sawmilllaw17_CuttingScales.j0 k a1 true a0_0 a0_1 a0_2 l0_3 l0_4 l0_5 l0_6) else (sawmilllaw17_CuttingScales.j0 k a1 (decide (a1 > 1000)) a0_0 a0_1 a0_2 l0_3 l0_4 l0_5 l0_6)) else (sawmilllaw17_CuttingScales.j0 k a1 true a0_0 a0_1 a0_2 l0_3 l0_4 l0_5 l0_6)) = some r := H
  have A7 := Aside0.mk A70
  clear A70
  by_cases c8 : t576 = 0
  rotate_left
  · rw [if_neg c8] at H
    have c8b0 : (t576 == 0) = false := beq_eq_false_iff_ne.mpr c8
    have c8b1 : (t576 != 0) = true := bne_iff_ne.mpr c8
    (first | rw [c8b0] | (simp only [i64_w, i32_w]; rw [c8b0]) | skip)
    have H' := Aside0.mk H
    clear H
    have hnb20 := NB574_573.out
    have hnc20 := NB573_574.out
    have hcz21 := blk_cells BK574.out
    have hfz21 := blk_frozens BK574.out
    exact L12_0
  rw [if_pos c8] at H
  have c8b0 : (t576 == 0) = true := beq_iff_eq.mpr c8
  have c8b1 : (t576 != 0) = false := bne_eq_false_iff_eq.mpr c8
  clear c8
  (first | rw [c8b0] | (simp only [i64_w, i32_w]; rw [c8b0]) | skip)
  by_cases c9 : a1 < 1
  · rw [if_pos c9] at H
    have c9b0 : decide (a1 < 1) = true := decide_eq_true c9
    clear c9
    have H' := Aside0.mk H
    clear H
    have hnb10 := NB574_573.out
    have hnc10 := NB573_574.out
    have hcz11 := blk_cells BK574.out
    have hfz11 := blk_frozens BK574.out
    exact L12_0
  rw [if_neg c9] at H
  have c9b0 : decide (a1 < 1) = false := decide_eq_false c9
  clear c9
  have H' := Aside0.mk H
  clear H
  have hnb15 := NB574_573.out
  have hnc15 := NB573_574.out
  have hcz16 := blk_cells BK574.out
  have hfz16 := blk_frozens BK574.out
  go_wp2_with (first | ((with_reducible refine gate_callee (f := 26) rfl ?_); refine goesL_ (some 14) rfl rfl Tryd.func26 (by kernel_rfl) rfl #[.agg #[.int .i64 a0_0, .int .i64 a0_1, .int .i64 a0_2, .slice A0_3 l0_3.length c0_3, .slice A0_4 l0_4.length c0_4, .slice A0_5 l0_5.length c0_5, .slice A0_6 l0_6.length c0_6]] rfl mp1 ?_; (with_reducible refine (sawmilllaw17_short.calls k a0_0 a0_1 a0_2 _ _ l0_3 _ _ l0_4 _ _ l0_5 _ _ l0_6 true _ ?side1 ?side2 ?side3 ?side4 ?side5 ?side6 ?side7 ?side8 A5.out).mono ?_); (case side1 => exact cu1 (Kd.C_below HR0_3.out HB.out)); (case side2 => exact HC0_3.out); (case side3 => exact cu1 (Kd.C_below HR0_4.out HB.out)); (case side4 => exact HC0_4.out); (case side5 => exact cu1 (Kd.C_below HR0_5.out HB.out)); (case side6 => exact HC0_5.out); (case side7 => exact cu1 (Kd.C_below HR0_6.out HB.out)); (case side8 => exact HC0_6.out); rintro e w17 ⟨rfl, hb⟩; refine ⟨_, rfl, ?_⟩; have n0_ := Aside0.mk (blk_below (bu BK573.out) hb); have n1_ := Aside0.mk (blk_below (bu BK574.out) hb); have n2_ := Aside0.mk (below_step bl hb); clear BK573; clear BK574; clear HB; have BK573 := n0_; have BK574 := n1_; have HB := n2_; clear n0_ n1_ n2_; (try clear hb); (try clear hb2); (try clear hk); (try clear hi); have hcz18 := blk_cells BK574.out; have hfz18 := blk_frozens BK574.out) | (go_at_call 19; (with_reducible refine (cutting_Check.calls k a0_0 a0_1 a0_2 _ _ l0_3 (fun k_ => k_ < w.heap.size) _ _ l0_4 (fun k_ => k_ < w.heap.size) _ _ l0_5 (fun k_ => k_ < w.heap.size) _ _ l0_6 t576 _ ?side1 ?side2 ?side3 ?side4 ?side5 A7.out).mono ?_); (case side1 => exact cu1 (Kd.C_below HR0_3.out HB.out)); (case side2 => exact HC0_3.out); (case side3 => exact Kd.V_mk HC0_4.out (Kd.F_below (Kd.C_F (Kd.heap_slice 3 (Kd.heap_int .i64)) HR0_4.out) bl)); (case side4 => exact Kd.V_mk HC0_5.out (Kd.F_below (Kd.C_F (Kd.heap_int .i64) HR0_5.out) bl)); (case side5 => exact Kd.V_mk HC0_6.out (Kd.F_below (Kd.C_F (Kd.heap_int .i64) HR0_6.out) bl)); rintro e w19 ⟨rfl, hb⟩; have n0_ := Aside0.mk (blk_below (bu BK573.out) hb); have n1_ := Aside0.mk (blk_below (bu BK574.out) hb); have n2_ := Aside0.mk (below_step bl hb); clear BK573; clear BK574; clear HB; have BK573 := n0_; have BK574 := n1_; have HB := n2_; clear n0_ n1_ n2_; (try clear hb); (try clear hb2); (try clear hk); (try clear hi)))
  go_meet
  case rel => exact ⟨_, (decide (a1 > 1000)), rs1, H', ⟨by first | omega | exact Nat.le_refl _⟩, ⟨bu BK573.out⟩, ⟨bu BK574.out⟩, ⟨bl⟩⟩
 clear HC3; (try clear c1); (try clear c2); (try clear p2); (try clear c6); (try clear c8); (try clear c8b0); (try clear c8b1); (try clear c9); (try clear c9b0); (try clear c10); (try clear c12); (try clear c15); (try clear c20); (try clear c25); (try clear c26); (try clear hcz11); (try clear hcz13); (try clear hcz16); (try clear hcz18); (try clear hcz21); (try clear hcz23); (try clear hcz26); (try clear hfz11); (try clear hfz13); (try clear hfz16); (try clear hfz18); (try clear hfz21); (try clear hfz23); (try clear hfz26)
 obtain ⟨kq, x28_2, rfl, HA, HJ2, BK573, BK574, HB⟩ := hcut
 rcases kq with _ | kj2
 · exact absurd HA.out (by simp [sawmilllaw17_CuttingScales.j0])
 have H := HA.out
 clear HA
 simp only [sawmilllaw17_CuttingScales.j0] at H
 by_cases c28 : x28_2 = true
 · subst c28
   have H1 : ((sawmilllaw17_awake.f).bind fun t577 => (some t577)) = some r := by rw [if_pos rfl] at H; exact H
   clear H
   have H := H1
   clear H1
   replace H := Option.bind_eq_some_iff.mp H
   obtain ⟨t577, A290, H⟩ := H
   replace H : (some t577) = some r := H
   have A29 := Aside0.mk A290
   clear A290
   obtain rfl := Option.some.inj H
   go_wp2_with (first | ((with_reducible refine gate_callee (f := 18) rfl ?_); refine goesL_ (some 29) rfl rfl Tryd.func18 (by kernel_rfl) rfl #[] rfl mp1 ?_; (with_reducible refine (sawmilllaw17_awake.calls  t577 _ ?side1 A29.out).mono ?_); (case side1 => exact bu BK573.out); rintro e w30 ⟨rfl, hb⟩; refine ⟨_, rfl, ?_⟩; have n0_ := Aside0.mk (blk_below (bu BK573.out) hb); have n1_ := Aside0.mk (blk_below (bu BK574.out) hb); have n2_ := Aside0.mk (below_step bl hb); clear BK573; clear BK574; clear HB; have BK573 := n0_; have BK574 := n1_; have HB := n2_; clear n0_ n1_ n2_; (try clear hb); (try clear hb2); (try clear hk); (try clear hi)))
   go_ret
   exact ⟨fe1, bl⟩
 replace c28 := Bool.eq_false_iff.mpr c28
 subst c28
 have H1 : ((sawmilllaw17_copied.f a0_0 a0_1 a0_2 l0_3 l0_4 l0_5 l0_6).bind fun bt578 => ((sawmilllaw17_scaled.f kj2 l0_5 a1).bind fun t594 => ((sawmilllaw17_scaled.f kj2 l0_6 a1).bind fun t597 => (sawmilllaw17_CuttingScales.l0 kj2 a1 0 a0_0 a0_1 a0_2 l0_3 l0_4 l0_5 l0_6 bt578.1 bt578.2.1 bt578.2.2.1 bt578.2.2.2.1 bt578.2.2.2.2.1 t594 t597)))) = some r := by rw [if_neg (show ¬ (false = true) by decide)] at H; exact H
 clear H
 have H := H1
 clear H1
 replace H := Option.bind_eq_some_iff.mp H
 obtain ⟨⟨t578, t579, t580, t581, t584, t587, t590⟩, A310, H⟩ := H
 replace H : ((sawmilllaw17_scaled.f kj2 l0_5 a1).bind fun t594 => ((sawmilllaw17_scaled.f kj2 l0_6 a1).bind fun t597 => (sawmilllaw17_CuttingScales.l0 kj2 a1 0 a0_0 a0_1 a0_2 l0_3 l0_4 l0_5 l0_6 t578 t579 t580 t581 t584 t594 t597))) = some r := H
 have A31 := Aside0.mk A310
 clear A310
 replace H := Option.bind_eq_some_iff.mp H
 obtain ⟨t594, A320, H⟩ := H
 replace H : ((sawmilllaw17_scaled.f kj2 l0_6 a1).bind fun t597 => (sawmilllaw17_CuttingScales.l0 kj2 a1 0 a0_0 a0_1 a0_2 l0_3 l0_4 l0_5 l0_6 t578 t579 t580 t581 t584 t594 t597)) = some r := H
 have A32 := Aside0.mk A320
 clear A320
 replace H := Option.bind_eq_some_iff.mp H
 obtain ⟨t597, A330, H⟩ := H
 replace H : (sawmilllaw17_CuttingScales.l0 kj2 a1 0 a0_0 a0_1 a0_2 l0_3 l0_4 l0_5 l0_6 t578 t579 t580 t581 t584 t594 t597) = some r := H
 have A33 := Aside0.mk A330
 clear A330
 have H' := Aside0.mk H
 clear H
 have hnb34 := NB574_573.out
 have hnc34 := NB573_574.out
 have hcz35 := blk_cells BK574.out
 have hfz35 := blk_frozens BK574.out
 try go_wp2_with (first | ((with_reducible refine gate_callee (f := 42) rfl ?_); refine goesL_ (some 31) rfl rfl Tryd.func42 (by kernel_rfl) rfl #[.agg #[.int .i64 a0_0, .int .i64 a0_1, .int .i64 a0_2, .slice A0_3 l0_3.length c0_3, .slice A0_4 l0_4.length c0_4, .slice A0_5 l0_5.length c0_5, .slice A0_6 l0_6.length c0_6]] rfl mp1 ?_; (with_reducible refine (sawmilllaw17_copied.calls12 a0_0 a0_1 a0_2 _ _ l0_3 _ _ l0_4 _ _ l0_5 _ _ l0_6 t578 t579 t580 t581 t584 t587 t590 _ ?side1 ?side2 ?side3 ?side4 A31.out).mono ?_); (case side1 => exact cu1 (Kd.C_below HR0_3.out HB.out)); (case side2 => exact HC0_3.out); (case side3 => exact cu1 (Kd.C_below HR0_4.out HB.out)); (case side4 => exact HC0_4.out); rintro e w36 ⟨v582, v585, rfl, ho0, ho1, ho2, ho3, hb⟩; refine ⟨_, rfl, ?_⟩; have n0_ := Aside0.mk (Kd.R_lower ho0 (below_size bl)); have n1_ := Aside0.mk (Kd.N_lower (Kd.N_mono (ok' := fun k_ => some k_ ≠ (v582 : Value).ownBlock ∧ some k_ ≠ (.slice none 0 0 : Value).ownBlock ∧ some k_ ≠ (.slice none 0 0 : Value).ownBlock ∧ k_ ≠ 0 ∧ k_ ≠ gb574) (Kd.S_N (Kd.S_bound ho1)) (fun k_ hk_ => ⟨hk_.1.1, hk_.1.2.1, hk_.1.2.2, (Kd.freshB (g := 0) (o := .cells #[.int .i64 (-1), .int .i64 (-1), .int .i64 0] 97 (0, 0)) (bu BK573.out) k_ hk_.2.1), (Kd.freshB (g := gb574) (o := .cells #[.int .i64 a0_0, .int .i64 a0_1, .int .i64 a0_2, .slice A0_3 l0_3.length c0_3, .slice A0_4 l0_4.length c0_4, .slice A0_5 l0_5.length c0_5, .slice A0_6 l0_6.length c0_6] 25 (0, 0)) (bu BK574.out) k_ hk_.2.1)⟩)) (below_size bl)); have n2_ := Aside0.mk (Kd.R_lower ho2 (below_size bl)); have n3_ := Aside0.mk (Kd.R_lower ho3 (below_size bl)); have n4_ := Aside0.mk (blk_below (bu BK573.out) hb); have n5_ := Aside0.mk (blk_below (bu BK574.out) hb); have n6_ := Aside0.mk (below_step bl hb); clear BK573; clear BK574; clear HB; have HO583 := n0_; have HO586 := n1_; have HO589 := n2_; have HO592 := n3_; have BK573 := n4_; have BK574 := n5_; have HB := n6_; clear n0_ n1_ n2_ n3_ n4_ n5_ n6_; (try clear hb); (try clear hb2); (try clear hk); (try clear hi); (try clear ho0); (try clear ho1); (try clear ho2); (try clear ho3)) | ((with_reducible refine gate_dst (N := 5) rfl ?_); refine bx1 (N := 5) #[.int .i64 0, .int .i64 0, .int .i64 0, .slice none 0 0, .slice none 0 0, .slice none 0 0, .slice none 0 0] 25 ?_; intro gb593 hg w37 hbox hb; have n0_ := Aside0.mk (Kd.R_below (ru HO583.out) hb); have n1_ := Aside0.mk (Kd.N_below (Kd.N_elderB (nu HO586.out) gb593 (Nat.le_of_eq hg.symm)) hb); have n2_ := Aside0.mk (Kd.R_below (ru HO589.out) hb); have n3_ := Aside0.mk (Kd.R_below (ru HO592.out) hb); have n4_ := Aside0.mk (blk_below (bu BK573.out) hb); have n5_ := Aside0.mk (blk_below (bu BK574.out) hb); have n6_ := Aside0.mk (below_step bl hb); have n7_ := Aside0.mk (hbox); have n8_ := Aside0.mk ((gs1 : w.heap.size ≤ gb593)); have n9_ := Aside0.mk ((gs1 : w.heap.size ≤ gb593)); have n10_ := Aside0.mk ((nl1 BK573 : 0 ≠ gb593)); have n11_ := Aside0.mk ((ng1 BK573 : gb593 ≠ 0)); have n12_ := Aside0.mk ((nl1 BK574 : gb574 ≠ gb593)); have n13_ := Aside0.mk ((ng1 BK574 : gb593 ≠ gb574)); clear HO583; clear HO586; clear HO589; clear HO592; clear BK573; clear BK574; clear HB; have HO583 := n0_; have HO586 := n1_; have HO589 := n2_; have HO592 := n3_; have BK573 := n4_; have BK574 := n5_; have HB := n6_; have BK593 := n7_; have GW593 := n8_; have GE593 := n9_; have NB573_593 := n10_; have NB593_573 := n11_; have NB574_593 := n12_; have NB593_574 := n13_; clear n0_ n1_ n2_ n3_ n4_ n5_ n6_ n7_ n8_ n9_ n10_ n11_ n12_ n13_; clear hb hbox hg; have hnb38 := NB593_573.out; have hnc38 := NB573_593.out; have hnb39 := NB593_574.out; have hnc39 := NB574_593.out; have hcz40 := blk_cells BK593.out; have hfz40 := blk_frozens BK593.out; obtain ⟨Ao41, co41, eo41⟩ := Kd.R_slice HO583.out; subst eo41; obtain ⟨Ao42, co42, eo42⟩ := Kd.N_slice HO586.out; subst eo42))
 have n0_ : Aside0 (Kd.R (Kd.int .i64) 3 (((((((w37.setCell ⟨gb593, 0, none⟩ (.int .i64 t578)).setCell ⟨gb593, 1, none⟩ (.int .i64 t579)).setCell ⟨gb593, 2, none⟩ (.int .i64 t580)).setCell ⟨gb593, 3, none⟩ (.slice Ao41 t581.length co41)).setCell ⟨gb593, 4, none⟩ (.slice Ao42 t584.length co42)).setCell ⟨gb593, 5, none⟩ (.slice A0_5 l0_5.length c0_5)).setCell ⟨gb593, 6, none⟩ (.slice A0_6 l0_6.length c0_6)) w.heap.size (fun k_ => some k_ ≠ (.slice none 0 0 : Value).ownBlock ∧ some k_ ≠ (.slice none 0 0 : Value).ownBlock) (.slice Ao41 t581.length co41) t581) := ⟨by (with_reducible repeat (first | apply Kd.R_alloc | apply Kd.R_drewN | apply Kd.R_drew)); exact Kd.R_mono (Kd.R_far (p := ⟨gb593, 6, none⟩) (Kd.R_far (p := ⟨gb593, 5, none⟩) (Kd.R_far (p := ⟨gb593, 4, none⟩) (Kd.R_far (p := ⟨gb593, 3, none⟩) (Kd.R_far (p := ⟨gb593, 2, none⟩) (Kd.R_far (p := ⟨gb593, 1, none⟩) (Kd.R_far (p := ⟨gb593, 0, none⟩) (Kd.R_types HO583.out BK593.out (by decide)) (fun _ hk => hk.2) (.int .i64 t578)) (fun _ hk => hk.2) (.int .i64 t579)) (fun _ hk => hk.2) (.int .i64 t580)) (fun _ hk => hk.2) (.slice Ao41 t581.length co41)) (fun _ hk => hk.2) (.slice Ao42 t584.length co42)) (fun _ hk => hk.2) (.slice A0_5 l0_5.length c0_5)) (fun _ hk => hk.2) (.slice A0_6 l0_6.length c0_6)) (fun _ hk => ⟨hk.1.1, hk.1.2⟩)⟩
 have n1_ : Aside0 (Kd.N (Kd.slice 3 (Kd.int .i64)) 22 (((((((w37.setCell ⟨gb593, 0, none⟩ (.int .i64 t578)).setCell ⟨gb593, 1, none⟩ (.int .i64 t579)).setCell ⟨gb593, 2, none⟩ (.int .i64 t580)).setCell ⟨gb593, 3, none⟩ (.slice Ao41 t581.length co41)).setCell ⟨gb593, 4, none⟩ (.slice Ao42 t584.length co42)).setCell ⟨gb593, 5, none⟩ (.slice A0_5 l0_5.length c0_5)).setCell ⟨gb593, 6, none⟩ (.slice A0_6 l0_6.length c0_6)) w.heap.size (fun k_ => some k_ ≠ (.slice Ao41 t581.length co41 : Value).ownBlock ∧ some k_ ≠ (.slice none 0 0 : Value).ownBlock ∧ some k_ ≠ (.slice none 0 0 : Value).ownBlock ∧ k_ ≠ 0 ∧ k_ ≠ gb574 ∧ k_ ≠ gb593) (.slice Ao42 t584.length co42) t584) := ⟨by (with_reducible repeat (first | apply Kd.N_alloc | apply Kd.N_drewN | apply Kd.N_drew)); exact Kd.N_mono (Kd.N_far (p := ⟨gb593, 6, none⟩) (Kd.N_far (p := ⟨gb593, 5, none⟩) (Kd.N_far (p := ⟨gb593, 4, none⟩) (Kd.N_far (p := ⟨gb593, 3, none⟩) (Kd.N_far (p := ⟨gb593, 2, none⟩) (Kd.N_far (p := ⟨gb593, 1, none⟩) (Kd.N_far (p := ⟨gb593, 0, none⟩) (Kd.N_mono HO586.out (fun k_ hk => (⟨hk, hk.2⟩ : _ ∧ k_ ≠ gb593))) (fun _ hk => hk.2) (.int .i64 t578)) (fun _ hk => hk.2) (.int .i64 t579)) (fun _ hk => hk.2) (.int .i64 t580)) (fun _ hk => hk.2) (.slice Ao41 t581.length co41)) (fun _ hk => hk.2) (.slice Ao42 t584.length co42)) (fun _ hk => hk.2) (.slice A0_5 l0_5.length c0_5)) (fun _ hk => hk.2) (.slice A0_6 l0_6.length c0_6)) (fun _ hk => ⟨hk.1.1.1, ⟨hk.1.1.2.1, ⟨hk.1.1.2.2.1, ⟨hk.1.1.2.2.2.1, ⟨hk.1.1.2.2.2.2, hk.1.2⟩⟩⟩⟩⟩)⟩
 have n2_ : Aside0 (Kd.R (Kd.int .i64) 3 (((((((w37.setCell ⟨gb593, 0, none⟩ (.int .i64 t578)).setCell ⟨gb593, 1, none⟩ (.int .i64 t579)).setCell ⟨gb593, 2, none⟩ (.int .i64 t580)).setCell ⟨gb593, 3, none⟩ (.slice Ao41 t581.length co41)).setCell ⟨gb593, 4, none⟩ (.slice Ao42 t584.length co42)).setCell ⟨gb593, 5, none⟩ (.slice A0_5 l0_5.length c0_5)).setCell ⟨gb593, 6, none⟩ (.slice A0_6 l0_6.length c0_6)) w.heap.size (fun k_ => some k_ ≠ (.slice Ao41 t581.length co41 : Value).ownBlock ∧ some k_ ≠ (.slice none 0 0 : Value).ownBlock) (.slice none 0 0) ([] : List Int)) := ⟨by (with_reducible repeat (first | apply Kd.R_alloc | apply Kd.R_drewN | apply Kd.R_drew)); exact Kd.R_mono (Kd.R_far (p := ⟨gb593, 6, none⟩) (Kd.R_far (p := ⟨gb593, 5, none⟩) (Kd.R_far (p := ⟨gb593, 4, none⟩) (Kd.R_far (p := ⟨gb593, 3, none⟩) (Kd.R_far (p := ⟨gb593, 2, none⟩) (Kd.R_far (p := ⟨gb593, 1, none⟩) (Kd.R_far (p := ⟨gb593, 0, none⟩) (Kd.R_types HO589.out BK593.out (by decide)) (fun _ hk => hk.2) (.int .i64 t578)) (fun _ hk => hk.2) (.int .i64 t579)) (fun _ hk => hk.2) (.int .i64 t580)) (fun _ hk => hk.2) (.slice Ao41 t581.length co41)) (fun _ hk => hk.2) (.slice Ao42 t584.length co42)) (fun _ hk => hk.2) (.slice A0_5 l0_5.length c0_5)) (fun _ hk => hk.2) (.slice A0_6 l0_6.length c0_6)) (fun _ hk => ⟨hk.1.1, hk.1.2⟩)⟩
 have n3_ : Aside0 (Kd.R (Kd.int .i64) 3 (((((((w37.setCell ⟨gb593, 0, none⟩ (.int .i64 t578)).setCell ⟨gb593, 1, none⟩ (.int .i64 t579)).setCell ⟨gb593, 2, none⟩ (.int .i64 t580)).setCell ⟨gb593, 3, none⟩ (.slice Ao41 t581.length co41)).setCell ⟨gb593, 4, none⟩ (.slice Ao42 t584.length co42)).setCell ⟨gb593, 5, none⟩ (.slice A0_5 l0_5.length c0_5)).setCell ⟨gb593, 6, none⟩ (.slice A0_6 l0_6.length c0_6)) w.heap.size (fun k_ => some k_ ≠ (.slice Ao41 t581.length co41 : Value).ownBlock ∧ some k_ ≠ (.slice none 0 0 : Value).ownBlock) (.slice none 0 0) ([] : List Int)) := ⟨by (with_reducible repeat (first | apply Kd.R_alloc | apply Kd.R_drewN | apply Kd.R_drew)); exact Kd.R_mono (Kd.R_far (p := ⟨gb593, 6, none⟩) (Kd.R_far (p := ⟨gb593, 5, none⟩) (Kd.R_far (p := ⟨gb593, 4, none⟩) (Kd.R_far (p := ⟨gb593, 3, none⟩) (Kd.R_far (p := ⟨gb593, 2, none⟩) (Kd.R_far (p := ⟨gb593, 1, none⟩) (Kd.R_far (p := ⟨gb593, 0, none⟩) (Kd.R_types HO592.out BK593.out (by decide)) (fun _ hk => hk.2) (.int .i64 t578)) (fun _ hk => hk.2) (.int .i64 t579)) (fun _ hk => hk.2) (.int .i64 t580)) (fun _ hk => hk.2) (.slice Ao41 t581.length co41)) (fun _ hk => hk.2) (.slice Ao42 t584.length co42)) (fun _ hk => hk.2) (.slice A0_5 l0_5.length c0_5)) (fun _ hk => hk.2) (.slice A0_6 l0_6.length c0_6)) (fun _ hk => ⟨hk.1.1, hk.1.2⟩)⟩
 have n4_ : Aside0 ((((((((w37.setCell ⟨gb593, 0, none⟩ (.int .i64 t578)).setCell ⟨gb593, 1, none⟩ (.int .i64 t579)).setCell ⟨gb593, 2, none⟩ (.int .i64 t580)).setCell ⟨gb593, 3, none⟩ (.slice Ao41 t581.length co41)).setCell ⟨gb593, 4, none⟩ (.slice Ao42 t584.length co42)).setCell ⟨gb593, 5, none⟩ (.slice A0_5 l0_5.length c0_5)).setCell ⟨gb593, 6, none⟩ (.slice A0_6 l0_6.length c0_6)).heap[0]? = some (.cells #[.int .i64 (-1), .int .i64 (-1), .int .i64 0] 97 (0, 0))) := ⟨by (with_reducible repeat (first | refine blk_drewN ?_ _ | refine blk_drew ?_ | refine blk_alloc ?_ _)); refine blk_far ?_ NB573_593.out _; (with_reducible repeat (first | refine blk_drewN ?_ _ | refine blk_drew ?_ | refine blk_alloc ?_ _)); refine blk_far ?_ NB573_593.out _; (with_reducible repeat (first | refine blk_drewN ?_ _ | refine blk_drew ?_ | refine blk_alloc ?_ _)); refine blk_far ?_ NB573_593.out _; (with_reducible repeat (first | refine blk_drewN ?_ _ | refine blk_drew ?_ | refine blk_alloc ?_ _)); refine blk_far ?_ NB573_593.out _; (with_reducible repeat (first | refine blk_drewN ?_ _ | refine blk_drew ?_ | refine blk_alloc ?_ _)); refine blk_far ?_ NB573_593.out _; (with_reducible repeat (first | refine blk_drewN ?_ _ | refine blk_drew ?_ | refine blk_alloc ?_ _)); refine blk_far ?_ NB573_593.out _; (with_reducible repeat (first | refine blk_drewN ?_ _ | refine blk_drew ?_ | refine blk_alloc ?_ _)); refine blk_far ?_ NB573_593.out _; (with_reducible repeat (first | refine blk_drewN ?_ _ | refine blk_drew ?_ | refine blk_alloc ?_ _)); exact BK573.out⟩
 have n5_ : Aside0 ((((((((w37.setCell ⟨gb593, 0, none⟩ (.int .i64 t578)).setCell ⟨gb593, 1, none⟩ (.int .i64 t579)).setCell ⟨gb593, 2, none⟩ (.int .i64 t580)).setCell ⟨gb593, 3, none⟩ (.slice Ao41 t581.length co41)).setCell ⟨gb593, 4, none⟩ (.slice Ao42 t584.length co42)).setCell ⟨gb593, 5, none⟩ (.slice A0_5 l0_5.length c0_5)).setCell ⟨gb593, 6, none⟩ (.slice A0_6 l0_6.length c0_6)).heap[gb574]? = some (.cells #[.int .i64 a0_0, .int .i64 a0_1, .int .i64 a0_2, .slice A0_3 l0_3.length c0_3, .slice A0_4 l0_4.length c0_4, .slice A0_5 l0_5.length c0_5, .slice A0_6 l0_6.length c0_6] 25 (0, 0))) := ⟨by (with_reducible repeat (first | refine blk_drewN ?_ _ | refine blk_drew ?_ | refine blk_alloc ?_ _)); refine blk_far ?_ NB574_593.out _; (with_reducible repeat (first | refine blk_drewN ?_ _ | refine blk_drew ?_ | refine blk_alloc ?_ _)); refine blk_far ?_ NB574_593.out _; (with_reducible repeat (first | refine blk_drewN ?_ _ | refine blk_drew ?_ | refine blk_alloc ?_ _)); refine blk_far ?_ NB574_593.out _; (with_reducible repeat (first | refine blk_drewN ?_ _ | refine blk_drew ?_ | refine blk_alloc ?_ _)); refine blk_far ?_ NB574_593.out _; (with_reducible repeat (first | refine blk_drewN ?_ _ | refine blk_drew ?_ | refine blk_alloc ?_ _)); refine blk_far ?_ NB574_593.out _; (with_reducible repeat (first | refine blk_drewN ?_ _ | refine blk_drew ?_ | refine blk_alloc ?_ _)); refine blk_far ?_ NB574_593.out _; (with_reducible repeat (first | refine blk_drewN ?_ _ | refine blk_drew ?_ | refine blk_alloc ?_ _)); refine blk_far ?_ NB574_593.out _; (with_reducible repeat (first | refine blk_drewN ?_ _ | refine blk_drew ?_ | refine blk_alloc ?_ _)); exact BK574.out⟩
 have n6_ : Aside0 ((((((((w37.setCell ⟨gb593, 0, none⟩ (.int .i64 t578)).setCell ⟨gb593, 1, none⟩ (.int .i64 t579)).setCell ⟨gb593, 2, none⟩ (.int .i64 t580)).setCell ⟨gb593, 3, none⟩ (.slice Ao41 t581.length co41)).setCell ⟨gb593, 4, none⟩ (.slice Ao42 t584.length co42)).setCell ⟨gb593, 5, none⟩ (.slice A0_5 l0_5.length c0_5)).setCell ⟨gb593, 6, none⟩ (.slice A0_6 l0_6.length c0_6)).heap[gb593]? = some (.cells #[.int .i64 t578, .int .i64 t579, .int .i64 t580, .slice Ao41 t581.length co41, .slice Ao42 t584.length co42, .slice A0_5 l0_5.length c0_5, .slice A0_6 l0_6.length c0_6] 25 (0, 0))) := ⟨by (with_reducible repeat (first | refine blk_drewN ?_ _ | refine blk_drew ?_ | refine blk_alloc ?_ _)); refine blk_put (cs := #[.int .i64 t578, .int .i64 t579, .int .i64 t580, .slice Ao41 t581.length co41, .slice Ao42 t584.length co42, .slice A0_5 l0_5.length c0_5, .slice none 0 0]) ?_ 6 _ rfl; (with_reducible repeat (first | refine blk_drewN ?_ _ | refine blk_drew ?_ | refine blk_alloc ?_ _)); refine blk_put (cs := #[.int .i64 t578, .int .i64 t579, .int .i64 t580, .slice Ao41 t581.length co41, .slice Ao42 t584.length co42, .slice none 0 0, .slice none 0 0]) ?_ 5 _ rfl; (with_reducible repeat (first | refine blk_drewN ?_ _ | refine blk_drew ?_ | refine blk_alloc ?_ _)); refine blk_put (cs := #[.int .i64 t578, .int .i64 t579, .int .i64 t580, .slice Ao41 t581.length co41, .slice none 0 0, .slice none 0 0, .slice none 0 0]) ?_ 4 _ rfl; (with_reducible repeat (first | refine blk_drewN ?_ _ | refine blk_drew ?_ | refine blk_alloc ?_ _)); refine blk_put (cs := #[.int .i64 t578, .int .i64 t579, .int .i64 t580, .slice none 0 0, .slice none 0 0, .slice none 0 0, .slice none 0 0]) ?_ 3 _ rfl; (with_reducible repeat (first | refine blk_drewN ?_ _ | refine blk_drew ?_ | refine blk_alloc ?_ _)); refine blk_put (cs := #[.int .i64 t578, .int .i64 t579, .int .i64 0, .slice none 0 0, .slice none 0 0, .slice none 0 0, .slice none 0 0]) ?_ 2 _ rfl; (with_reducible repeat (first | refine blk_drewN ?_ _ | refine blk_drew ?_ | refine blk_alloc ?_ _)); refine blk_put (cs := #[.int .i64 t578, .int .i64 0, .int .i64 0, .slice none 0 0, .slice none 0 0, .slice none 0 0, .slice none 0 0]) ?_ 1 _ rfl; (with_reducible repeat (first | refine blk_drewN ?_ _ | refine blk_drew ?_ | refine blk_alloc ?_ _)); refine blk_put (cs := #[.int .i64 0, .int .i64 0, .int .i64 0, .slice none 0 0, .slice none 0 0, .slice none 0 0, .slice none 0 0]) ?_ 0 _ rfl; (with_reducible repeat (first | refine blk_drewN ?_ _ | refine blk_drew ?_ | refine blk_alloc ?_ _)); exact BK593.out⟩
 have n7_ : Aside0 (Below w.heap.size w (((((((w37.setCell ⟨gb593, 0, none⟩ (.int .i64 t578)).setCell ⟨gb593, 1, none⟩ (.int .i64 t579)).setCell ⟨gb593, 2, none⟩ (.int .i64 t580)).setCell ⟨gb593, 3, none⟩ (.slice Ao41 t581.length co41)).setCell ⟨gb593, 4, none⟩ (.slice Ao42 t584.length co42)).setCell ⟨gb593, 5, none⟩ (.slice A0_5 l0_5.length c0_5)).setCell ⟨gb593, 6, none⟩ (.slice A0_6 l0_6.length c0_6))) := ⟨bl⟩
 (try clear HO583)
 (try clear HO586)
 (try clear HO589)
 (try clear HO592)
 (try clear BK573)
 (try clear BK574)
 (try clear BK593)
 (try clear HB)
 generalize (((((((w37.setCell ⟨gb593, 0, none⟩ (.int .i64 t578)).setCell ⟨gb593, 1, none⟩ (.int .i64 t579)).setCell ⟨gb593, 2, none⟩ (.int .i64 t580)).setCell ⟨gb593, 3, none⟩ (.slice Ao41 t581.length co41)).setCell ⟨gb593, 4, none⟩ (.slice Ao42 t584.length co42)).setCell ⟨gb593, 5, none⟩ (.slice A0_5 l0_5.length c0_5)).setCell ⟨gb593, 6, none⟩ (.slice A0_6 l0_6.length c0_6)) = w45 at n0_ n1_ n2_ n3_ n4_ n5_ n6_ n7_ ⊢
 have HO583 := n0_
 have HO586 := n1_
 have HO589 := n2_
 have HO592 := n3_
 have BK573 := n4_
 have BK574 := n5_
 have BK593 := n6_
 have HB := n7_
 clear n0_ n1_ n2_ n3_ n4_ n5_ n6_ n7_
 have n0_ := Aside0.mk (Kd.R_drew HO583.out)
 have n1_ := Aside0.mk (Kd.N_drew HO586.out)
 have n2_ := Aside0.mk (Kd.R_drew HO589.out)
 have n3_ := Aside0.mk (Kd.R_drew HO592.out)
 have n4_ := Aside0.mk (blk_drew BK573.out)
 have n5_ := Aside0.mk (blk_drew BK574.out)
 have n6_ := Aside0.mk (blk_drew BK593.out)
 have n7_ := Aside0.mk (below_drew1 HB.out)
 clear HO583; clear HO586; clear HO589; clear HO592; clear BK573; clear BK574; clear BK593; clear HB
 have HO583 := n0_
 have HO586 := n1_
 have HO589 := n2_
 have HO592 := n3_
 have BK573 := n4_
 have BK574 := n5_
 have BK593 := n6_
 have HB := n7_
 clear n0_ n1_ n2_ n3_ n4_ n5_ n6_ n7_
 refine start_ (n := 12) (S := fun w' => w'.cell? ⟨gb574, 0, none⟩ = some (.int .i64 a0_0) ∧ w'.cell? ⟨gb574, 1, none⟩ = some (.int .i64 a0_1) ∧ w'.cell? ⟨gb574, 2, none⟩ = some (.int .i64 a0_2) ∧ w'.cell? ⟨gb574, 3, none⟩ = some (.slice A0_3 l0_3.length c0_3) ∧ w'.cell? ⟨gb574, 4, none⟩ = some (.slice A0_4 l0_4.length c0_4) ∧ w'.cell? ⟨gb574, 5, none⟩ = some (.slice A0_5 l0_5.length c0_5) ∧ w'.cell? ⟨gb574, 6, none⟩ = some (.slice A0_6 l0_6.length c0_6)) (ds := []) #[false, false, false, false, false, false, false, false, false, false, false, false] (by kernel_rfl) rfl rfl ⟨(blk_cell BK574.out 0).trans rfl, (blk_cell BK574.out 1).trans rfl, (blk_cell BK574.out 2).trans rfl, (blk_cell BK574.out 3).trans rfl, (blk_cell BK574.out 4).trans rfl, (blk_cell BK574.out 5).trans rfl, (blk_cell BK574.out 6).trans rfl⟩ (fun hHeld => ?_); refine with_tabW sawmilllaw17_CuttingScales.tab4 sawmilllaw17_CuttingScales.bits4 (fun HT_ HW_ => ?_)
 generalize w45.drew = w46 at HO583 HO586 HO589 HO592 BK573 BK574 BK593 HB hHeld ⊢
 refine pu1 0 (some 32) #[true, false, false, false, false, false, false, false, false, false, false, false] ?_
 refine pu1 2 (some 34) #[true, false, true, false, false, false, false, false, false, false, false, false] ?_
 refine pu1 4 (some 36) #[true, false, true, false, true, false, false, false, false, false, false, false] ?_
 refine pu1 6 (some 38) #[true, false, true, false, true, false, true, false, false, false, false, false] ?_
 refine ta1 1 (some 33) #[true, true, true, false, true, false, true, false, false, false, false, false] ?_
 refine ta1 5 (some 37) #[true, true, true, false, true, true, true, false, false, false, false, false] ?_
 refine one_ (i := 3) (N := some 35) #[true, true, true, true, true, true, true, false, false, false, false, false] rfl rfl (one_of HT_.out (by kernel_rfl)) (by decide) (fun K hK => ?_)
 refine goes_ Tryd.func43 (by kernel_rfl) rfl #[.slice A0_5 l0_5.length c0_5, .int .i64 a1] (by rfl) rfl rfl mp1 ?_
 with_reducible refine (sawmilllaw17_scaled.calls kj2 _ _ l0_5 a1 t594 _ ?side1 ?side2 A32.out).mono ?_
 (case side1 => exact cu1 (Kd.C_below HR0_5.out HB.out))
 (case side2 => exact HC0_5.out)
 rintro e w47 ⟨v595, rfl, ho0, hb⟩
 refine ⟨_, rfl, ?_⟩
 have n0_ := Aside0.mk (Kd.R_elder' (ru HO583.out) (Kd.R_base ho0) hb)
 have n1_ := Aside0.mk (Kd.N_elder' (nu HO586.out) (Kd.R_base ho0) hb)
 have n2_ := Aside0.mk (Kd.R_elder' (ru HO589.out) (Kd.R_base ho0) hb)
 have n3_ := Aside0.mk (Kd.R_elder' (ru HO592.out) (Kd.R_base ho0) hb)
 have n4_ := Aside0.mk (Kd.R_lower (Kd.R_new' (Kd.R_new' (Kd.R_new' ho0 (Kd.R_lt (ru HO583.out))) (Kd.R_lt (ru HO589.out))) (Kd.R_lt (ru HO592.out))) (below_size bl))
 have n5_ := Aside0.mk (blk_below (bu BK573.out) hb)
 have n6_ := Aside0.mk (blk_below (bu BK574.out) hb)
 have n7_ := Aside0.mk (blk_below (bu BK593.out) hb)
 have n8_ := Aside0.mk (below_step bl hb)
 clear HO583; clear HO586; clear HO589; clear HO592; clear BK573; clear BK574; clear BK593; clear HB
 have HO583 := n0_
 have HO586 := n1_
 have HO589 := n2_
 have HO592 := n3_
 have HO596 := n4_
 have BK573 := n5_
 have BK574 := n6_
 have BK593 := n7_
 have HB := n8_
 clear n0_ n1_ n2_ n3_ n4_ n5_ n6_ n7_ n8_
 (try clear hb)
 (try clear hb2)
 (try clear hk)
 (try clear hi)
 (try clear ho0)
 refine hK.out _ _ ⟨(blk_cell BK574.out 0).trans rfl, (blk_cell BK574.out 1).trans rfl, (blk_cell BK574.out 2).trans rfl, (blk_cell BK574.out 3).trans rfl, (blk_cell BK574.out 4).trans rfl, (blk_cell BK574.out 5).trans rfl, (blk_cell BK574.out 6).trans rfl⟩ (fun hHeld => ?_)
 clear hK K
 refine norm_ (a' := ?_) ?_ ?_
 rotate_left
 · show Act.put _ (some 35) _ = _
   simp only [Act.put, List.setIfInBounds_toArray, List.set_cons_zero, List.set_cons_succ, i64_w, i32_w]
   rfl
 refine pu1 8 (some 40) #[true, true, true, true, true, true, true, false, true, false, false, false] ?_
 refine one_ (i := 7) (N := some 39) #[true, true, true, true, true, true, true, true, true, false, false, false] rfl rfl (one_of HT_.out (by kernel_rfl)) (by decide) (fun K hK => ?_)
 refine goes_ Tryd.func43 (by kernel_rfl) rfl #[.slice A0_6 l0_6.length c0_6, .int .i64 a1] (by rfl) rfl rfl mp1 ?_
 with_reducible refine (sawmilllaw17_scaled.calls kj2 _ _ l0_6 a1 t597 _ ?side1 ?side2 A33.out).mono ?_
 (case side1 => exact cu1 (Kd.C_below HR0_6.out HB.out))
 (case side2 => exact HC0_6.out)
 rintro e w48 ⟨v598, rfl, ho0, hb⟩
 refine ⟨_, rfl, ?_⟩
 have n0_ := Aside0.mk (Kd.R_elder' (ru HO583.out) (Kd.R_base ho0) hb)
 have n1_ := Aside0.mk (Kd.N_elder' (nu HO586.out) (Kd.R_base ho0) hb)
 have n2_ := Aside0.mk (Kd.R_elder' (ru HO589.out) (Kd.R_base ho0) hb)
 have n3_ := Aside0.mk (Kd.R_elder' (ru HO592.out) (Kd.R_base ho0) hb)
 have n4_ := Aside0.mk (Kd.R_elder' (ru HO596.out) (Kd.R_base ho0) hb)
 have n5_ := Aside0.mk (Kd.R_lower (Kd.R_new' (Kd.R_new' (Kd.R_new' (Kd.R_new' ho0 (Kd.R_lt (ru HO583.out))) (Kd.R_lt (ru HO589.out))) (Kd.R_lt (ru HO592.out))) (Kd.R_lt (ru HO596.out))) (below_size bl))
 have n6_ := Aside0.mk (blk_below (bu BK573.out) hb)
 have n7_ := Aside0.mk (blk_below (bu BK574.out) hb)
 have n8_ := Aside0.mk (blk_below (bu BK593.out) hb)
 have n9_ := Aside0.mk (below_step bl hb)
 clear HO583; clear HO586; clear HO589; clear HO592; clear HO596; clear BK573; clear BK574; clear BK593; clear HB
 have HO583 := n0_
 have HO586 := n1_
 have HO589 := n2_
 have HO592 := n3_
 have HO596 := n4_
 have HO599 := n5_
 have BK573 := n6_
 have BK574 := n7_
 have BK593 := n8_
 have HB := n9_
 clear n0_ n1_ n2_ n3_ n4_ n5_ n6_ n7_ n8_ n9_
 (try clear hb)
 (try clear hb2)
 (try clear hk)
 (try clear hi)
 (try clear ho0)
 obtain ⟨Ao49, co49, eo49⟩ := Kd.R_slice HO596.out
 (first | subst eo49 | (injection eo49 with f1_ f2_ f3_; have f4_ := f1_.symm; have f5_ := f3_.symm; clear f1_ f2_ f3_; subst f4_; subst f5_))
 obtain ⟨Ao51, co51, eo51⟩ := Kd.R_slice HO599.out
 (first | subst eo51 | (injection eo51 with f1_ f2_ f3_; have f4_ := f1_.symm; have f5_ := f3_.symm; clear f1_ f2_ f3_; subst f4_; subst f5_))
 refine hK.out _ _ ⟨(blk_cell BK574.out 0).trans rfl, (blk_cell BK574.out 1).trans rfl, (blk_cell BK574.out 2).trans rfl, (blk_cell BK574.out 3).trans rfl, (blk_cell BK574.out 4).trans rfl, (blk_cell BK574.out 5).trans rfl, (blk_cell BK574.out 6).trans rfl⟩ (fun hHeld => ?_)
 clear hK K
 refine norm_ (a' := ?_) ?_ ?_
 rotate_left
 · show Act.put _ (some 39) _ = _
   simp only [Act.put, List.setIfInBounds_toArray, List.set_cons_zero, List.set_cons_succ, i64_w, i32_w]
   rfl
 refine one_ (i := 9) (N := none) #[true, true, true, true, true, true, true, true, true, true, false, false] rfl rfl (one_of HT_.out (by kernel_rfl)) (by decide) (fun K hK => ?_)
 have hs50 : w48.cell? ⟨gb593, 5, none⟩ = some (.slice A0_5 l0_5.length c0_5) := (blk_cell BK593.out 5).trans rfl
 have hfs50 := blk_frozen BK593.out 5
 have hns50_0 := NB573_593.out
 have hns50_1 := NB574_593.out
 have hms50_0 := NB593_573.out
 have hms50_1 := NB593_574.out
 refine skip_ (w1 := ?_) (by rfl) rfl ?_ ?_
 rotate_left
 · go_simp
   rfl
 refine hK.out _ _ ⟨((cell_far (p := ⟨gb593, _, none⟩) NB574_593.out _).trans (hHeld.1)), ((cell_far (p := ⟨gb593, _, none⟩) NB574_593.out _).trans (hHeld.2.1)), ((cell_far (p := ⟨gb593, _, none⟩) NB574_593.out _).trans (hHeld.2.2.1)), ((cell_far (p := ⟨gb593, _, none⟩) NB574_593.out _).trans (hHeld.2.2.2.1)), ((cell_far (p := ⟨gb593, _, none⟩) NB574_593.out _).trans (hHeld.2.2.2.2.1)), ((cell_far (p := ⟨gb593, _, none⟩) NB574_593.out _).trans (hHeld.2.2.2.2.2.1)), ((cell_far (p := ⟨gb593, _, none⟩) NB574_593.out _).trans (hHeld.2.2.2.2.2.2))⟩ (fun hHeld => ?_)
 clear hK K
 refine pu1 10 (some 41) #[true, true, true, true, true, true, true, true, true, true, true, false] ?_
 refine one_ (i := 11) (N := none) #[true, true, true, true, true, true, true, true, true, true, true, true] rfl rfl (one_of HT_.out (by kernel_rfl)) (by decide) (fun K hK => ?_)
 have hs52 : w48.cell? ⟨gb593, 6, none⟩ = some (.slice A0_6 l0_6.length c0_6) := (blk_cell BK593.out 6).trans rfl
 have hfs52 := blk_frozen BK593.out 6
 have hns52_0 := NB573_593.out
 have hns52_1 := NB574_593.out
 have hms52_0 := NB593_573.out
 have hms52_1 := NB593_574.out
 refine skip_ (w1 := ?_) (by rfl) rfl ?_ ?_
 rotate_left
 · go_simp
   rfl
 refine hK.out _ _ ⟨((cell_far (p := ⟨gb593, _, none⟩) NB574_593.out _).trans (hHeld.1)), ((cell_far (p := ⟨gb593, _, none⟩) NB574_593.out _).trans (hHeld.2.1)), ((cell_far (p := ⟨gb593, _, none⟩) NB574_593.out _).trans (hHeld.2.2.1)), ((cell_far (p := ⟨gb593, _, none⟩) NB574_593.out _).trans (hHeld.2.2.2.1)), ((cell_far (p := ⟨gb593, _, none⟩) NB574_593.out _).trans (hHeld.2.2.2.2.1)), ((cell_far (p := ⟨gb593, _, none⟩) NB574_593.out _).trans (hHeld.2.2.2.2.2.1)), ((cell_far (p := ⟨gb593, _, none⟩) NB574_593.out _).trans (hHeld.2.2.2.2.2.2))⟩ (fun hHeld => ?_)
 clear hK K
 refine done_ (done_of HT_.out (by kernel_rfl)) ?_
 try go_wp2
 go_loopg [6] kj2 (fun kq v6 w' => ∃ (x6_2 : Int) (x594004_2 : List (List Int)) (u594004 : Value), v6 = .int .i64 x6_2 ∧ Aside0 (sawmilllaw17_CuttingScales.l0 kq a1 x6_2 a0_0 a0_1 a0_2 l0_3 l0_4 l0_5 l0_6 t578 t579 t580 t581 x594004_2 t594 t597 = some r) ∧ Aside0 (kq ≤ kj2) ∧ Aside0 (Kd.R (Kd.int .i64) 3 w' w.heap.size (fun k_ => some k_ ≠ ((.slice Ao49 t594.length co49) : Value).ownBlock ∧ some k_ ≠ ((.slice Ao51 t597.length co51) : Value).ownBlock) (.slice Ao41 t581.length co41) t581) ∧ Aside0 (Kd.N (Kd.slice 3 (Kd.int .i64)) 22 w' w.heap.size (fun k_ => some k_ ≠ ((.slice Ao41 t581.length co41) : Value).ownBlock ∧ some k_ ≠ ((.slice Ao49 t594.length co49) : Value).ownBlock ∧ some k_ ≠ ((.slice Ao51 t597.length co51) : Value).ownBlock ∧ k_ ≠ 0 ∧ k_ ≠ gb574 ∧ k_ ≠ gb593) u594004 x594004_2) ∧ Aside0 (Kd.R (Kd.int .i64) 3 w' w.heap.size (fun k_ => some k_ ≠ ((.slice Ao41 t581.length co41) : Value).ownBlock ∧ some k_ ≠ ((.slice Ao51 t597.length co51) : Value).ownBlock) (.slice Ao49 t594.length co49) t594) ∧ Aside0 (Kd.R (Kd.int .i64) 3 w' w.heap.size (fun k_ => some k_ ≠ ((.slice Ao41 t581.length co41) : Value).ownBlock ∧ some k_ ≠ ((.slice Ao49 t594.length co49) : Value).ownBlock) (.slice Ao51 t597.length co51) t597) ∧ Aside0 (w'.heap[0]? = some (.cells #[.int .i64 (-1), .int .i64 (-1), .int .i64 0] 97 (0, 0))) ∧ Aside0 (w'.heap[gb574]? = some (.cells #[.int .i64 a0_0, .int .i64 a0_1, .int .i64 a0_2, (.slice A0_3 l0_3.length c0_3), (.slice A0_4 l0_4.length c0_4), (.slice A0_5 l0_5.length c0_5), (.slice A0_6 l0_6.length c0_6)] 25 (0, 0))) ∧ Aside0 (w'.heap[gb593]? = some (.cells #[.int .i64 t578, .int .i64 t579, .int .i64 t580, (.slice Ao41 t581.length co41), u594004, (.slice Ao49 t594.length co49), (.slice Ao51 t597.length co51)] 25 (0, 0))) ∧ Aside0 (Below w.heap.size w w'))
 case atStart => exact ⟨(0), (t584), (.slice Ao42 t584.length co42), rs1, H', ⟨Nat.le_refl _⟩, ⟨by (with_reducible repeat (first | apply Kd.R_alloc | apply Kd.R_drewN | apply Kd.R_drew)); exact Kd.R_mono (Kd.R_far (p := ⟨gb593, 6, none⟩) (Kd.R_far (p := ⟨gb593, 5, none⟩) (Kd.R_types HO583.out BK593.out (by decide)) (fun _ hk => hk.2) (.slice Ao49 t594.length co49)) (fun _ hk => hk.2) (.slice Ao51 t597.length co51)) (fun _ hk => ⟨hk.1.1.2, hk.1.2⟩)⟩, ⟨by (with_reducible repeat (first | apply Kd.N_alloc | apply Kd.N_drewN | apply Kd.N_drew)); exact Kd.N_mono (Kd.N_far (p := ⟨gb593, 6, none⟩) (Kd.N_far (p := ⟨gb593, 5, none⟩) (Kd.N_mono HO586.out (fun k_ hk => (⟨hk, hk.1.1.2.2.2.2.2⟩ : _ ∧ k_ ≠ gb593))) (fun _ hk => hk.2) (.slice Ao49 t594.length co49)) (fun _ hk => hk.2) (.slice Ao51 t597.length co51)) (fun _ hk => ⟨hk.1.1.1.1, ⟨hk.1.1.2, ⟨hk.1.2, ⟨hk.1.1.1.2.2.2.1, ⟨hk.1.1.1.2.2.2.2.1, hk.1.1.1.2.2.2.2.2⟩⟩⟩⟩⟩)⟩, ⟨by (with_reducible repeat (first | apply Kd.R_alloc | apply Kd.R_drewN | apply Kd.R_drew)); exact Kd.R_mono (Kd.R_far (p := ⟨gb593, 6, none⟩) (Kd.R_far (p := ⟨gb593, 5, none⟩) (Kd.R_types HO596.out BK593.out (by decide)) (fun _ hk => hk.2) (.slice Ao49 t594.length co49)) (fun _ hk => hk.2) (.slice Ao51 t597.length co51)) (fun _ hk => ⟨hk.1.1.1.1.2, hk.1.2⟩)⟩, ⟨by (with_reducible repeat (first | apply Kd.R_alloc | apply Kd.R_drewN | apply Kd.R_drew)); exact Kd.R_mono (Kd.R_far (p := ⟨gb593, 6, none⟩) (Kd.R_far (p := ⟨gb593, 5, none⟩) (Kd.R_types HO599.out BK593.out (by decide)) (fun _ hk => hk.2) (.slice Ao49 t594.length co49)) (fun _ hk => hk.2) (.slice Ao51 t597.length co51)) (fun _ hk => ⟨hk.1.1.1.1.2, hk.1.2⟩)⟩, ⟨by (with_reducible repeat (first | refine blk_drewN ?_ _ | refine blk_drew ?_ | refine blk_alloc ?_ _)); refine blk_far ?_ NB573_593.out _; (with_reducible repeat (first | refine blk_drewN ?_ _ | refine blk_drew ?_ | refine blk_alloc ?_ _)); refine blk_far ?_ NB573_593.out _; (with_reducible repeat (first | refine blk_drewN ?_ _ | refine blk_drew ?_ | refine blk_alloc ?_ _)); exact BK573.out⟩, ⟨by (with_reducible repeat (first | refine blk_drewN ?_ _ | refine blk_drew ?_ | refine blk_alloc ?_ _)); refine blk_far ?_ NB574_593.out _; (with_reducible repeat (first | refine blk_drewN ?_ _ | refine blk_drew ?_ | refine blk_alloc ?_ _)); refine blk_far ?_ NB574_593.out _; (with_reducible repeat (first | refine blk_drewN ?_ _ | refine blk_drew ?_ | refine blk_alloc ?_ _)); exact BK574.out⟩, ⟨by (with_reducible repeat (first | refine blk_drewN ?_ _ | refine blk_drew ?_ | refine blk_alloc ?_ _)); refine blk_put (cs := #[.int .i64 t578, .int .i64 t579, .int .i64 t580, .slice Ao41 t581.length co41, .slice Ao42 t584.length co42, .slice Ao49 t594.length co49, .slice A0_6 l0_6.length c0_6]) ?_ 6 _ rfl; (with_reducible repeat (first | refine blk_drewN ?_ _ | refine blk_drew ?_ | refine blk_alloc ?_ _)); refine blk_put (cs := #[.int .i64 t578, .int .i64 t579, .int .i64 t580, .slice Ao41 t581.length co41, .slice Ao42 t584.length co42, .slice A0_5 l0_5.length c0_5, .slice A0_6 l0_6.length c0_6]) ?_ 5 _ rfl; (with_reducible repeat (first | refine blk_drewN ?_ _ | refine blk_drew ?_ | refine blk_alloc ?_ _)); exact BK593.out⟩, ⟨bl⟩⟩
 clear H'; (try clear c1); (try clear c2); (try clear p2); (try clear c3); (try clear c4); (try clear c6); (try clear c8); (try clear c8b0); (try clear c8b1); (try clear c9); (try clear c9b0); (try clear c10); (try clear c12); (try clear c15); (try clear c18); (try clear c20); (try clear c25); (try clear c26); (try clear c28); (try clear c34); (try clear c38); (try clear c39); (try clear c42); (try clear c43); (try clear hcz11); (try clear hcz13); (try clear hcz16); (try clear hcz18); (try clear hcz21); (try clear hcz23); (try clear hcz26); (try clear hcz35); (try clear hcz40); (try clear hfz11); (try clear hfz13); (try clear hfz16); (try clear hfz18); (try clear hfz21); (try clear hfz23); (try clear hfz26); (try clear hfz35); (try clear hfz40); (try clear p2)
 obtain ⟨x6_2, x594004_2, u594004, rfl, HA, HK2, HO_594003, HO_594004, HO_594005, HO_594006, BK573, BK574, BK593, HB⟩ := hrel
 rcases gk with _ | k2
 · exact absurd HA.out (by simp [sawmilllaw17_CuttingScales.l0])
 have H := HA.out
 clear HA
 simp only [sawmilllaw17_CuttingScales.l0] at H
 by_cases c53 : x6_2 < (l0_4.length : Int)
 · rw [if_pos c53] at H
   have c53b0 : decide (x6_2 < (l0_4.length : Int)) = true := decide_eq_true c53
   clear c53
   obtain ⟨c54, H⟩ := gd1 H
   have c54b0 : decide (0 ≤ x6_2) = true := decide_eq_true c54
   clear c54
   replace H := Option.bind_eq_some_iff.mp H
   obtain ⟨t601, A550, H⟩ := H
   replace H : (if x6_2 < (x594004_2.length : Int) then (sawmilllaw17_CuttingScales.l0 k2 a1 (wrap64 (x6_2 + 1)) a0_0 a0_1 a0_2 l0_3 l0_4 l0_5 l0_6 t578 t579 t580 t581 (x594004_2.set (x6_2 : Int).toNat t601) t594 t597) else (none)) = some r := H
   have A55 := Aside0.mk A550
   clear A550
   obtain ⟨c56, H⟩ := gd1 H
   have c56b0 : decide (x6_2 < (x594004_2.length : Int)) = true := decide_eq_true c56
   clear c56
   obtain ⟨y604, hy604⟩ : ∃ y_ : List (List Int), y_ = (x594004_2.set (x6_2 : Int).toNat t601) := ⟨_, rfl⟩
   replace H : (sawmilllaw17_CuttingScales.l0 k2 a1 (wrap64 (x6_2 + 1)) a0_0 a0_1 a0_2 l0_3 l0_4 l0_5 l0_6 t578 t579 t580 t581 y604 t594 t597) = some r := by first | (rw [hy604]; with_reducible exact H) | (have H2_ := (Option.bind_some _ _).symm.trans H; rw [hy604]; with_reducible exact H2_) | (have H2_ := (Option.bind_some _ _).symm.trans H; with_reducible exact H2_) | with_reducible exact H | (rw [hy604]; exact H) | exact H
   have Ny604 := Aside0.mk hy604
   clear hy604
   have H' := Aside0.mk H
   clear H
   have hnb58 := NB574_573.out
   have hnc58 := NB573_574.out
   have hnb59 := NB574_593.out
   have hnc59 := NB593_574.out
   have hcz60 := blk_cells BK574.out
   have hfz60 := blk_frozens BK574.out
   try go_wp2
   have n0_ := Aside0.mk (Kd.R_drew HO_594003.out)
   have n1_ := Aside0.mk (Kd.N_drew HO_594004.out)
   have n2_ := Aside0.mk (Kd.R_drew HO_594005.out)
   have n3_ := Aside0.mk (Kd.R_drew HO_594006.out)
   have n4_ := Aside0.mk (blk_drew BK573.out)
   have n5_ := Aside0.mk (blk_drew BK574.out)
   have n6_ := Aside0.mk (blk_drew BK593.out)
   have n7_ := Aside0.mk (below_drew1 HB.out)
   clear HO_594003; clear HO_594004; clear HO_594005; clear HO_594006; clear BK573; clear BK574; clear BK593; clear HB
   have HO_594003 := n0_
   have HO_594004 := n1_
   have HO_594005 := n2_
   have HO_594006 := n3_
   have BK573 := n4_
   have BK574 := n5_
   have BK593 := n6_
   have HB := n7_
   clear n0_ n1_ n2_ n3_ n4_ n5_ n6_ n7_
   have p600 : 0 ≤ (x6_2 : Int) := da1
   have q600 : x6_2 < (l0_4.length : Int) := da1
   obtain ⟨ad600, A600_0, c600_0, e600, hx600_0, hl600_0, hi600_0⟩ := at_L1 HR0_4.out x6_2 p600 q600
   have hw600_0 := hx600_0
   cases e600
   (try replace hx600_0 := (HB.out.cell (World.block_lt_of_cell? w _ hx600_0)).trans hx600_0)
   have HR600_0 := Aside0.mk hi600_0
   have HC600_0 := Aside0.mk hl600_0
   clear hi600_0 hl600_0
   replace p600 := eq_true p600
   replace q600 := eq_true q600
   refine start_ (n := 12) (S := fun w' => w'.cell? ⟨gb593, 0, none⟩ = some (.int .i64 t578) ∧ w'.cell? ⟨gb593, 1, none⟩ = some (.int .i64 t579) ∧ w'.cell? ⟨gb593, 2, none⟩ = some (.int .i64 t580) ∧ w'.cell? ⟨gb593, 3, none⟩ = some (.slice Ao41 t581.length co41) ∧ w'.cell? ⟨gb593, 4, none⟩ = some (u594004) ∧ w'.cell? ⟨gb593, 5, none⟩ = some (.slice Ao49 t594.length co49) ∧ w'.cell? ⟨gb593, 6, none⟩ = some (.slice Ao51 t597.length co51) ∧ w'.cell? ⟨gb574, 0, none⟩ = some (.int .i64 a0_0) ∧ w'.cell? ⟨gb574, 1, none⟩ = some (.int .i64 a0_1) ∧ w'.cell? ⟨gb574, 2, none⟩ = some (.int .i64 a0_2) ∧ w'.cell? ⟨gb574, 3, none⟩ = some (.slice A0_3 l0_3.length c0_3) ∧ w'.cell? ⟨gb574, 4, none⟩ = some (.slice (some ad600) l0_4.length c0_4) ∧ w'.cell? ⟨gb574, 5, none⟩ = some (.slice A0_5 l0_5.length c0_5) ∧ w'.cell? ⟨gb574, 6, none⟩ = some (.slice A0_6 l0_6.length c0_6) ∧ w'.cell? (ad600.add (x6_2).toNat) = some (.slice A600_0 (rd_L1 l0_4 x6_2).length c600_0)) (ds := [11]) #[false, false, false, false, false, false, false, false, false, false, false, false] (by kernel_rfl) rfl rfl ⟨(blk_cell BK593.out 0).trans rfl, (blk_cell BK593.out 1).trans rfl, (blk_cell BK593.out 2).trans rfl, (blk_cell BK593.out 3).trans rfl, (blk_cell BK593.out 4).trans rfl, (blk_cell BK593.out 5).trans rfl, (blk_cell BK593.out 6).trans rfl, (blk_cell BK574.out 0).trans rfl, (blk_cell BK574.out 1).trans rfl, (blk_cell BK574.out 2).trans rfl, (blk_cell BK574.out 3).trans rfl, (blk_cell BK574.out 4).trans rfl, (blk_cell BK574.out 5).trans rfl, (blk_cell BK574.out 6).trans rfl, ((HB.out.cell (World.block_lt_of_cell? w _ hw600_0)).trans hw600_0)⟩ (fun hHeld => ?_); refine with_tabW sawmilllaw17_CuttingScales.tab8 sawmilllaw17_CuttingScales.bits8 (fun HT_ HW_ => ?_)
   generalize wr.drew = w61 at HO_594003 HO_594004 HO_594005 HO_594006 BK573 BK574 BK593 HB HR600_0 hx600_0 hHeld ⊢
   refine pu1 0 (some 49) #[true, false, false, false, false, false, false, false, false, false, false, false] ?_
   refine pu1 2 (some 51) #[true, false, true, false, false, false, false, false, false, false, false, false] ?_
   refine pu1 3 (some 52) #[true, false, true, true, false, false, false, false, false, false, false, false] ?_
   refine pu1 5 (some 54) #[true, false, true, true, false, true, false, false, false, false, false, false] ?_
   refine pu1 8 (some 57) #[true, false, true, true, false, true, false, false, true, false, false, false] ?_
   refine ta1 1 (some 50) #[true, true, true, true, false, true, false, false, true, false, false, false] ?_
   refine ta1 4 (some 53) #[true, true, true, true, true, true, false, false, true, false, false, false] ?_
   refine pu1 6 (some 55) #[true, true, true, true, true, true, true, false, true, false, false, false] ?_
   refine ta1 7 (some 56) #[true, true, true, true, true, true, true, true, true, false, false, false] ?_
   refine one_ (i := 9) (N := some 58) #[true, true, true, true, true, true, true, true, true, true, false, false] rfl rfl (one_of HT_.out (by kernel_rfl)) (by decide) (fun K hK => ?_)
   refine goes_ Tryd.func43 (by kernel_rfl) rfl #[.slice A600_0 (rd_L1 l0_4 x6_2).length c600_0, .int .i64 a1] (by rfl) rfl rfl mp1 ?_
   with_reducible refine (sawmilllaw17_scaled.calls k2 _ _ (rd_L1 l0_4 x6_2) a1 t601 _ ?side1 ?side2 A55.out).mono ?_
   (case side1 => exact cu1 (Kd.C_below HR600_0.out HB.out))
   (case side2 => exact HC600_0.out)
   rintro e w62 ⟨v602, rfl, ho0, hb⟩
   refine ⟨_, rfl, ?_⟩
   have n0_ := Aside0.mk (Kd.R_elder' (ru HO_594003.out) (Kd.R_base ho0) hb)
   have n1_ := Aside0.mk (Kd.N_elder' (nu HO_594004.out) (Kd.R_base ho0) hb)
   have n2_ := Aside0.mk (Kd.R_elder' (ru HO_594005.out) (Kd.R_base ho0) hb)
   have n3_ := Aside0.mk (Kd.R_elder' (ru HO_594006.out) (Kd.R_base ho0) hb)
   have n4_ := Aside0.mk (Kd.R_lower (Kd.R_new' (Kd.R_new' (Kd.R_new' ho0 (Kd.R_lt (ru HO_594003.out))) (Kd.R_lt (ru HO_594005.out))) (Kd.R_lt (ru HO_594006.out))) (below_size bl))
   have n5_ := Aside0.mk (blk_below (bu BK573.out) hb)
   have n6_ := Aside0.mk (blk_below (bu BK574.out) hb)
   have n7_ := Aside0.mk (blk_below (bu BK593.out) hb)
   have n8_ := Aside0.mk (below_step bl hb)
   clear HO_594003; clear HO_594004; clear HO_594005; clear HO_594006; clear BK573; clear BK574; clear BK593; clear HB
   have HO_594003 := n0_
   have HO_594004 := n1_
   have HO_594005 := n2_
   have HO_594006 := n3_
   have HO603 := n4_
   have BK573 := n5_
   have BK574 := n6_
   have BK593 := n7_
   have HB := n8_
   clear n0_ n1_ n2_ n3_ n4_ n5_ n6_ n7_ n8_
   (try clear hb)
   (try clear hb2)
   (try clear hk)
   (try clear hi)
   (try clear ho0)
   have p57 : 0 ≤ (x6_2 : Int) := da1
   have q57 : (x6_2 : Int) < ((x594004_2.length : Int) : Int) := da1
   obtain ⟨go57, co57, eo57, gb57, gl57, cl57, HG57⟩ := Kd.N_form HO_594004.out (by omega)
   (first | cases eo57 | (injection eo57 with ea_ en_ ec_; (first | subst ea_ | (injection ea_ with ea_; subst ea_)); subst ec_; clear en_))
   have GB57 := Aside0.mk gb57
   have GG57 := Aside0.mk HG57
   clear gb57 gl57 HG57
   obtain ⟨ce57, hcl57, hM57, hcc57, hfr57⟩ := Kd.N_elem HO_594004.out [] (x6_2 : Int) p57 q57
   obtain ⟨ua57_0, uc57_0, rfl, ul57_0, ge57_0⟩ := Kd.FK_slice_open hM57
   have hx57_0 := hcc57 0 _ rfl
   have hf57_0 := hfr57 0
   (try simp only [show ((Kd.slice 3 (Kd.int .i64))).sz = 1 from rfl, Nat.mul_one, Nat.add_zero] at hx57_0)
   (try simp only [show ((Kd.slice 3 (Kd.int .i64))).sz = 1 from rfl, Nat.mul_one, Nat.add_zero] at hf57_0)
   clear hcl57 hcc57 hfr57 hM57
   replace p57 := eq_true p57
   replace q57 := eq_true q57
   obtain ⟨Av_, cv_, ev_⟩ := Kd.R_slice HO603.out
   subst ev_
   have HX63 := Aside0.mk (show Kd.N (Kd.slice 3 (Kd.int .i64)) 22 _ w.heap.size (fun k_ => some k_ ≠ (.slice Ao41 t581.length co41 : Value).ownBlock ∧ some k_ ≠ (.slice Ao49 t594.length co49 : Value).ownBlock ∧ some k_ ≠ (.slice Ao51 t597.length co51 : Value).ownBlock ∧ some k_ ≠ (.slice Av_ t601.length cv_ : Value).ownBlock ∧ k_ ≠ 0 ∧ k_ ≠ gb574 ∧ k_ ≠ gb593) (.slice (some ⟨go57, 0, none⟩) x594004_2.length co57) x594004_2 from (Kd.N_mono (HO_594004.out) (fun k_ hk => ⟨hk.1.1, ⟨hk.1.2.1, ⟨hk.1.2.2.1, ⟨hk.2, ⟨hk.1.2.2.2.1, ⟨hk.1.2.2.2.2.1, hk.1.2.2.2.2.2⟩⟩⟩⟩⟩⟩)))
   replace HX63 := Aside0.mk (show Kd.N (Kd.slice 3 (Kd.int .i64)) 22 _ w.heap.size (fun k_ => some k_ ≠ (.slice Ao41 t581.length co41 : Value).ownBlock ∧ some k_ ≠ (.slice Ao49 t594.length co49 : Value).ownBlock ∧ some k_ ≠ (.slice Ao51 t597.length co51 : Value).ownBlock ∧ k_ ≠ 0 ∧ k_ ≠ gb574 ∧ k_ ≠ gb593) (.slice (some ⟨go57, 0, none⟩) x594004_2.length co57) x594004_2 from Kd.N_mono HX63.out (fun k_ hk => ⟨hk.1, ⟨hk.2.1, ⟨hk.2.2.1, ⟨hk.2.2.2.2.1, ⟨hk.2.2.2.2.2.1, hk.2.2.2.2.2.2⟩⟩⟩⟩⟩))
   obtain ⟨ce63, hcl63, hM63, hcc63, hfr63⟩ := Kd.N_elem HX63.out [] (x6_2 : Int) (da1) (by have h_ : (x6_2 : Int) < ((x594004_2.length : Int) : Int) := da1; first | exact h_ | (have e_ := (Kd.N_reads' HO_594004.out).1; omega) | simpa using h_)
   obtain ⟨ua63_0, uc63_0, rfl, ul63_0, ge63_0⟩ := Kd.FK_slice_open hM63
   have q4_ := (Kd.R_types (Kd.R_types (Kd.R_types (Kd.R_apart' (HO603.out) (Kd.N_typed HO_594004.out) (by decide)) BK573.out (by decide)) BK574.out (by decide)) BK593.out (by decide))
   have q5_ : Kd.R (Kd.int .i64) 3 _ w.heap.size (fun k_ => ((fun k_ => some k_ ≠ (.slice Ao41 t581.length co41 : Value).ownBlock ∧ some k_ ≠ (.slice Ao49 t594.length co49 : Value).ownBlock ∧ some k_ ≠ (.slice Ao51 t597.length co51 : Value).ownBlock ∧ k_ ≠ 0 ∧ k_ ≠ gb574 ∧ k_ ≠ gb593)) k_ ∧ k_ ≠ go57) (.slice Av_ t601.length cv_) t601 := Kd.R_mono q4_ (fun k_ hk => ⟨⟨hk.1.1.1.1.1.1.2, ⟨hk.1.1.1.1.1.2, ⟨hk.1.1.1.1.2, ⟨hk.1.1.2, ⟨hk.1.2, hk.2⟩⟩⟩⟩⟩, fun e_ => (hk.1.1.1.2) (by rw [e_]; rfl)⟩)
   have HP63 := (Kd.N_seg HX63.out (x6_2 : Int) (da1) (by have h_ : (x6_2 : Int) < ((x594004_2.length : Int) : Int) := da1; first | exact h_ | (have e_ := (Kd.N_reads' HO_594004.out).1; omega) | simpa using h_) (seg := [.slice Av_ t601.length cv_]) (j := 0) hcl63 hcc63 (show 1 ≤ 1 from by decide) (x' := t601) (Kd.FK_slice_mk (Kd.R_reads' q5_).2.1 (Kd.R_F q5_)) (fun _ hk => hk)).1
   (try simp only [show ((Kd.slice 3 (Kd.int .i64))).sz = 1 from rfl, Nat.mul_one, Nat.add_zero] at HP63)
   rw [← Ny604.out] at HP63
   have HQ63 := Aside0.mk HP63
   clear hcl63 hcc63 hfr63 hM63 HP63
   refine hK.out _ _ ⟨(blk_cell BK593.out 0).trans rfl, (blk_cell BK593.out 1).trans rfl, (blk_cell BK593.out 2).trans rfl, (blk_cell BK593.out 3).trans rfl, (blk_cell BK593.out 4).trans rfl, (blk_cell BK593.out 5).trans rfl, (blk_cell BK593.out 6).trans rfl, (blk_cell BK574.out 0).trans rfl, (blk_cell BK574.out 1).trans rfl, (blk_cell BK574.out 2).trans rfl, (blk_cell BK574.out 3).trans rfl, (blk_cell BK574.out 4).trans rfl, (blk_cell BK574.out 5).trans rfl, (blk_cell BK574.out 6).trans rfl, ((HB.out.cell (World.block_lt_of_cell? w _ hw600_0)).trans hw600_0)⟩ (fun hHeld => ?_)
   clear hK K
   refine norm_ (a' := ?_) ?_ ?_
   rotate_left
   · show Act.put _ (some 58) _ = _
     simp only [Act.put, List.setIfInBounds_toArray, List.set_cons_zero, List.set_cons_succ, i64_w, i32_w]
     rfl
   refine pu1 10 (some 59) #[true, true, true, true, true, true, true, true, true, true, true, false] ?_
   refine last_ (i := 11) (N := none) #[true, true, true, true, true, true, true, true, true, true, true, true] rfl rfl (one_of HT_.out (by kernel_rfl)) (by decide) (fun K hK => ?_)
   refine skip_ (w1 := ?_) (by rfl) rfl ?_ ?_
   rotate_left
   · go_simp
     rfl
   refine hK.out _ _ ?_
   clear hK K
   refine done_ (done_of HT_.out (by kernel_rfl)) ?_
   try go_wp2
   go_roundg k2
   case measure => have := HJ2.out; have := HK2.out; omega
   case rel =>
    refine ⟨(wrap64 (x6_2 + 1)), (y604), (.slice (some ⟨go57, 0, none⟩) x594004_2.length co57), rs1, H', ⟨by have := HJ2.out; have := HK2.out; omega⟩, ⟨?_⟩, ⟨?_⟩, ⟨?_⟩, ⟨?_⟩, ⟨?_⟩, ⟨?_⟩, ⟨?_⟩, ⟨?_⟩⟩
    · (with_reducible repeat (first | apply Kd.R_alloc | apply Kd.R_drewN | apply Kd.R_drew)); exact Kd.R_mono (Kd.R_far (p := ⟨go57, (x6_2 : Int).toNat, none⟩) (Kd.R_types HO_594003.out GG57.out (by decide)) (fun _ hk => hk.2) ((.slice Av_ t601.length cv_))) (fun _ hk => ⟨hk.1.1.1, hk.1.1.2⟩)
    · (with_reducible repeat (first | apply Kd.N_alloc | apply Kd.N_drewN | apply Kd.N_drew)); exact HQ63.out
    · (with_reducible repeat (first | apply Kd.R_alloc | apply Kd.R_drewN | apply Kd.R_drew)); exact Kd.R_mono (Kd.R_far (p := ⟨go57, (x6_2 : Int).toNat, none⟩) (Kd.R_types HO_594005.out GG57.out (by decide)) (fun _ hk => hk.2) ((.slice Av_ t601.length cv_))) (fun _ hk => ⟨hk.1.1.1, hk.1.1.2⟩)
    · (with_reducible repeat (first | apply Kd.R_alloc | apply Kd.R_drewN | apply Kd.R_drew)); exact Kd.R_mono (Kd.R_far (p := ⟨go57, (x6_2 : Int).toNat, none⟩) (Kd.R_types HO_594006.out GG57.out (by decide)) (fun _ hk => hk.2) ((.slice Av_ t601.length cv_))) (fun _ hk => ⟨hk.1.1.1, hk.1.1.2⟩)
    · (with_reducible repeat (first | refine blk_drewN ?_ _ | refine blk_drew ?_ | refine blk_alloc ?_ _)); refine blk_far ?_ (by have h_ := Kd.N_away HX63.out (fun _ hk => hk.2.2.2.1); intro e_; exact h_ (by rw [e_]; rfl)) _; (with_reducible repeat (first | refine blk_drewN ?_ _ | refine blk_drew ?_ | refine blk_alloc ?_ _)); exact BK573.out
    · (with_reducible repeat (first | refine blk_drewN ?_ _ | refine blk_drew ?_ | refine blk_alloc ?_ _)); refine blk_far ?_ (by have h_ := Kd.N_away HX63.out (fun _ hk => hk.2.2.2.2.1); intro e_; exact h_ (by rw [e_]; rfl)) _; (with_reducible repeat (first | refine blk_drewN ?_ _ | refine blk_drew ?_ | refine blk_alloc ?_ _)); exact BK574.out
    · (with_reducible repeat (first | refine blk_drewN ?_ _ | refine blk_drew ?_ | refine blk_alloc ?_ _)); refine blk_far ?_ (by have h_ := Kd.N_away HX63.out (fun _ hk => hk.2.2.2.2.2); intro e_; exact h_ (by rw [e_]; rfl)) _; (with_reducible repeat (first | refine blk_drewN ?_ _ | refine blk_drew ?_ | refine blk_alloc ?_ _)); exact BK593.out
    · repeat (first | (with_reducible first | exact HB.out | apply below_alloc | apply pw_below_drewN | apply below_drew1 | refine below_set ?_ GB57.out | refine below_set ?_ GE573.out | refine below_set ?_ GE574.out | refine below_set ?_ GE593.out) | exact HB.out)
 rw [if_neg c53] at H
 have c53b0 : decide (x6_2 < (l0_4.length : Int)) = false := decide_eq_false c53
 clear c53
 replace H := Option.bind_eq_some_iff.mp H
 obtain ⟨t605, A640, H⟩ := H
 replace H : (if t605 = 0 then ((cutting_Best.f k2 a0_0 a0_1 a0_2 l0_3 l0_4 l0_5 l0_6).bind fun bt607 => ((cutting_Best.f k2 t578 t579 t580 t581 x594004_2 t594 t597).bind fun bt612 => (if bt607.2.2 = 0 then (if bt612.2.2 = 0 then ((sawmillref17_SamePieces.f k2 bt607.1 bt612.1).bind fun t617 => (if t617 = true then (if bt612.2.1 = (wrap64 (bt607.2.1 * a1)) then ((sawmilllaw17_awake.f).bind fun t618 => (some t618)) else (some false)) else (some false))) else (some false)) else (some false)))) else ((sawmilllaw17_awake.f).bind fun t606 => (some t606))) = some r := H
 have A64 := Aside0.mk A640
 clear A640
 by_cases c65 : t605 = 0
 rotate_left
 · rw [if_neg c65] at H
   have c65b0 : (t605 == 0) = false := beq_eq_false_iff_ne.mpr c65
   have c65b1 : (t605 != 0) = true := bne_iff_ne.mpr c65
   replace H := Option.bind_eq_some_iff.mp H
   obtain ⟨t606, A1360, H⟩ := H
   replace H : (some t606) = some r := H
   have A136 := Aside0.mk A1360
   clear A1360
   obtain rfl := Option.some.inj H
   have hnb137 := NB574_573.out
   have hnc137 := NB573_574.out
   have hnb138 := NB574_593.out
   have hnc138 := NB593_574.out
   have hcz139 := blk_cells BK574.out
   have hfz139 := blk_frozens BK574.out
   have hnb140 := NB593_573.out
   have hnc140 := NB573_593.out
   have hcz141 := blk_cells BK593.out
   have hfz141 := blk_frozens BK593.out
   obtain ⟨Ao142, co142, eo142⟩ := Kd.N_slice HO_594004.out
   subst eo142
   go_wp2_with (first | ((with_reducible refine gate_callee (f := 19) rfl ?_); refine goesL_ (some 61) rfl rfl Tryd.func19 (by kernel_rfl) rfl #[.agg #[.int .i64 t578, .int .i64 t579, .int .i64 t580, .slice Ao41 t581.length co41, .slice Ao142 x594004_2.length co142, .slice Ao49 t594.length co49, .slice Ao51 t597.length co51]] rfl mp1 ?_; (with_reducible refine (cutting_Check.calls k2 t578 t579 t580 _ _ t581 (fun k_ => (some k_ ≠ (.slice Ao41 t581.length co41 : Value).ownBlock ∧ (some k_ ≠ (.slice Ao49 t594.length co49 : Value).ownBlock ∧ (some k_ ≠ (.slice Ao51 t597.length co51 : Value).ownBlock ∧ (k_ ≠ 0 ∧ (k_ ≠ gb574 ∧ k_ ≠ gb593)))))) _ _ x594004_2 (fun k_ => some k_ = (.slice Ao49 t594.length co49 : Value).ownBlock) _ _ t594 (fun k_ => some k_ = (.slice Ao51 t597.length co51 : Value).ownBlock) _ _ t597 t605 _ ?side1 ?side2 ?side3 ?side4 ?side5 A64.out).mono ?_); (case side1 => repeat (first | exact (Kd.R_reads' HO_594003.out).2.2 | (with_reducible refine Kd.C_alloc ?_ _) | (with_reducible refine Kd.C_drewN ?_ _) | (with_reducible refine Kd.C_drew ?_))); (case side2 => exact (Kd.R_reads' HO_594003.out).2.1); (case side3 => exact Kd.N_V (HO_594004.out)); (case side4 => exact Kd.R_V (Kd.R_tight rfl (Kd.R_types (Kd.R_types (Kd.R_types (Kd.R_apart' (HO_594005.out) (Kd.N_typed HO_594004.out) (by decide)) BK573.out (by decide)) BK574.out (by decide)) BK593.out (by decide)))); (case side5 => exact Kd.R_V (Kd.R_tight rfl (Kd.R_types (Kd.R_types (Kd.R_types (Kd.R_apart' (HO_594006.out) (Kd.N_typed HO_594004.out) (by decide)) BK573.out (by decide)) BK574.out (by decide)) BK593.out (by decide)))); rintro e w143 ⟨rfl, hb⟩; refine ⟨_, rfl, ?_⟩; have n0_ := Aside0.mk (Kd.R_below (ru HO_594003.out) hb); have n1_ := Aside0.mk (Kd.N_below (nu HO_594004.out) hb); have n2_ := Aside0.mk (Kd.R_below (ru HO_594005.out) hb); have n3_ := Aside0.mk (Kd.R_below (ru HO_594006.out) hb); have n4_ := Aside0.mk (blk_below (bu BK573.out) hb); have n5_ := Aside0.mk (blk_below (bu BK574.out) hb); have n6_ := Aside0.mk (blk_below (bu BK593.out) hb); have n7_ := Aside0.mk (below_step bl hb); clear HO_594003; clear HO_594004; clear HO_594005; clear HO_594006; clear BK573; clear BK574; clear BK593; clear HB; have HO_594003 := n0_; have HO_594004 := n1_; have HO_594005 := n2_; have HO_594006 := n3_; have BK573 := n4_; have BK574 := n5_; have BK593 := n6_; have HB := n7_; clear n0_ n1_ n2_ n3_ n4_ n5_ n6_ n7_; (try clear hb); (try clear hb2); (try clear hk); (try clear hi)) | ((with_reducible refine gate_callee (f := 18) rfl ?_); refine goesL_ (some 63) rfl rfl Tryd.func18 (by kernel_rfl) rfl #[] rfl mp1 ?_; (with_reducible refine (sawmilllaw17_awake.calls  t606 _ ?side1 A136.out).mono ?_); (case side1 => exact bu BK573.out); rintro e w144 ⟨rfl, hb⟩; refine ⟨_, rfl, ?_⟩; have n0_ := Aside0.mk (Kd.R_below (ru HO_594003.out) hb); have n1_ := Aside0.mk (Kd.N_below (nu HO_594004.out) hb); have n2_ := Aside0.mk (Kd.R_below (ru HO_594005.out) hb); have n3_ := Aside0.mk (Kd.R_below (ru HO_594006.out) hb); have n4_ := Aside0.mk (blk_below (bu BK573.out) hb); have n5_ := Aside0.mk (blk_below (bu BK574.out) hb); have n6_ := Aside0.mk (blk_below (bu BK593.out) hb); have n7_ := Aside0.mk (below_step bl hb); clear HO_594003; clear HO_594004; clear HO_594005; clear HO_594006; clear BK573; clear BK574; clear BK593; clear HB; have HO_594003 := n0_; have HO_594004 := n1_; have HO_594005 := n2_; have HO_594006 := n3_; have BK573 := n4_; have BK574 := n5_; have BK593 := n6_; have HB := n7_; clear n0_ n1_ n2_ n3_ n4_ n5_ n6_ n7_; (try clear hb); (try clear hb2); (try clear hk); (try clear hi)))
   go_ret
   exact ⟨fe1, bl⟩
 rw [if_pos c65] at H
 have c65b0 : (t605 == 0) = true := beq_iff_eq.mpr c65
 have c65b1 : (t605 != 0) = false := bne_eq_false_iff_eq.mpr c65
 clear c65
 replace H := Option.bind_eq_some_iff.mp H
 obtain ⟨⟨t607, t610, t611⟩, A660, H⟩ := H
 replace H : ((cutting_Best.f k2 t578 t579 t580 t581 x594004_2 t594 t597).bind fun bt612 => (if t611 = 0 then (if bt612.2.2 = 0 then ((sawmillref17_SamePieces.f k2 t607 bt612.1).bind fun t617 => (if t617 = true then (if bt612.2.1 = (wrap64 (t610 * a1)) then ((sawmilllaw17_awake.f).bind fun t618 => (some t618)) else (some false)) else (some false))) else (some false)) else (some false))) = some r := H
 have A66 := Aside0.mk A660
 clear A660
 replace H := Option.bind_eq_some_iff.mp H
 obtain ⟨⟨t612, t615, t616⟩, A670, H⟩ := H
 replace H : (if t611 = 0 then (if t616 = 0 then ((sawmillref17_SamePieces.f k2 t607 t612).bind fun t617 => (if t617 = true then (if t615 = (wrap64 (t610 * a1)) then ((sawmilllaw17_awake.f).bind fun t618 => (some t618)) else (some false)) else (some false))) else (some false)) else (some false)) = some r := H
 have A67 := Aside0.mk A670
 clear A670
 by_cases c68 : t611 = 0
 rotate_left
 · rw [if_neg c68] at H
   have c68b0 : (t611 == 0) = false := beq_eq_false_iff_ne.mpr c68
   have c68b1 : (t611 != 0) = true := bne_iff_ne.mpr c68
   obtain rfl := Option.some.inj H
   have hnb125 := NB574_573.out
   have hnc125 := NB573_574.out
   have hnb126 := NB574_593.out
   have hnc126 := NB593_574.out
   have hcz127 := blk_cells BK574.out
   have hfz127 := blk_frozens BK574.out
   have hnb128 := NB593_573.out
   have hnc128 := NB573_593.out
   have hcz129 := blk_cells BK593.out
   have hfz129 := blk_frozens BK593.out
   obtain ⟨Ao130, co130, eo130⟩ := Kd.N_slice HO_594004.out
   subst eo130
   go_wp2_with (first | ((with_reducible refine gate_callee (f := 19) rfl ?_); refine goesL_ (some 61) rfl rfl Tryd.func19 (by kernel_rfl) rfl #[.agg #[.int .i64 t578, .int .i64 t579, .int .i64 t580, .slice Ao41 t581.length co41, .slice Ao130 x594004_2.length co130, .slice Ao49 t594.length co49, .slice Ao51 t597.length co51]] rfl mp1 ?_; (with_reducible refine (cutting_Check.calls k2 t578 t579 t580 _ _ t581 (fun k_ => (some k_ ≠ (.slice Ao41 t581.length co41 : Value).ownBlock ∧ (some k_ ≠ (.slice Ao49 t594.length co49 : Value).ownBlock ∧ (some k_ ≠ (.slice Ao51 t597.length co51 : Value).ownBlock ∧ (k_ ≠ 0 ∧ (k_ ≠ gb574 ∧ k_ ≠ gb593)))))) _ _ x594004_2 (fun k_ => some k_ = (.slice Ao49 t594.length co49 : Value).ownBlock) _ _ t594 (fun k_ => some k_ = (.slice Ao51 t597.length co51 : Value).ownBlock) _ _ t597 t605 _ ?side1 ?side2 ?side3 ?side4 ?side5 A64.out).mono ?_); (case side1 => repeat (first | exact (Kd.R_reads' HO_594003.out).2.2 | (with_reducible refine Kd.C_alloc ?_ _) | (with_reducible refine Kd.C_drewN ?_ _) | (with_reducible refine Kd.C_drew ?_))); (case side2 => exact (Kd.R_reads' HO_594003.out).2.1); (case side3 => exact Kd.N_V (HO_594004.out)); (case side4 => exact Kd.R_V (Kd.R_tight rfl (Kd.R_types (Kd.R_types (Kd.R_types (Kd.R_apart' (HO_594005.out) (Kd.N_typed HO_594004.out) (by decide)) BK573.out (by decide)) BK574.out (by decide)) BK593.out (by decide)))); (case side5 => exact Kd.R_V (Kd.R_tight rfl (Kd.R_types (Kd.R_types (Kd.R_types (Kd.R_apart' (HO_594006.out) (Kd.N_typed HO_594004.out) (by decide)) BK573.out (by decide)) BK574.out (by decide)) BK593.out (by decide)))); rintro e w131 ⟨rfl, hb⟩; refine ⟨_, rfl, ?_⟩; have n0_ := Aside0.mk (Kd.R_below (ru HO_594003.out) hb); have n1_ := Aside0.mk (Kd.N_below (nu HO_594004.out) hb); have n2_ := Aside0.mk (Kd.R_below (ru HO_594005.out) hb); have n3_ := Aside0.mk (Kd.R_below (ru HO_594006.out) hb); have n4_ := Aside0.mk (blk_below (bu BK573.out) hb); have n5_ := Aside0.mk (blk_below (bu BK574.out) hb); have n6_ := Aside0.mk (blk_below (bu BK593.out) hb); have n7_ := Aside0.mk (below_step bl hb); clear HO_594003; clear HO_594004; clear HO_594005; clear HO_594006; clear BK573; clear BK574; clear BK593; clear HB; have HO_594003 := n0_; have HO_594004 := n1_; have HO_594005 := n2_; have HO_594006 := n3_; have BK573 := n4_; have BK574 := n5_; have BK593 := n6_; have HB := n7_; clear n0_ n1_ n2_ n3_ n4_ n5_ n6_ n7_; (try clear hb); (try clear hb2); (try clear hk); (try clear hi); have hcz132 := blk_cells BK574.out; have hfz132 := blk_frozens BK574.out) | ((with_reducible refine gate_callee (f := 27) rfl ?_); refine goesL_ (some 66) rfl rfl Tryd.func27 (by kernel_rfl) rfl #[.agg #[.int .i64 a0_0, .int .i64 a0_1, .int .i64 a0_2, .slice A0_3 l0_3.length c0_3, .slice A0_4 l0_4.length c0_4, .slice A0_5 l0_5.length c0_5, .slice A0_6 l0_6.length c0_6]] rfl mp1 ?_; (with_reducible refine (cutting_Best.calls k2 a0_0 a0_1 a0_2 _ _ l0_3 _ _ l0_4 _ _ l0_5 _ _ l0_6 t607 t610 t611 _ ?side1 ?side2 ?side3 ?side4 ?side5 ?side6 ?side7 ?side8 ?side9 A66.out).mono ?_); (case side1 => exact cu1 (Kd.C_below HR0_3.out HB.out)); (case side2 => exact HC0_3.out); (case side3 => exact cu1 (Kd.C_below HR0_4.out HB.out)); (case side4 => exact HC0_4.out); (case side5 => exact cu1 (Kd.C_below HR0_5.out HB.out)); (case side6 => exact HC0_5.out); (case side7 => exact cu1 (Kd.C_below HR0_6.out HB.out)); (case side8 => exact HC0_6.out); (case side9 => exact bu BK573.out); rintro e w133 ⟨v608, rfl, ho0, hb⟩; refine ⟨_, rfl, ?_⟩; have n0_ := Aside0.mk (Kd.R_below (ru HO_594003.out) hb); have n1_ := Aside0.mk (Kd.N_elder' (nu HO_594004.out) (Kd.R_base ho0) hb); have n2_ := Aside0.mk (Kd.R_below (ru HO_594005.out) hb); have n3_ := Aside0.mk (Kd.R_below (ru HO_594006.out) hb); have n4_ := Aside0.mk (Kd.R_lower ho0 (below_size bl)); have n5_ := Aside0.mk (blk_below (bu BK573.out) hb); have n6_ := Aside0.mk (blk_below (bu BK574.out) hb); have n7_ := Aside0.mk (blk_below (bu BK593.out) hb); have n8_ := Aside0.mk (below_step bl hb); clear HO_594003; clear HO_594004; clear HO_594005; clear HO_594006; clear BK573; clear BK574; clear BK593; clear HB; have HO_594003 := n0_; have HO_594004 := n1_; have HO_594005 := n2_; have HO_594006 := n3_; have HO609 := n4_; have BK573 := n5_; have BK574 := n6_; have BK593 := n7_; have HB := n8_; clear n0_ n1_ n2_ n3_ n4_ n5_ n6_ n7_ n8_; (try clear hb); (try clear hb2); (try clear hk); (try clear hi); (try clear ho0); have hcz134 := blk_cells BK593.out; have hfz134 := blk_frozens BK593.out) | ((with_reducible refine gate_callee (f := 27) rfl ?_); refine goesL_ (some 72) rfl rfl Tryd.func27 (by kernel_rfl) rfl #[.agg #[.int .i64 t578, .int .i64 t579, .int .i64 t580, .slice Ao41 t581.length co41, .slice Ao130 x594004_2.length co130, .slice Ao49 t594.length co49, .slice Ao51 t597.length co51]] rfl mp1 ?_; (with_reducible refine (cutting_Best.calls k2 t578 t579 t580 _ _ t581 _ _ x594004_2 _ _ t594 _ _ t597 t612 t615 t616 _ ?side1 ?side2 ?side3 ?side4 ?side5 ?side6 ?side7 ?side8 ?side9 A67.out).mono ?_); (case side1 => repeat (first | exact (Kd.R_reads' HO_594003.out).2.2 | (with_reducible refine Kd.C_alloc ?_ _) | (with_reducible refine Kd.C_drewN ?_ _) | (with_reducible refine Kd.C_drew ?_))); (case side2 => exact (Kd.R_reads' HO_594003.out).2.1); (case side3 => repeat (first | exact (Kd.N_reads' HO_594004.out).2.2 | (with_reducible refine Kd.C_alloc ?_ _) | (with_reducible refine Kd.C_drewN ?_ _) | (with_reducible refine Kd.C_drew ?_))); (case side4 => exact (Kd.N_reads' HO_594004.out).2.1); (case side5 => repeat (first | exact (Kd.R_reads' HO_594005.out).2.2 | (with_reducible refine Kd.C_alloc ?_ _) | (with_reducible refine Kd.C_drewN ?_ _) | (with_reducible refine Kd.C_drew ?_))); (case side6 => exact (Kd.R_reads' HO_594005.out).2.1); (case side7 => repeat (first | exact (Kd.R_reads' HO_594006.out).2.2 | (with_reducible refine Kd.C_alloc ?_ _) | (with_reducible refine Kd.C_drewN ?_ _) | (with_reducible refine Kd.C_drew ?_))); (case side8 => exact (Kd.R_reads' HO_594006.out).2.1); (case side9 => exact bu BK573.out); rintro e w135 ⟨v613, rfl, ho0, hb⟩; refine ⟨_, rfl, ?_⟩; have n0_ := Aside0.mk (Kd.R_below (ru HO_594003.out) hb); have n1_ := Aside0.mk (Kd.N_elder' (nu HO_594004.out) (Kd.R_base ho0) hb); have n2_ := Aside0.mk (Kd.R_below (ru HO_594005.out) hb); have n3_ := Aside0.mk (Kd.R_below (ru HO_594006.out) hb); have n4_ := Aside0.mk (Kd.R_elder' (ru HO609.out) (Kd.R_base ho0) hb); have n5_ := Aside0.mk (Kd.R_lower (Kd.R_new' ho0 (Kd.R_lt (ru HO609.out))) (below_size bl)); have n6_ := Aside0.mk (blk_below (bu BK573.out) hb); have n7_ := Aside0.mk (blk_below (bu BK574.out) hb); have n8_ := Aside0.mk (blk_below (bu BK593.out) hb); have n9_ := Aside0.mk (below_step bl hb); clear HO_594003; clear HO_594004; clear HO_594005; clear HO_594006; clear HO609; clear BK573; clear BK574; clear BK593; clear HB; have HO_594003 := n0_; have HO_594004 := n1_; have HO_594005 := n2_; have HO_594006 := n3_; have HO609 := n4_; have HO614 := n5_; have BK573 := n6_; have BK574 := n7_; have BK593 := n8_; have HB := n9_; clear n0_ n1_ n2_ n3_ n4_ n5_ n6_ n7_ n8_ n9_; (try clear hb); (try clear hb2); (try clear hk); (try clear hi); (try clear ho0)))
   go_ret
   exact ⟨fe1, bl⟩
 rw [if_pos c68] at H
 have c68b0 : (t611 == 0) = true := beq_iff_eq.mpr c68
 have c68b1 : (t611 != 0) = false := bne_eq_false_iff_eq.mpr c68
 clear c68
 by_cases c69 : t616 = 0
 rotate_left
 · rw [if_neg c69] at H
   have c69b0 : (t616 == 0) = false := beq_eq_false_iff_ne.mpr c69
   have c69b1 : (t616 != 0) = true := bne_iff_ne.mpr c69
   obtain rfl := Option.some.inj H
   have hnb114 := NB574_573.out
   have hnc114 := NB573_574.out
   have hnb115 := NB574_593.out
   have hnc115 := NB593_574.out
   have hcz116 := blk_cells BK574.out
   have hfz116 := blk_frozens BK574.out
   have hnb117 := NB593_573.out
   have hnc117 := NB573_593.out
   have hcz118 := blk_cells BK593.out
   have hfz118 := blk_frozens BK593.out
   obtain ⟨Ao119, co119, eo119⟩ := Kd.N_slice HO_594004.out
   subst eo119
   go_wp2_with (first | ((with_reducible refine gate_callee (f := 19) rfl ?_); refine goesL_ (some 61) rfl rfl Tryd.func19 (by kernel_rfl) rfl #[.agg #[.int .i64 t578, .int .i64 t579, .int .i64 t580, .slice Ao41 t581.length co41, .slice Ao119 x594004_2.length co119, .slice Ao49 t594.length co49, .slice Ao51 t597.length co51]] rfl mp1 ?_; (with_reducible refine (cutting_Check.calls k2 t578 t579 t580 _ _ t581 (fun k_ => (some k_ ≠ (.slice Ao41 t581.length co41 : Value).ownBlock ∧ (some k_ ≠ (.slice Ao49 t594.length co49 : Value).ownBlock ∧ (some k_ ≠ (.slice Ao51 t597.length co51 : Value).ownBlock ∧ (k_ ≠ 0 ∧ (k_ ≠ gb574 ∧ k_ ≠ gb593)))))) _ _ x594004_2 (fun k_ => some k_ = (.slice Ao49 t594.length co49 : Value).ownBlock) _ _ t594 (fun k_ => some k_ = (.slice Ao51 t597.length co51 : Value).ownBlock) _ _ t597 t605 _ ?side1 ?side2 ?side3 ?side4 ?side5 A64.out).mono ?_); (case side1 => repeat (first | exact (Kd.R_reads' HO_594003.out).2.2 | (with_reducible refine Kd.C_alloc ?_ _) | (with_reducible refine Kd.C_drewN ?_ _) | (with_reducible refine Kd.C_drew ?_))); (case side2 => exact (Kd.R_reads' HO_594003.out).2.1); (case side3 => exact Kd.N_V (HO_594004.out)); (case side4 => exact Kd.R_V (Kd.R_tight rfl (Kd.R_types (Kd.R_types (Kd.R_types (Kd.R_apart' (HO_594005.out) (Kd.N_typed HO_594004.out) (by decide)) BK573.out (by decide)) BK574.out (by decide)) BK593.out (by decide)))); (case side5 => exact Kd.R_V (Kd.R_tight rfl (Kd.R_types (Kd.R_types (Kd.R_types (Kd.R_apart' (HO_594006.out) (Kd.N_typed HO_594004.out) (by decide)) BK573.out (by decide)) BK574.out (by decide)) BK593.out (by decide)))); rintro e w120 ⟨rfl, hb⟩; refine ⟨_, rfl, ?_⟩; have n0_ := Aside0.mk (Kd.R_below (ru HO_594003.out) hb); have n1_ := Aside0.mk (Kd.N_below (nu HO_594004.out) hb); have n2_ := Aside0.mk (Kd.R_below (ru HO_594005.out) hb); have n3_ := Aside0.mk (Kd.R_below (ru HO_594006.out) hb); have n4_ := Aside0.mk (blk_below (bu BK573.out) hb); have n5_ := Aside0.mk (blk_below (bu BK574.out) hb); have n6_ := Aside0.mk (blk_below (bu BK593.out) hb); have n7_ := Aside0.mk (below_step bl hb); clear HO_594003; clear HO_594004; clear HO_594005; clear HO_594006; clear BK573; clear BK574; clear BK593; clear HB; have HO_594003 := n0_; have HO_594004 := n1_; have HO_594005 := n2_; have HO_594006 := n3_; have BK573 := n4_; have BK574 := n5_; have BK593 := n6_; have HB := n7_; clear n0_ n1_ n2_ n3_ n4_ n5_ n6_ n7_; (try clear hb); (try clear hb2); (try clear hk); (try clear hi); have hcz121 := blk_cells BK574.out; have hfz121 := blk_frozens BK574.out) | ((with_reducible refine gate_callee (f := 27) rfl ?_); refine goesL_ (some 66) rfl rfl Tryd.func27 (by kernel_rfl) rfl #[.agg #[.int .i64 a0_0, .int .i64 a0_1, .int .i64 a0_2, .slice A0_3 l0_3.length c0_3, .slice A0_4 l0_4.length c0_4, .slice A0_5 l0_5.length c0_5, .slice A0_6 l0_6.length c0_6]] rfl mp1 ?_; (with_reducible refine (cutting_Best.calls k2 a0_0 a0_1 a0_2 _ _ l0_3 _ _ l0_4 _ _ l0_5 _ _ l0_6 t607 t610 t611 _ ?side1 ?side2 ?side3 ?side4 ?side5 ?side6 ?side7 ?side8 ?side9 A66.out).mono ?_); (case side1 => exact cu1 (Kd.C_below HR0_3.out HB.out)); (case side2 => exact HC0_3.out); (case side3 => exact cu1 (Kd.C_below HR0_4.out HB.out)); (case side4 => exact HC0_4.out); (case side5 => exact cu1 (Kd.C_below HR0_5.out HB.out)); (case side6 => exact HC0_5.out); (case side7 => exact cu1 (Kd.C_below HR0_6.out HB.out)); (case side8 => exact HC0_6.out); (case side9 => exact bu BK573.out); rintro e w122 ⟨v608, rfl, ho0, hb⟩; refine ⟨_, rfl, ?_⟩; have n0_ := Aside0.mk (Kd.R_below (ru HO_594003.out) hb); have n1_ := Aside0.mk (Kd.N_elder' (nu HO_594004.out) (Kd.R_base ho0) hb); have n2_ := Aside0.mk (Kd.R_below (ru HO_594005.out) hb); have n3_ := Aside0.mk (Kd.R_below (ru HO_594006.out) hb); have n4_ := Aside0.mk (Kd.R_lower ho0 (below_size bl)); have n5_ := Aside0.mk (blk_below (bu BK573.out) hb); have n6_ := Aside0.mk (blk_below (bu BK574.out) hb); have n7_ := Aside0.mk (blk_below (bu BK593.out) hb); have n8_ := Aside0.mk (below_step bl hb); clear HO_594003; clear HO_594004; clear HO_594005; clear HO_594006; clear BK573; clear BK574; clear BK593; clear HB; have HO_594003 := n0_; have HO_594004 := n1_; have HO_594005 := n2_; have HO_594006 := n3_; have HO609 := n4_; have BK573 := n5_; have BK574 := n6_; have BK593 := n7_; have HB := n8_; clear n0_ n1_ n2_ n3_ n4_ n5_ n6_ n7_ n8_; (try clear hb); (try clear hb2); (try clear hk); (try clear hi); (try clear ho0); have hcz123 := blk_cells BK593.out; have hfz123 := blk_frozens BK593.out) | ((with_reducible refine gate_callee (f := 27) rfl ?_); refine goesL_ (some 72) rfl rfl Tryd.func27 (by kernel_rfl) rfl #[.agg #[.int .i64 t578, .int .i64 t579, .int .i64 t580, .slice Ao41 t581.length co41, .slice Ao119 x594004_2.length co119, .slice Ao49 t594.length co49, .slice Ao51 t597.length co51]] rfl mp1 ?_; (with_reducible refine (cutting_Best.calls k2 t578 t579 t580 _ _ t581 _ _ x594004_2 _ _ t594 _ _ t597 t612 t615 t616 _ ?side1 ?side2 ?side3 ?side4 ?side5 ?side6 ?side7 ?side8 ?side9 A67.out).mono ?_); (case side1 => repeat (first | exact (Kd.R_reads' HO_594003.out).2.2 | (with_reducible refine Kd.C_alloc ?_ _) | (with_reducible refine Kd.C_drewN ?_ _) | (with_reducible refine Kd.C_drew ?_))); (case side2 => exact (Kd.R_reads' HO_594003.out).2.1); (case side3 => repeat (first | exact (Kd.N_reads' HO_594004.out).2.2 | (with_reducible refine Kd.C_alloc ?_ _) | (with_reducible refine Kd.C_drewN ?_ _) | (with_reducible refine Kd.C_drew ?_))); (case side4 => exact (Kd.N_reads' HO_594004.out).2.1); (case side5 => repeat (first | exact (Kd.R_reads' HO_594005.out).2.2 | (with_reducible refine Kd.C_alloc ?_ _) | (with_reducible refine Kd.C_drewN ?_ _) | (with_reducible refine Kd.C_drew ?_))); (case side6 => exact (Kd.R_reads' HO_594005.out).2.1); (case side7 => repeat (first | exact (Kd.R_reads' HO_594006.out).2.2 | (with_reducible refine Kd.C_alloc ?_ _) | (with_reducible refine Kd.C_drewN ?_ _) | (with_reducible refine Kd.C_drew ?_))); (case side8 => exact (Kd.R_reads' HO_594006.out).2.1); (case side9 => exact bu BK573.out); rintro e w124 ⟨v613, rfl, ho0, hb⟩; refine ⟨_, rfl, ?_⟩; have n0_ := Aside0.mk (Kd.R_below (ru HO_594003.out) hb); have n1_ := Aside0.mk (Kd.N_elder' (nu HO_594004.out) (Kd.R_base ho0) hb); have n2_ := Aside0.mk (Kd.R_below (ru HO_594005.out) hb); have n3_ := Aside0.mk (Kd.R_below (ru HO_594006.out) hb); have n4_ := Aside0.mk (Kd.R_elder' (ru HO609.out) (Kd.R_base ho0) hb); have n5_ := Aside0.mk (Kd.R_lower (Kd.R_new' ho0 (Kd.R_lt (ru HO609.out))) (below_size bl)); have n6_ := Aside0.mk (blk_below (bu BK573.out) hb); have n7_ := Aside0.mk (blk_below (bu BK574.out) hb); have n8_ := Aside0.mk (blk_below (bu BK593.out) hb); have n9_ := Aside0.mk (below_step bl hb); clear HO_594003; clear HO_594004; clear HO_594005; clear HO_594006; clear HO609; clear BK573; clear BK574; clear BK593; clear HB; have HO_594003 := n0_; have HO_594004 := n1_; have HO_594005 := n2_; have HO_594006 := n3_; have HO609 := n4_; have HO614 := n5_; have BK573 := n6_; have BK574 := n7_; have BK593 := n8_; have HB := n9_; clear n0_ n1_ n2_ n3_ n4_ n5_ n6_ n7_ n8_ n9_; (try clear hb); (try clear hb2); (try clear hk); (try clear hi); (try clear ho0)))
   go_ret
   exact ⟨fe1, bl⟩
 rw [if_pos c69] at H
 have c69b0 : (t616 == 0) = true := beq_iff_eq.mpr c69
 have c69b1 : (t616 != 0) = false := bne_eq_false_iff_eq.mpr c69
 clear c69
 replace H := Option.bind_eq_some_iff.mp H
 obtain ⟨t617, A700, H⟩ := H
 replace H : (if t617 = true then (if t615 = (wrap64 (t610 * a1)) then ((sawmilllaw17_awake.f).bind fun t618 => (some t618)) else (some false)) else (some false)) = some r := H
 have A70 := Aside0.mk A700
 clear A700
 by_cases c71 : t617 = true
 rotate_left
 · replace c71 := Bool.eq_false_iff.mpr c71
   subst c71
   have H1 : (some false) = some r := by rw [if_neg (show ¬ (false = true) by decide)] at H; exact H
   clear H
   have H := H1
   clear H1
   obtain rfl := Option.some.inj H
   have hnb101 := NB574_573.out
   have hnc101 := NB573_574.out
   have hnb102 := NB574_593.out
   have hnc102 := NB593_574.out
   have hcz103 := blk_cells BK574.out
   have hfz103 := blk_frozens BK574.out
   have hnb104 := NB593_573.out
   have hnc104 := NB573_593.out
   have hcz105 := blk_cells BK593.out
   have hfz105 := blk_frozens BK593.out
   obtain ⟨Ao106, co106, eo106⟩ := Kd.N_slice HO_594004.out
   subst eo106
   go_wp2_with (first | ((with_reducible refine gate_callee (f := 19) rfl ?_); refine goesL_ (some 61) rfl rfl Tryd.func19 (by kernel_rfl) rfl #[.agg #[.int .i64 t578, .int .i64 t579, .int .i64 t580, .slice Ao41 t581.length co41, .slice Ao106 x594004_2.length co106, .slice Ao49 t594.length co49, .slice Ao51 t597.length co51]] rfl mp1 ?_; (with_reducible refine (cutting_Check.calls k2 t578 t579 t580 _ _ t581 (fun k_ => (some k_ ≠ (.slice Ao41 t581.length co41 : Value).ownBlock ∧ (some k_ ≠ (.slice Ao49 t594.length co49 : Value).ownBlock ∧ (some k_ ≠ (.slice Ao51 t597.length co51 : Value).ownBlock ∧ (k_ ≠ 0 ∧ (k_ ≠ gb574 ∧ k_ ≠ gb593)))))) _ _ x594004_2 (fun k_ => some k_ = (.slice Ao49 t594.length co49 : Value).ownBlock) _ _ t594 (fun k_ => some k_ = (.slice Ao51 t597.length co51 : Value).ownBlock) _ _ t597 t605 _ ?side1 ?side2 ?side3 ?side4 ?side5 A64.out).mono ?_); (case side1 => repeat (first | exact (Kd.R_reads' HO_594003.out).2.2 | (with_reducible refine Kd.C_alloc ?_ _) | (with_reducible refine Kd.C_drewN ?_ _) | (with_reducible refine Kd.C_drew ?_))); (case side2 => exact (Kd.R_reads' HO_594003.out).2.1); (case side3 => exact Kd.N_V (HO_594004.out)); (case side4 => exact Kd.R_V (Kd.R_tight rfl (Kd.R_types (Kd.R_types (Kd.R_types (Kd.R_apart' (HO_594005.out) (Kd.N_typed HO_594004.out) (by decide)) BK573.out (by decide)) BK574.out (by decide)) BK593.out (by decide)))); (case side5 => exact Kd.R_V (Kd.R_tight rfl (Kd.R_types (Kd.R_types (Kd.R_types (Kd.R_apart' (HO_594006.out) (Kd.N_typed HO_594004.out) (by decide)) BK573.out (by decide)) BK574.out (by decide)) BK593.out (by decide)))); rintro e w107 ⟨rfl, hb⟩; refine ⟨_, rfl, ?_⟩; have n0_ := Aside0.mk (Kd.R_below (ru HO_594003.out) hb); have n1_ := Aside0.mk (Kd.N_below (nu HO_594004.out) hb); have n2_ := Aside0.mk (Kd.R_below (ru HO_594005.out) hb); have n3_ := Aside0.mk (Kd.R_below (ru HO_594006.out) hb); have n4_ := Aside0.mk (blk_below (bu BK573.out) hb); have n5_ := Aside0.mk (blk_below (bu BK574.out) hb); have n6_ := Aside0.mk (blk_below (bu BK593.out) hb); have n7_ := Aside0.mk (below_step bl hb); clear HO_594003; clear HO_594004; clear HO_594005; clear HO_594006; clear BK573; clear BK574; clear BK593; clear HB; have HO_594003 := n0_; have HO_594004 := n1_; have HO_594005 := n2_; have HO_594006 := n3_; have BK573 := n4_; have BK574 := n5_; have BK593 := n6_; have HB := n7_; clear n0_ n1_ n2_ n3_ n4_ n5_ n6_ n7_; (try clear hb); (try clear hb2); (try clear hk); (try clear hi); have hcz108 := blk_cells BK574.out; have hfz108 := blk_frozens BK574.out) | ((with_reducible refine gate_callee (f := 27) rfl ?_); refine goesL_ (some 66) rfl rfl Tryd.func27 (by kernel_rfl) rfl #[.agg #[.int .i64 a0_0, .int .i64 a0_1, .int .i64 a0_2, .slice A0_3 l0_3.length c0_3, .slice A0_4 l0_4.length c0_4, .slice A0_5 l0_5.length c0_5, .slice A0_6 l0_6.length c0_6]] rfl mp1 ?_; (with_reducible refine (cutting_Best.calls k2 a0_0 a0_1 a0_2 _ _ l0_3 _ _ l0_4 _ _ l0_5 _ _ l0_6 t607 t610 t611 _ ?side1 ?side2 ?side3 ?side4 ?side5 ?side6 ?side7 ?side8 ?side9 A66.out).mono ?_); (case side1 => exact cu1 (Kd.C_below HR0_3.out HB.out)); (case side2 => exact HC0_3.out); (case side3 => exact cu1 (Kd.C_below HR0_4.out HB.out)); (case side4 => exact HC0_4.out); (case side5 => exact cu1 (Kd.C_below HR0_5.out HB.out)); (case side6 => exact HC0_5.out); (case side7 => exact cu1 (Kd.C_below HR0_6.out HB.out)); (case side8 => exact HC0_6.out); (case side9 => exact bu BK573.out); rintro e w109 ⟨v608, rfl, ho0, hb⟩; refine ⟨_, rfl, ?_⟩; have n0_ := Aside0.mk (Kd.R_below (ru HO_594003.out) hb); have n1_ := Aside0.mk (Kd.N_elder' (nu HO_594004.out) (Kd.R_base ho0) hb); have n2_ := Aside0.mk (Kd.R_below (ru HO_594005.out) hb); have n3_ := Aside0.mk (Kd.R_below (ru HO_594006.out) hb); have n4_ := Aside0.mk (Kd.R_lower ho0 (below_size bl)); have n5_ := Aside0.mk (blk_below (bu BK573.out) hb); have n6_ := Aside0.mk (blk_below (bu BK574.out) hb); have n7_ := Aside0.mk (blk_below (bu BK593.out) hb); have n8_ := Aside0.mk (below_step bl hb); clear HO_594003; clear HO_594004; clear HO_594005; clear HO_594006; clear BK573; clear BK574; clear BK593; clear HB; have HO_594003 := n0_; have HO_594004 := n1_; have HO_594005 := n2_; have HO_594006 := n3_; have HO609 := n4_; have BK573 := n5_; have BK574 := n6_; have BK593 := n7_; have HB := n8_; clear n0_ n1_ n2_ n3_ n4_ n5_ n6_ n7_ n8_; (try clear hb); (try clear hb2); (try clear hk); (try clear hi); (try clear ho0); have hcz110 := blk_cells BK593.out; have hfz110 := blk_frozens BK593.out) | ((with_reducible refine gate_callee (f := 27) rfl ?_); refine goesL_ (some 72) rfl rfl Tryd.func27 (by kernel_rfl) rfl #[.agg #[.int .i64 t578, .int .i64 t579, .int .i64 t580, .slice Ao41 t581.length co41, .slice Ao106 x594004_2.length co106, .slice Ao49 t594.length co49, .slice Ao51 t597.length co51]] rfl mp1 ?_; (with_reducible refine (cutting_Best.calls k2 t578 t579 t580 _ _ t581 _ _ x594004_2 _ _ t594 _ _ t597 t612 t615 t616 _ ?side1 ?side2 ?side3 ?side4 ?side5 ?side6 ?side7 ?side8 ?side9 A67.out).mono ?_); (case side1 => repeat (first | exact (Kd.R_reads' HO_594003.out).2.2 | (with_reducible refine Kd.C_alloc ?_ _) | (with_reducible refine Kd.C_drewN ?_ _) | (with_reducible refine Kd.C_drew ?_))); (case side2 => exact (Kd.R_reads' HO_594003.out).2.1); (case side3 => repeat (first | exact (Kd.N_reads' HO_594004.out).2.2 | (with_reducible refine Kd.C_alloc ?_ _) | (with_reducible refine Kd.C_drewN ?_ _) | (with_reducible refine Kd.C_drew ?_))); (case side4 => exact (Kd.N_reads' HO_594004.out).2.1); (case side5 => repeat (first | exact (Kd.R_reads' HO_594005.out).2.2 | (with_reducible refine Kd.C_alloc ?_ _) | (with_reducible refine Kd.C_drewN ?_ _) | (with_reducible refine Kd.C_drew ?_))); (case side6 => exact (Kd.R_reads' HO_594005.out).2.1); (case side7 => repeat (first | exact (Kd.R_reads' HO_594006.out).2.2 | (with_reducible refine Kd.C_alloc ?_ _) | (with_reducible refine Kd.C_drewN ?_ _) | (with_reducible refine Kd.C_drew ?_))); (case side8 => exact (Kd.R_reads' HO_594006.out).2.1); (case side9 => exact bu BK573.out); rintro e w111 ⟨v613, rfl, ho0, hb⟩; refine ⟨_, rfl, ?_⟩; have n0_ := Aside0.mk (Kd.R_below (ru HO_594003.out) hb); have n1_ := Aside0.mk (Kd.N_elder' (nu HO_594004.out) (Kd.R_base ho0) hb); have n2_ := Aside0.mk (Kd.R_below (ru HO_594005.out) hb); have n3_ := Aside0.mk (Kd.R_below (ru HO_594006.out) hb); have n4_ := Aside0.mk (Kd.R_elder' (ru HO609.out) (Kd.R_base ho0) hb); have n5_ := Aside0.mk (Kd.R_lower (Kd.R_new' ho0 (Kd.R_lt (ru HO609.out))) (below_size bl)); have n6_ := Aside0.mk (blk_below (bu BK573.out) hb); have n7_ := Aside0.mk (blk_below (bu BK574.out) hb); have n8_ := Aside0.mk (blk_below (bu BK593.out) hb); have n9_ := Aside0.mk (below_step bl hb); clear HO_594003; clear HO_594004; clear HO_594005; clear HO_594006; clear HO609; clear BK573; clear BK574; clear BK593; clear HB; have HO_594003 := n0_; have HO_594004 := n1_; have HO_594005 := n2_; have HO_594006 := n3_; have HO609 := n4_; have HO614 := n5_; have BK573 := n6_; have BK574 := n7_; have BK593 := n8_; have HB := n9_; clear n0_ n1_ n2_ n3_ n4_ n5_ n6_ n7_ n8_ n9_; (try clear hb); (try clear hb2); (try clear hk); (try clear hi); (try clear ho0); obtain ⟨Ao112, co112, eo112⟩ := Kd.R_slice HO609.out; subst eo112; obtain ⟨Ao113, co113, eo113⟩ := Kd.R_slice HO614.out; subst eo113) | (go_at_call 29; (with_reducible refine (sawmillref17_SamePieces.calls k2 _ _ t607 _ _ t612 false _ ?side1 ?side2 ?side3 ?side4 A70.out).mono ?_); (case side1 => repeat (first | exact (Kd.R_reads' HO609.out).2.2 | (with_reducible refine Kd.C_alloc ?_ _) | (with_reducible refine Kd.C_drewN ?_ _) | (with_reducible refine Kd.C_drew ?_))); (case side2 => exact (Kd.R_reads' HO609.out).2.1); (case side3 => repeat (first | exact (Kd.R_reads' HO614.out).2.2 | (with_reducible refine Kd.C_alloc ?_ _) | (with_reducible refine Kd.C_drewN ?_ _) | (with_reducible refine Kd.C_drew ?_))); (case side4 => exact (Kd.R_reads' HO614.out).2.1); rintro e w' ⟨rfl, ⟨nd, rfl⟩⟩))
   go_ret
   exact ⟨fe1, bl⟩
 subst c71
 have H1 : (if t615 = (wrap64 (t610 * a1)) then ((sawmilllaw17_awake.f).bind fun t618 => (some t618)) else (some false)) = some r := by rw [if_pos rfl] at H; exact H
 clear H
 have H := H1
 clear H1
 by_cases c72 : t615 = (wrap64 (t610 * a1))
 rotate_left
 · rw [if_neg c72] at H
   have c72b0 : (t615 == (wrap64 (t610 * a1))) = false := beq_eq_false_iff_ne.mpr c72
   have c72b1 : (t615 != (wrap64 (t610 * a1))) = true := bne_iff_ne.mpr c72
   obtain rfl := Option.some.inj H
   have hnb88 := NB574_573.out
   have hnc88 := NB573_574.out
   have hnb89 := NB574_593.out
   have hnc89 := NB593_574.out
   have hcz90 := blk_cells BK574.out
   have hfz90 := blk_frozens BK574.out
   have hnb91 := NB593_573.out
   have hnc91 := NB573_593.out
   have hcz92 := blk_cells BK593.out
   have hfz92 := blk_frozens BK593.out
   obtain ⟨Ao93, co93, eo93⟩ := Kd.N_slice HO_594004.out
   subst eo93
   go_wp2_with (first | ((with_reducible refine gate_callee (f := 19) rfl ?_); refine goesL_ (some 61) rfl rfl Tryd.func19 (by kernel_rfl) rfl #[.agg #[.int .i64 t578, .int .i64 t579, .int .i64 t580, .slice Ao41 t581.length co41, .slice Ao93 x594004_2.length co93, .slice Ao49 t594.length co49, .slice Ao51 t597.length co51]] rfl mp1 ?_; (with_reducible refine (cutting_Check.calls k2 t578 t579 t580 _ _ t581 (fun k_ => (some k_ ≠ (.slice Ao41 t581.length co41 : Value).ownBlock ∧ (some k_ ≠ (.slice Ao49 t594.length co49 : Value).ownBlock ∧ (some k_ ≠ (.slice Ao51 t597.length co51 : Value).ownBlock ∧ (k_ ≠ 0 ∧ (k_ ≠ gb574 ∧ k_ ≠ gb593)))))) _ _ x594004_2 (fun k_ => some k_ = (.slice Ao49 t594.length co49 : Value).ownBlock) _ _ t594 (fun k_ => some k_ = (.slice Ao51 t597.length co51 : Value).ownBlock) _ _ t597 t605 _ ?side1 ?side2 ?side3 ?side4 ?side5 A64.out).mono ?_); (case side1 => repeat (first | exact (Kd.R_reads' HO_594003.out).2.2 | (with_reducible refine Kd.C_alloc ?_ _) | (with_reducible refine Kd.C_drewN ?_ _) | (with_reducible refine Kd.C_drew ?_))); (case side2 => exact (Kd.R_reads' HO_594003.out).2.1); (case side3 => exact Kd.N_V (HO_594004.out)); (case side4 => exact Kd.R_V (Kd.R_tight rfl (Kd.R_types (Kd.R_types (Kd.R_types (Kd.R_apart' (HO_594005.out) (Kd.N_typed HO_594004.out) (by decide)) BK573.out (by decide)) BK574.out (by decide)) BK593.out (by decide)))); (case side5 => exact Kd.R_V (Kd.R_tight rfl (Kd.R_types (Kd.R_types (Kd.R_types (Kd.R_apart' (HO_594006.out) (Kd.N_typed HO_594004.out) (by decide)) BK573.out (by decide)) BK574.out (by decide)) BK593.out (by decide)))); rintro e w94 ⟨rfl, hb⟩; refine ⟨_, rfl, ?_⟩; have n0_ := Aside0.mk (Kd.R_below (ru HO_594003.out) hb); have n1_ := Aside0.mk (Kd.N_below (nu HO_594004.out) hb); have n2_ := Aside0.mk (Kd.R_below (ru HO_594005.out) hb); have n3_ := Aside0.mk (Kd.R_below (ru HO_594006.out) hb); have n4_ := Aside0.mk (blk_below (bu BK573.out) hb); have n5_ := Aside0.mk (blk_below (bu BK574.out) hb); have n6_ := Aside0.mk (blk_below (bu BK593.out) hb); have n7_ := Aside0.mk (below_step bl hb); clear HO_594003; clear HO_594004; clear HO_594005; clear HO_594006; clear BK573; clear BK574; clear BK593; clear HB; have HO_594003 := n0_; have HO_594004 := n1_; have HO_594005 := n2_; have HO_594006 := n3_; have BK573 := n4_; have BK574 := n5_; have BK593 := n6_; have HB := n7_; clear n0_ n1_ n2_ n3_ n4_ n5_ n6_ n7_; (try clear hb); (try clear hb2); (try clear hk); (try clear hi); have hcz95 := blk_cells BK574.out; have hfz95 := blk_frozens BK574.out) | ((with_reducible refine gate_callee (f := 27) rfl ?_); refine goesL_ (some 66) rfl rfl Tryd.func27 (by kernel_rfl) rfl #[.agg #[.int .i64 a0_0, .int .i64 a0_1, .int .i64 a0_2, .slice A0_3 l0_3.length c0_3, .slice A0_4 l0_4.length c0_4, .slice A0_5 l0_5.length c0_5, .slice A0_6 l0_6.length c0_6]] rfl mp1 ?_; (with_reducible refine (cutting_Best.calls k2 a0_0 a0_1 a0_2 _ _ l0_3 _ _ l0_4 _ _ l0_5 _ _ l0_6 t607 t610 t611 _ ?side1 ?side2 ?side3 ?side4 ?side5 ?side6 ?side7 ?side8 ?side9 A66.out).mono ?_); (case side1 => exact cu1 (Kd.C_below HR0_3.out HB.out)); (case side2 => exact HC0_3.out); (case side3 => exact cu1 (Kd.C_below HR0_4.out HB.out)); (case side4 => exact HC0_4.out); (case side5 => exact cu1 (Kd.C_below HR0_5.out HB.out)); (case side6 => exact HC0_5.out); (case side7 => exact cu1 (Kd.C_below HR0_6.out HB.out)); (case side8 => exact HC0_6.out); (case side9 => exact bu BK573.out); rintro e w96 ⟨v608, rfl, ho0, hb⟩; refine ⟨_, rfl, ?_⟩; have n0_ := Aside0.mk (Kd.R_below (ru HO_594003.out) hb); have n1_ := Aside0.mk (Kd.N_elder' (nu HO_594004.out) (Kd.R_base ho0) hb); have n2_ := Aside0.mk (Kd.R_below (ru HO_594005.out) hb); have n3_ := Aside0.mk (Kd.R_below (ru HO_594006.out) hb); have n4_ := Aside0.mk (Kd.R_lower ho0 (below_size bl)); have n5_ := Aside0.mk (blk_below (bu BK573.out) hb); have n6_ := Aside0.mk (blk_below (bu BK574.out) hb); have n7_ := Aside0.mk (blk_below (bu BK593.out) hb); have n8_ := Aside0.mk (below_step bl hb); clear HO_594003; clear HO_594004; clear HO_594005; clear HO_594006; clear BK573; clear BK574; clear BK593; clear HB; have HO_594003 := n0_; have HO_594004 := n1_; have HO_594005 := n2_; have HO_594006 := n3_; have HO609 := n4_; have BK573 := n5_; have BK574 := n6_; have BK593 := n7_; have HB := n8_; clear n0_ n1_ n2_ n3_ n4_ n5_ n6_ n7_ n8_; (try clear hb); (try clear hb2); (try clear hk); (try clear hi); (try clear ho0); have hcz97 := blk_cells BK593.out; have hfz97 := blk_frozens BK593.out) | ((with_reducible refine gate_callee (f := 27) rfl ?_); refine goesL_ (some 72) rfl rfl Tryd.func27 (by kernel_rfl) rfl #[.agg #[.int .i64 t578, .int .i64 t579, .int .i64 t580, .slice Ao41 t581.length co41, .slice Ao93 x594004_2.length co93, .slice Ao49 t594.length co49, .slice Ao51 t597.length co51]] rfl mp1 ?_; (with_reducible refine (cutting_Best.calls k2 t578 t579 t580 _ _ t581 _ _ x594004_2 _ _ t594 _ _ t597 t612 t615 t616 _ ?side1 ?side2 ?side3 ?side4 ?side5 ?side6 ?side7 ?side8 ?side9 A67.out).mono ?_); (case side1 => repeat (first | exact (Kd.R_reads' HO_594003.out).2.2 | (with_reducible refine Kd.C_alloc ?_ _) | (with_reducible refine Kd.C_drewN ?_ _) | (with_reducible refine Kd.C_drew ?_))); (case side2 => exact (Kd.R_reads' HO_594003.out).2.1); (case side3 => repeat (first | exact (Kd.N_reads' HO_594004.out).2.2 | (with_reducible refine Kd.C_alloc ?_ _) | (with_reducible refine Kd.C_drewN ?_ _) | (with_reducible refine Kd.C_drew ?_))); (case side4 => exact (Kd.N_reads' HO_594004.out).2.1); (case side5 => repeat (first | exact (Kd.R_reads' HO_594005.out).2.2 | (with_reducible refine Kd.C_alloc ?_ _) | (with_reducible refine Kd.C_drewN ?_ _) | (with_reducible refine Kd.C_drew ?_))); (case side6 => exact (Kd.R_reads' HO_594005.out).2.1); (case side7 => repeat (first | exact (Kd.R_reads' HO_594006.out).2.2 | (with_reducible refine Kd.C_alloc ?_ _) | (with_reducible refine Kd.C_drewN ?_ _) | (with_reducible refine Kd.C_drew ?_))); (case side8 => exact (Kd.R_reads' HO_594006.out).2.1); (case side9 => exact bu BK573.out); rintro e w98 ⟨v613, rfl, ho0, hb⟩; refine ⟨_, rfl, ?_⟩; have n0_ := Aside0.mk (Kd.R_below (ru HO_594003.out) hb); have n1_ := Aside0.mk (Kd.N_elder' (nu HO_594004.out) (Kd.R_base ho0) hb); have n2_ := Aside0.mk (Kd.R_below (ru HO_594005.out) hb); have n3_ := Aside0.mk (Kd.R_below (ru HO_594006.out) hb); have n4_ := Aside0.mk (Kd.R_elder' (ru HO609.out) (Kd.R_base ho0) hb); have n5_ := Aside0.mk (Kd.R_lower (Kd.R_new' ho0 (Kd.R_lt (ru HO609.out))) (below_size bl)); have n6_ := Aside0.mk (blk_below (bu BK573.out) hb); have n7_ := Aside0.mk (blk_below (bu BK574.out) hb); have n8_ := Aside0.mk (blk_below (bu BK593.out) hb); have n9_ := Aside0.mk (below_step bl hb); clear HO_594003; clear HO_594004; clear HO_594005; clear HO_594006; clear HO609; clear BK573; clear BK574; clear BK593; clear HB; have HO_594003 := n0_; have HO_594004 := n1_; have HO_594005 := n2_; have HO_594006 := n3_; have HO609 := n4_; have HO614 := n5_; have BK573 := n6_; have BK574 := n7_; have BK593 := n8_; have HB := n9_; clear n0_ n1_ n2_ n3_ n4_ n5_ n6_ n7_ n8_ n9_; (try clear hb); (try clear hb2); (try clear hk); (try clear hi); (try clear ho0); obtain ⟨Ao99, co99, eo99⟩ := Kd.R_slice HO609.out; subst eo99; obtain ⟨Ao100, co100, eo100⟩ := Kd.R_slice HO614.out; subst eo100) | (go_at_call 29; (with_reducible refine (sawmillref17_SamePieces.calls k2 _ _ t607 _ _ t612 true _ ?side1 ?side2 ?side3 ?side4 A70.out).mono ?_); (case side1 => repeat (first | exact (Kd.R_reads' HO609.out).2.2 | (with_reducible refine Kd.C_alloc ?_ _) | (with_reducible refine Kd.C_drewN ?_ _) | (with_reducible refine Kd.C_drew ?_))); (case side2 => exact (Kd.R_reads' HO609.out).2.1); (case side3 => repeat (first | exact (Kd.R_reads' HO614.out).2.2 | (with_reducible refine Kd.C_alloc ?_ _) | (with_reducible refine Kd.C_drewN ?_ _) | (with_reducible refine Kd.C_drew ?_))); (case side4 => exact (Kd.R_reads' HO614.out).2.1); rintro e w' ⟨rfl, ⟨nd, rfl⟩⟩))
   go_ret
   exact ⟨fe1, bl⟩
 rw [if_pos c72] at H
 have c72b0 : (t615 == (wrap64 (t610 * a1))) = true := beq_iff_eq.mpr c72
 have c72b1 : (t615 != (wrap64 (t610 * a1))) = false := bne_eq_false_iff_eq.mpr c72
 clear c72
 replace H := Option.bind_eq_some_iff.mp H
 obtain ⟨t618, A730, H⟩ := H
 replace H : (some t618) = some r := H
 have A73 := Aside0.mk A730
 clear A730
 obtain rfl := Option.some.inj H
 have hnb74 := NB574_573.out
 have hnc74 := NB573_574.out
 have hnb75 := NB574_593.out
 have hnc75 := NB593_574.out
 have hcz76 := blk_cells BK574.out
 have hfz76 := blk_frozens BK574.out
 have hnb77 := NB593_573.out
 have hnc77 := NB573_593.out
 have hcz78 := blk_cells BK593.out
 have hfz78 := blk_frozens BK593.out
 obtain ⟨Ao79, co79, eo79⟩ := Kd.N_slice HO_594004.out
 subst eo79
 go_wp2_with (first | ((with_reducible refine gate_callee (f := 19) rfl ?_); refine goesL_ (some 61) rfl rfl Tryd.func19 (by kernel_rfl) rfl #[.agg #[.int .i64 t578, .int .i64 t579, .int .i64 t580, .slice Ao41 t581.length co41, .slice Ao79 x594004_2.length co79, .slice Ao49 t594.length co49, .slice Ao51 t597.length co51]] rfl mp1 ?_; (with_reducible refine (cutting_Check.calls k2 t578 t579 t580 _ _ t581 (fun k_ => (some k_ ≠ (.slice Ao41 t581.length co41 : Value).ownBlock ∧ (some k_ ≠ (.slice Ao49 t594.length co49 : Value).ownBlock ∧ (some k_ ≠ (.slice Ao51 t597.length co51 : Value).ownBlock ∧ (k_ ≠ 0 ∧ (k_ ≠ gb574 ∧ k_ ≠ gb593)))))) _ _ x594004_2 (fun k_ => some k_ = (.slice Ao49 t594.length co49 : Value).ownBlock) _ _ t594 (fun k_ => some k_ = (.slice Ao51 t597.length co51 : Value).ownBlock) _ _ t597 t605 _ ?side1 ?side2 ?side3 ?side4 ?side5 A64.out).mono ?_); (case side1 => repeat (first | exact (Kd.R_reads' HO_594003.out).2.2 | (with_reducible refine Kd.C_alloc ?_ _) | (with_reducible refine Kd.C_drewN ?_ _) | (with_reducible refine Kd.C_drew ?_))); (case side2 => exact (Kd.R_reads' HO_594003.out).2.1); (case side3 => exact Kd.N_V (HO_594004.out)); (case side4 => exact Kd.R_V (Kd.R_tight rfl (Kd.R_types (Kd.R_types (Kd.R_types (Kd.R_apart' (HO_594005.out) (Kd.N_typed HO_594004.out) (by decide)) BK573.out (by decide)) BK574.out (by decide)) BK593.out (by decide)))); (case side5 => exact Kd.R_V (Kd.R_tight rfl (Kd.R_types (Kd.R_types (Kd.R_types (Kd.R_apart' (HO_594006.out) (Kd.N_typed HO_594004.out) (by decide)) BK573.out (by decide)) BK574.out (by decide)) BK593.out (by decide)))); rintro e w80 ⟨rfl, hb⟩; refine ⟨_, rfl, ?_⟩; have n0_ := Aside0.mk (Kd.R_below (ru HO_594003.out) hb); have n1_ := Aside0.mk (Kd.N_below (nu HO_594004.out) hb); have n2_ := Aside0.mk (Kd.R_below (ru HO_594005.out) hb); have n3_ := Aside0.mk (Kd.R_below (ru HO_594006.out) hb); have n4_ := Aside0.mk (blk_below (bu BK573.out) hb); have n5_ := Aside0.mk (blk_below (bu BK574.out) hb); have n6_ := Aside0.mk (blk_below (bu BK593.out) hb); have n7_ := Aside0.mk (below_step bl hb); clear HO_594003; clear HO_594004; clear HO_594005; clear HO_594006; clear BK573; clear BK574; clear BK593; clear HB; have HO_594003 := n0_; have HO_594004 := n1_; have HO_594005 := n2_; have HO_594006 := n3_; have BK573 := n4_; have BK574 := n5_; have BK593 := n6_; have HB := n7_; clear n0_ n1_ n2_ n3_ n4_ n5_ n6_ n7_; (try clear hb); (try clear hb2); (try clear hk); (try clear hi); have hcz81 := blk_cells BK574.out; have hfz81 := blk_frozens BK574.out) | ((with_reducible refine gate_callee (f := 27) rfl ?_); refine goesL_ (some 66) rfl rfl Tryd.func27 (by kernel_rfl) rfl #[.agg #[.int .i64 a0_0, .int .i64 a0_1, .int .i64 a0_2, .slice A0_3 l0_3.length c0_3, .slice A0_4 l0_4.length c0_4, .slice A0_5 l0_5.length c0_5, .slice A0_6 l0_6.length c0_6]] rfl mp1 ?_; (with_reducible refine (cutting_Best.calls k2 a0_0 a0_1 a0_2 _ _ l0_3 _ _ l0_4 _ _ l0_5 _ _ l0_6 t607 t610 t611 _ ?side1 ?side2 ?side3 ?side4 ?side5 ?side6 ?side7 ?side8 ?side9 A66.out).mono ?_); (case side1 => exact cu1 (Kd.C_below HR0_3.out HB.out)); (case side2 => exact HC0_3.out); (case side3 => exact cu1 (Kd.C_below HR0_4.out HB.out)); (case side4 => exact HC0_4.out); (case side5 => exact cu1 (Kd.C_below HR0_5.out HB.out)); (case side6 => exact HC0_5.out); (case side7 => exact cu1 (Kd.C_below HR0_6.out HB.out)); (case side8 => exact HC0_6.out); (case side9 => exact bu BK573.out); rintro e w82 ⟨v608, rfl, ho0, hb⟩; refine ⟨_, rfl, ?_⟩; have n0_ := Aside0.mk (Kd.R_below (ru HO_594003.out) hb); have n1_ := Aside0.mk (Kd.N_elder' (nu HO_594004.out) (Kd.R_base ho0) hb); have n2_ := Aside0.mk (Kd.R_below (ru HO_594005.out) hb); have n3_ := Aside0.mk (Kd.R_below (ru HO_594006.out) hb); have n4_ := Aside0.mk (Kd.R_lower ho0 (below_size bl)); have n5_ := Aside0.mk (blk_below (bu BK573.out) hb); have n6_ := Aside0.mk (blk_below (bu BK574.out) hb); have n7_ := Aside0.mk (blk_below (bu BK593.out) hb); have n8_ := Aside0.mk (below_step bl hb); clear HO_594003; clear HO_594004; clear HO_594005; clear HO_594006; clear BK573; clear BK574; clear BK593; clear HB; have HO_594003 := n0_; have HO_594004 := n1_; have HO_594005 := n2_; have HO_594006 := n3_; have HO609 := n4_; have BK573 := n5_; have BK574 := n6_; have BK593 := n7_; have HB := n8_; clear n0_ n1_ n2_ n3_ n4_ n5_ n6_ n7_ n8_; (try clear hb); (try clear hb2); (try clear hk); (try clear hi); (try clear ho0); have hcz83 := blk_cells BK593.out; have hfz83 := blk_frozens BK593.out) | ((with_reducible refine gate_callee (f := 27) rfl ?_); refine goesL_ (some 72) rfl rfl Tryd.func27 (by kernel_rfl) rfl #[.agg #[.int .i64 t578, .int .i64 t579, .int .i64 t580, .slice Ao41 t581.length co41, .slice Ao79 x594004_2.length co79, .slice Ao49 t594.length co49, .slice Ao51 t597.length co51]] rfl mp1 ?_; (with_reducible refine (cutting_Best.calls k2 t578 t579 t580 _ _ t581 _ _ x594004_2 _ _ t594 _ _ t597 t612 t615 t616 _ ?side1 ?side2 ?side3 ?side4 ?side5 ?side6 ?side7 ?side8 ?side9 A67.out).mono ?_); (case side1 => repeat (first | exact (Kd.R_reads' HO_594003.out).2.2 | (with_reducible refine Kd.C_alloc ?_ _) | (with_reducible refine Kd.C_drewN ?_ _) | (with_reducible refine Kd.C_drew ?_))); (case side2 => exact (Kd.R_reads' HO_594003.out).2.1); (case side3 => repeat (first | exact (Kd.N_reads' HO_594004.out).2.2 | (with_reducible refine Kd.C_alloc ?_ _) | (with_reducible refine Kd.C_drewN ?_ _) | (with_reducible refine Kd.C_drew ?_))); (case side4 => exact (Kd.N_reads' HO_594004.out).2.1); (case side5 => repeat (first | exact (Kd.R_reads' HO_594005.out).2.2 | (with_reducible refine Kd.C_alloc ?_ _) | (with_reducible refine Kd.C_drewN ?_ _) | (with_reducible refine Kd.C_drew ?_))); (case side6 => exact (Kd.R_reads' HO_594005.out).2.1); (case side7 => repeat (first | exact (Kd.R_reads' HO_594006.out).2.2 | (with_reducible refine Kd.C_alloc ?_ _) | (with_reducible refine Kd.C_drewN ?_ _) | (with_reducible refine Kd.C_drew ?_))); (case side8 => exact (Kd.R_reads' HO_594006.out).2.1); (case side9 => exact bu BK573.out); rintro e w84 ⟨v613, rfl, ho0, hb⟩; refine ⟨_, rfl, ?_⟩; have n0_ := Aside0.mk (Kd.R_below (ru HO_594003.out) hb); have n1_ := Aside0.mk (Kd.N_elder' (nu HO_594004.out) (Kd.R_base ho0) hb); have n2_ := Aside0.mk (Kd.R_below (ru HO_594005.out) hb); have n3_ := Aside0.mk (Kd.R_below (ru HO_594006.out) hb); have n4_ := Aside0.mk (Kd.R_elder' (ru HO609.out) (Kd.R_base ho0) hb); have n5_ := Aside0.mk (Kd.R_lower (Kd.R_new' ho0 (Kd.R_lt (ru HO609.out))) (below_size bl)); have n6_ := Aside0.mk (blk_below (bu BK573.out) hb); have n7_ := Aside0.mk (blk_below (bu BK574.out) hb); have n8_ := Aside0.mk (blk_below (bu BK593.out) hb); have n9_ := Aside0.mk (below_step bl hb); clear HO_594003; clear HO_594004; clear HO_594005; clear HO_594006; clear HO609; clear BK573; clear BK574; clear BK593; clear HB; have HO_594003 := n0_; have HO_594004 := n1_; have HO_594005 := n2_; have HO_594006 := n3_; have HO609 := n4_; have HO614 := n5_; have BK573 := n6_; have BK574 := n7_; have BK593 := n8_; have HB := n9_; clear n0_ n1_ n2_ n3_ n4_ n5_ n6_ n7_ n8_ n9_; (try clear hb); (try clear hb2); (try clear hk); (try clear hi); (try clear ho0); obtain ⟨Ao85, co85, eo85⟩ := Kd.R_slice HO609.out; subst eo85; obtain ⟨Ao86, co86, eo86⟩ := Kd.R_slice HO614.out; subst eo86) | (go_at_call 29; (with_reducible refine (sawmillref17_SamePieces.calls k2 _ _ t607 _ _ t612 true _ ?side1 ?side2 ?side3 ?side4 A70.out).mono ?_); (case side1 => repeat (first | exact (Kd.R_reads' HO609.out).2.2 | (with_reducible refine Kd.C_alloc ?_ _) | (with_reducible refine Kd.C_drewN ?_ _) | (with_reducible refine Kd.C_drew ?_))); (case side2 => exact (Kd.R_reads' HO609.out).2.1); (case side3 => repeat (first | exact (Kd.R_reads' HO614.out).2.2 | (with_reducible refine Kd.C_alloc ?_ _) | (with_reducible refine Kd.C_drewN ?_ _) | (with_reducible refine Kd.C_drew ?_))); (case side4 => exact (Kd.R_reads' HO614.out).2.1); rintro e w' ⟨rfl, ⟨nd, rfl⟩⟩) | (go_at_call 18; (with_reducible refine (sawmilllaw17_awake.calls  t618 _ ?side1 A73.out).mono ?_); (case side1 => exact bu BK573.out); rintro e w87 ⟨rfl, hb⟩; have n0_ := Aside0.mk (Kd.R_below (ru HO_594003.out) hb); have n1_ := Aside0.mk (Kd.N_below (nu HO_594004.out) hb); have n2_ := Aside0.mk (Kd.R_below (ru HO_594005.out) hb); have n3_ := Aside0.mk (Kd.R_below (ru HO_594006.out) hb); have n4_ := Aside0.mk (Kd.R_below (ru HO609.out) hb); have n5_ := Aside0.mk (Kd.R_below (ru HO614.out) hb); have n6_ := Aside0.mk (blk_below (bu BK573.out) hb); have n7_ := Aside0.mk (blk_below (bu BK574.out) hb); have n8_ := Aside0.mk (blk_below (bu BK593.out) hb); have n9_ := Aside0.mk (below_step bl hb); clear HO_594003; clear HO_594004; clear HO_594005; clear HO_594006; clear HO609; clear HO614; clear BK573; clear BK574; clear BK593; clear HB; have HO_594003 := n0_; have HO_594004 := n1_; have HO_594005 := n2_; have HO_594006 := n3_; have HO609 := n4_; have HO614 := n5_; have BK573 := n6_; have BK574 := n7_; have BK593 := n8_; have HB := n9_; clear n0_ n1_ n2_ n3_ n4_ n5_ n6_ n7_ n8_ n9_; (try clear hb); (try clear hb2); (try clear hk); (try clear hi)))
 go_ret
 exact ⟨fe1, bl⟩
end Go.Proofs.YtoaicheopcojoaaDoor.P
