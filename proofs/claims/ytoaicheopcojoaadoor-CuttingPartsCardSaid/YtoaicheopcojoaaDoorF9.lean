import Derived.Test.YtoaicheopcojoaaDoorF9d
namespace Go.Proofs.YtoaicheopcojoaaDoor.P
open Go.RowKit Go.Proofs.YtoaicheopcojoaaDoorW.PrintWords Go.Proofs.YtoaicheopcojoaaDoorW.PrintLast Go.Proofs.YtoaicheopcojoaaDoorW.PrintMore
attribute [local go_sem] max2_int min2_int max_two min_two max_three min_three max_four min_four   -- for this text's walks alone
set_option linter.unusedVariables false
set_option linter.unusedSimpArgs false
theorem L9_0 {p_ : Prop} (k_ : p_ := by
  go_wp2_with (first | (go_at_call 21; (with_reducible refine (cutting_Cuts.calls kj2 a0_0 a0_1 a0_2 _ _ l0_3 _ _ l0_4 _ _ l0_5 _ _ l0_6 _ _ l1 t527 t530 t533 _ ?side1 ?side2 ?side3 ?side4 ?side5 ?side6 ?side7 ?side8 ?side9 ?side10 A16.out).mono ?_); (case side1 => exact cu1 (Kd.C_below HR0_3.out HB.out)); (case side2 => exact HC0_3.out); (case side3 => exact cu1 (Kd.C_below HR0_4.out HB.out)); (case side4 => exact HC0_4.out); (case side5 => exact cu1 (Kd.C_below HR0_5.out HB.out)); (case side6 => exact HC0_5.out); (case side7 => exact cu1 (Kd.C_below HR0_6.out HB.out)); (case side8 => exact HC0_6.out); (case side9 => exact cu1 (Kd.C_below HR1.out HB.out)); (case side10 => exact HC1.out); rintro e wq1 ⟨vq1, vq2, rfl, hoq1, hoq2, hb⟩; have nq1 := Aside0.mk (Kd.R_lower hoq1 (below_size bl)); have nq2 := Aside0.mk (Kd.R_lower hoq2 (below_size bl)); have nq3 := Aside0.mk (blk_below (bu BK523.out) hb); have nq4 := Aside0.mk (blk_below (bu BK524.out) hb); have nq5 := Aside0.mk (below_step bl hb); clear BK523; clear BK524; clear HB; have HOq1 := nq1; have HOq2 := nq2; have BK523 := nq3; have BK524 := nq4; have HB := nq5; clear nq1 nq2 nq3 nq4 nq5; (try clear hb); (try clear hb2); (try clear hk); (try clear hi); (try clear hoq1); (try clear hoq2); have hczq1 := blk_cells BK524.out; have hfzq1 := blk_frozens BK524.out) | (go_at_call 23; (with_reducible refine (cutting_Value.calls kj2 a0_0 a0_1 a0_2 _ _ l0_3 _ _ l0_4 _ _ l0_5 _ _ l0_6 _ _ l1 t534 t535 _ ?side1 ?side2 ?side3 ?side4 ?side5 ?side6 ?side7 ?side8 ?side9 ?side10 A17.out).mono ?_); (case side1 => exact cu1 (Kd.C_below HR0_3.out HB.out)); (case side2 => exact HC0_3.out); (case side3 => exact cu1 (Kd.C_below HR0_4.out HB.out)); (case side4 => exact HC0_4.out); (case side5 => exact cu1 (Kd.C_below HR0_5.out HB.out)); (case side6 => exact HC0_5.out); (case side7 => exact cu1 (Kd.C_below HR0_6.out HB.out)); (case side8 => exact HC0_6.out); (case side9 => exact cu1 (Kd.C_below HR1.out HB.out)); (case side10 => exact HC1.out); rintro e wq2 ⟨rfl, hb⟩; have nq1 := Aside0.mk (Kd.R_below (ru HOq1.out) hb); have nq2 := Aside0.mk (Kd.R_below (ru HOq2.out) hb); have nq3 := Aside0.mk (blk_below (bu BK523.out) hb); have nq4 := Aside0.mk (blk_below (bu BK524.out) hb); have nq5 := Aside0.mk (below_step bl hb); clear HOq1; clear HOq2; clear BK523; clear BK524; clear HB; have HOq1 := nq1; have HOq2 := nq2; have BK523 := nq3; have BK524 := nq4; have HB := nq5; clear nq1 nq2 nq3 nq4 nq5; (try clear hb); (try clear hb2); (try clear hk); (try clear hi); obtain ⟨Aoq1, coq1, eoq1⟩ := Kd.R_slice HOq1.out; subst eoq1; obtain ⟨Aoq2, coq2, eoq2⟩ := Kd.R_slice HOq2.out; subst eoq2))
  repeat (go_quiet (first | (go_at_call 21; (with_reducible refine (cutting_Cuts.calls kj2 a0_0 a0_1 a0_2 _ _ l0_3 _ _ l0_4 _ _ l0_5 _ _ l0_6 _ _ l1 t527 t530 t533 _ ?side1 ?side2 ?side3 ?side4 ?side5 ?side6 ?side7 ?side8 ?side9 ?side10 A16.out).mono ?_); (case side1 => exact cu1 (Kd.C_below HR0_3.out HB.out)); (case side2 => exact HC0_3.out); (case side3 => exact cu1 (Kd.C_below HR0_4.out HB.out)); (case side4 => exact HC0_4.out); (case side5 => exact cu1 (Kd.C_below HR0_5.out HB.out)); (case side6 => exact HC0_5.out); (case side7 => exact cu1 (Kd.C_below HR0_6.out HB.out)); (case side8 => exact HC0_6.out); (case side9 => exact cu1 (Kd.C_below HR1.out HB.out)); (case side10 => exact HC1.out); rintro e wq1 ⟨vq1, vq2, rfl, hoq1, hoq2, hb⟩; have nq1 := Aside0.mk (Kd.R_lower hoq1 (below_size bl)); have nq2 := Aside0.mk (Kd.R_lower hoq2 (below_size bl)); have nq3 := Aside0.mk (blk_below (bu BK523.out) hb); have nq4 := Aside0.mk (blk_below (bu BK524.out) hb); have nq5 := Aside0.mk (below_step bl hb); clear BK523; clear BK524; clear HB; have HOq1 := nq1; have HOq2 := nq2; have BK523 := nq3; have BK524 := nq4; have HB := nq5; clear nq1 nq2 nq3 nq4 nq5; (try clear hb); (try clear hb2); (try clear hk); (try clear hi); (try clear hoq1); (try clear hoq2); have hczq1 := blk_cells BK524.out; have hfzq1 := blk_frozens BK524.out) | (go_at_call 23; (with_reducible refine (cutting_Value.calls kj2 a0_0 a0_1 a0_2 _ _ l0_3 _ _ l0_4 _ _ l0_5 _ _ l0_6 _ _ l1 t534 t535 _ ?side1 ?side2 ?side3 ?side4 ?side5 ?side6 ?side7 ?side8 ?side9 ?side10 A17.out).mono ?_); (case side1 => exact cu1 (Kd.C_below HR0_3.out HB.out)); (case side2 => exact HC0_3.out); (case side3 => exact cu1 (Kd.C_below HR0_4.out HB.out)); (case side4 => exact HC0_4.out); (case side5 => exact cu1 (Kd.C_below HR0_5.out HB.out)); (case side6 => exact HC0_5.out); (case side7 => exact cu1 (Kd.C_below HR0_6.out HB.out)); (case side8 => exact HC0_6.out); (case side9 => exact cu1 (Kd.C_below HR1.out HB.out)); (case side10 => exact HC1.out); rintro e wq2 ⟨rfl, hb⟩; have nq1 := Aside0.mk (Kd.R_below (ru HOq1.out) hb); have nq2 := Aside0.mk (Kd.R_below (ru HOq2.out) hb); have nq3 := Aside0.mk (blk_below (bu BK523.out) hb); have nq4 := Aside0.mk (blk_below (bu BK524.out) hb); have nq5 := Aside0.mk (below_step bl hb); clear HOq1; clear HOq2; clear BK523; clear BK524; clear HB; have HOq1 := nq1; have HOq2 := nq2; have BK523 := nq3; have BK524 := nq4; have HB := nq5; clear nq1 nq2 nq3 nq4 nq5; (try clear hb); (try clear hb2); (try clear hk); (try clear hi); obtain ⟨Aoq1, coq1, eoq1⟩ := Kd.R_slice HOq1.out; subst eoq1; obtain ⟨Aoq2, coq2, eoq2⟩ := Kd.R_slice HOq2.out; subst eoq2)); try go_wp2_with (first | (go_at_call 21; (with_reducible refine (cutting_Cuts.calls kj2 a0_0 a0_1 a0_2 _ _ l0_3 _ _ l0_4 _ _ l0_5 _ _ l0_6 _ _ l1 t527 t530 t533 _ ?side1 ?side2 ?side3 ?side4 ?side5 ?side6 ?side7 ?side8 ?side9 ?side10 A16.out).mono ?_); (case side1 => exact cu1 (Kd.C_below HR0_3.out HB.out)); (case side2 => exact HC0_3.out); (case side3 => exact cu1 (Kd.C_below HR0_4.out HB.out)); (case side4 => exact HC0_4.out); (case side5 => exact cu1 (Kd.C_below HR0_5.out HB.out)); (case side6 => exact HC0_5.out); (case side7 => exact cu1 (Kd.C_below HR0_6.out HB.out)); (case side8 => exact HC0_6.out); (case side9 => exact cu1 (Kd.C_below HR1.out HB.out)); (case side10 => exact HC1.out); rintro e wq1 ⟨vq1, vq2, rfl, hoq1, hoq2, hb⟩; have nq1 := Aside0.mk (Kd.R_lower hoq1 (below_size bl)); have nq2 := Aside0.mk (Kd.R_lower hoq2 (below_size bl)); have nq3 := Aside0.mk (blk_below (bu BK523.out) hb); have nq4 := Aside0.mk (blk_below (bu BK524.out) hb); have nq5 := Aside0.mk (below_step bl hb); clear BK523; clear BK524; clear HB; have HOq1 := nq1; have HOq2 := nq2; have BK523 := nq3; have BK524 := nq4; have HB := nq5; clear nq1 nq2 nq3 nq4 nq5; (try clear hb); (try clear hb2); (try clear hk); (try clear hi); (try clear hoq1); (try clear hoq2); have hczq1 := blk_cells BK524.out; have hfzq1 := blk_frozens BK524.out) | (go_at_call 23; (with_reducible refine (cutting_Value.calls kj2 a0_0 a0_1 a0_2 _ _ l0_3 _ _ l0_4 _ _ l0_5 _ _ l0_6 _ _ l1 t534 t535 _ ?side1 ?side2 ?side3 ?side4 ?side5 ?side6 ?side7 ?side8 ?side9 ?side10 A17.out).mono ?_); (case side1 => exact cu1 (Kd.C_below HR0_3.out HB.out)); (case side2 => exact HC0_3.out); (case side3 => exact cu1 (Kd.C_below HR0_4.out HB.out)); (case side4 => exact HC0_4.out); (case side5 => exact cu1 (Kd.C_below HR0_5.out HB.out)); (case side6 => exact HC0_5.out); (case side7 => exact cu1 (Kd.C_below HR0_6.out HB.out)); (case side8 => exact HC0_6.out); (case side9 => exact cu1 (Kd.C_below HR1.out HB.out)); (case side10 => exact HC1.out); rintro e wq2 ⟨rfl, hb⟩; have nq1 := Aside0.mk (Kd.R_below (ru HOq1.out) hb); have nq2 := Aside0.mk (Kd.R_below (ru HOq2.out) hb); have nq3 := Aside0.mk (blk_below (bu BK523.out) hb); have nq4 := Aside0.mk (blk_below (bu BK524.out) hb); have nq5 := Aside0.mk (below_step bl hb); clear HOq1; clear HOq2; clear BK523; clear BK524; clear HB; have HOq1 := nq1; have HOq2 := nq2; have BK523 := nq3; have BK524 := nq4; have HB := nq5; clear nq1 nq2 nq3 nq4 nq5; (try clear hb); (try clear hb2); (try clear hk); (try clear hi); obtain ⟨Aoq1, coq1, eoq1⟩ := Kd.R_slice HOq1.out; subst eoq1; obtain ⟨Aoq2, coq2, eoq2⟩ := Kd.R_slice HOq2.out; subst eoq2)))
  go_ret
  exact ⟨fe1, bl⟩) : p_ := k_
theorem L9_1 {p_ : Prop} (k_ : p_ := by
  go_wp2
  repeat (go_quiet (fail); try go_wp2)
  go_meet
  case rel => exact ⟨_, (true), rs1, H', ⟨by have := HJ2.out; have := HJ19.out; have := HJ39.out; have := HK4.out; have := HK5.out; have := HK6.out; first | omega | exact Nat.le_refl _⟩, ⟨by (with_reducible repeat (first | apply Kd.R_alloc | apply Kd.R_drewN | apply Kd.R_drew)); exact HO_10.out⟩, ⟨bu BK523.out⟩, ⟨bu BK524.out⟩, ⟨bl⟩⟩) : p_ := k_
theorem L9_2 {p_ : Prop} (k_ : p_ := by
  go_wp2
  repeat (go_quiet (fail); try go_wp2)
  go_meet
  case rel => exact ⟨_, (true), rs1, H', ⟨by have := HJ2.out; first | omega | exact Nat.le_refl _⟩, ⟨by (with_reducible repeat (first | apply Kd.R_alloc | apply Kd.R_drewN | apply Kd.R_drew)); exact HO529.out⟩, ⟨by (with_reducible repeat (first | apply Kd.R_alloc | apply Kd.R_drewN | apply Kd.R_drew)); exact HO532.out⟩, ⟨bu BK523.out⟩, ⟨bu BK524.out⟩, ⟨bl⟩⟩) : p_ := k_
set_option maxHeartbeats 8000000 in
set_option maxRecDepth 100000 in
theorem sawmilllaw17_CuttingParts.calls (k : Nat) (a0_0 : Int) (a0_1 : Int) (a0_2 : Int) (A0_3 : Option Addr) (c0_3 : Nat) (l0_3 : List Int) (A0_4 : Option Addr) (c0_4 : Nat) (l0_4 : List (List Int)) (A0_5 : Option Addr) (c0_5 : Nat) (l0_5 : List Int) (A0_6 : Option Addr) (c0_6 : Nat) (l0_6 : List Int) (A1 : Option Addr) (c1 : Nat) (l1 : List (S69)) (r : Bool) (w : World) (hr0_3 : Kd.C (Kd.int .i64) w A0_3 l0_3.length l0_3) (hc0_3 : l0_3.length ≤ c0_3) (hr0_4 : Kd.C (Kd.slice 3 (Kd.int .i64)) w A0_4 l0_4.length l0_4) (hc0_4 : l0_4.length ≤ c0_4) (hr0_5 : Kd.C (Kd.int .i64) w A0_5 l0_5.length l0_5) (hc0_5 : l0_5.length ≤ c0_5) (hr0_6 : Kd.C (Kd.int .i64) w A0_6 l0_6.length l0_6) (hc0_6 : l0_6.length ≤ c0_6) (hr1 : Kd.C k69 w A1 l1.length l1) (hc1 : l1.length ≤ c1) (hG : w.heap[0]? = some (.cells #[.int .i64 (-1), .int .i64 (-1), .int .i64 0] 97 (0, 0))) (h : sawmilllaw17_CuttingParts.f k a0_0 a0_1 a0_2 l0_3 l0_4 l0_5 l0_6 l1 = some r) :
    Calls Tryd.prog 9 #[.agg #[.int .i64 a0_0, .int .i64 a0_1, .int .i64 a0_2, .slice A0_3 l0_3.length c0_3, .slice A0_4 l0_4.length c0_4, .slice A0_5 l0_5.length c0_5, .slice A0_6 l0_6.length c0_6], .slice A1 l1.length c1] w fun e w' => e = .returned (.bool r) ∧ Below w.heap.size w w' := by
 have hu25 := Tryd.underlying25
 have HR0_3 := Aside0.mk hr0_3
 have HC0_3 := Aside0.mk hc0_3
 clear hr0_3 hc0_3
 have HR0_4 := Aside0.mk hr0_4
 have HC0_4 := Aside0.mk hc0_4
 clear hr0_4 hc0_4
 have HR0_5 := Aside0.mk hr0_5
 have HC0_5 := Aside0.mk hc0_5
 clear hr0_5 hc0_5
 have HR0_6 := Aside0.mk hr0_6
 have HC0_6 := Aside0.mk hc0_6
 clear hr0_6 hc0_6
 have HR1 := Aside0.mk hr1
 have HC1 := Aside0.mk hc1
 clear hr1 hc1
 have BK523 := Aside0.mk hG
 clear hG
 have HB := Aside0.mk (Below.refl w.heap.size w)
 have H : ((sawmilllaw17_few.f k a0_0 a0_1 a0_2 l0_3 l0_4 l0_5 l0_6).bind fun t525 => (if t525 = true then (sawmilllaw17_CuttingParts.j0 k l1 (decide ((l1.length : Int) > 300)) a0_0 a0_1 a0_2 l0_3 l0_4 l0_5 l0_6) else (sawmilllaw17_CuttingParts.j0 k l1 true a0_0 a0_1 a0_2 l0_3 l0_4 l0_5 l0_6))) = some r := h
 clear h
 have HC3 := Aside0.mk H
 clear H
 go_enter Tryd.func9, Tryd.ntmps9
 go_upto_region 1 with (first | ((with_reducible refine gate_dst (N := 2) rfl ?_); (try (refine gate_guard (by rfl) ?_; dsimp only)); refine bx1 (N := 2) #[.int .i64 a0_0, .int .i64 a0_1, .int .i64 a0_2, .slice A0_3 l0_3.length c0_3, .slice A0_4 l0_4.length c0_4, .slice A0_5 l0_5.length c0_5, .slice A0_6 l0_6.length c0_6] 25 ?_; intro gb524 hg w4 hbox hb; have n0_ := Aside0.mk (blk_below (bu BK523.out) hb); have n1_ := Aside0.mk (below_step bl hb); have n2_ := Aside0.mk (hbox); have n3_ := Aside0.mk ((gs1 : w.heap.size ≤ gb524)); have n4_ := Aside0.mk ((gs1 : w.heap.size ≤ gb524)); have n5_ := Aside0.mk ((nl1 BK523 : 0 ≠ gb524)); have n6_ := Aside0.mk ((ng1 BK523 : gb524 ≠ 0)); clear BK523; clear HB; have BK523 := n0_; have HB := n1_; have BK524 := n2_; have GW524 := n3_; have GE524 := n4_; have NB523_524 := n5_; have NB524_523 := n6_; clear n0_ n1_ n2_ n3_ n4_ n5_ n6_; clear hb hbox hg))
 repeat (go_quiet (first | ((with_reducible refine gate_dst (N := 2) rfl ?_); (try (refine gate_guard (by rfl) ?_; dsimp only)); refine bx1 (N := 2) #[.int .i64 a0_0, .int .i64 a0_1, .int .i64 a0_2, .slice A0_3 l0_3.length c0_3, .slice A0_4 l0_4.length c0_4, .slice A0_5 l0_5.length c0_5, .slice A0_6 l0_6.length c0_6] 25 ?_; intro gb524 hg w4 hbox hb; have n0_ := Aside0.mk (blk_below (bu BK523.out) hb); have n1_ := Aside0.mk (below_step bl hb); have n2_ := Aside0.mk (hbox); have n3_ := Aside0.mk ((gs1 : w.heap.size ≤ gb524)); have n4_ := Aside0.mk ((gs1 : w.heap.size ≤ gb524)); have n5_ := Aside0.mk ((nl1 BK523 : 0 ≠ gb524)); have n6_ := Aside0.mk ((ng1 BK523 : gb524 ≠ 0)); clear BK523; clear HB; have BK523 := n0_; have HB := n1_; have BK524 := n2_; have GW524 := n3_; have GE524 := n4_; have NB523_524 := n5_; have NB524_523 := n6_; clear n0_ n1_ n2_ n3_ n4_ n5_ n6_; clear hb hbox hg)); go_upto_region 1 with (first | ((with_reducible refine gate_dst (N := 2) rfl ?_); (try (refine gate_guard (by rfl) ?_; dsimp only)); refine bx1 (N := 2) #[.int .i64 a0_0, .int .i64 a0_1, .int .i64 a0_2, .slice A0_3 l0_3.length c0_3, .slice A0_4 l0_4.length c0_4, .slice A0_5 l0_5.length c0_5, .slice A0_6 l0_6.length c0_6] 25 ?_; intro gb524 hg w4 hbox hb; have n0_ := Aside0.mk (blk_below (bu BK523.out) hb); have n1_ := Aside0.mk (below_step bl hb); have n2_ := Aside0.mk (hbox); have n3_ := Aside0.mk ((gs1 : w.heap.size ≤ gb524)); have n4_ := Aside0.mk ((gs1 : w.heap.size ≤ gb524)); have n5_ := Aside0.mk ((nl1 BK523 : 0 ≠ gb524)); have n6_ := Aside0.mk ((ng1 BK523 : gb524 ≠ 0)); clear BK523; clear HB; have BK523 := n0_; have HB := n1_; have BK524 := n2_; have GW524 := n3_; have GE524 := n4_; have NB523_524 := n5_; have NB524_523 := n6_; clear n0_ n1_ n2_ n3_ n4_ n5_ n6_; clear hb hbox hg)))
 (try simp only [Act.put, List.setIfInBounds_toArray, List.set_cons_zero, List.set_cons_succ])
 go_cut [27] (fun v27 wc => ∃ (kq : Nat) (x27_2 : Bool), v27 = .bool x27_2 ∧ Aside0 (sawmilllaw17_CuttingParts.j0 kq l1 x27_2 a0_0 a0_1 a0_2 l0_3 l0_4 l0_5 l0_6 = some r) ∧ Aside0 (kq ≤ k) ∧ Aside0 (wc.heap[0]? = some (.cells #[.int .i64 (-1), .int .i64 (-1), .int .i64 0] 97 (0, 0))) ∧ Aside0 (wc.heap[gb524]? = some (.cells #[.int .i64 a0_0, .int .i64 a0_1, .int .i64 a0_2, (.slice A0_3 l0_3.length c0_3), (.slice A0_4 l0_4.length c0_4), (.slice A0_5 l0_5.length c0_5), (.slice A0_6 l0_6.length c0_6)] 25 (0, 0))) ∧ Aside0 (Below w.heap.size w wc))
 case first =>
  have H := HC3.out
  clear HC3
  replace H := Option.bind_eq_some_iff.mp H
  obtain ⟨t525, A50, H⟩ := H
  replace H : (if t525 = true then (sawmilllaw17_CuttingParts.j0 k l1 (decide ((l1.length : Int) > 300)) a0_0 a0_1 a0_2 l0_3 l0_4 l0_5 l0_6) else (sawmilllaw17_CuttingParts.j0 k l1 true a0_0 a0_1 a0_2 l0_3 l0_4 l0_5 l0_6)) = some r := H
  have A5 := Aside0.mk A50
  clear A50
  as_aux_lemma =>
   by_cases c6 : t525 = true
   · subst c6
     have H1 : (sawmilllaw17_CuttingParts.j0 k l1 (decide ((l1.length : Int) > 300)) a0_0 a0_1 a0_2 l0_3 l0_4 l0_5 l0_6) = some r := by rw [if_pos rfl] at H; exact H
     clear H
     have H := H1
     clear H1
     have H' := Aside0.mk H
     clear H
     have hnb7 := NB524_523.out
     have hnc7 := NB523_524.out
     have hcz8 := blk_cells BK524.out
     have hfz8 := blk_frozens BK524.out
     go_wp2_with (first | (go_at_call 17; (with_reducible refine (sawmilllaw17_few.calls k a0_0 a0_1 a0_2 _ _ l0_3 _ _ l0_4 _ _ l0_5 _ _ l0_6 true _ ?side1 ?side2 ?side3 ?side4 ?side5 ?side6 ?side7 ?side8 A5.out).mono ?_); (case side1 => exact cu1 (Kd.C_below HR0_3.out HB.out)); (case side2 => exact HC0_3.out); (case side3 => exact cu1 (Kd.C_below HR0_4.out HB.out)); (case side4 => exact HC0_4.out); (case side5 => exact cu1 (Kd.C_below HR0_5.out HB.out)); (case side6 => exact HC0_5.out); (case side7 => exact cu1 (Kd.C_below HR0_6.out HB.out)); (case side8 => exact HC0_6.out); rintro e w9 ⟨rfl, hb⟩; have n0_ := Aside0.mk (blk_below (bu BK523.out) hb); have n1_ := Aside0.mk (blk_below (bu BK524.out) hb); have n2_ := Aside0.mk (below_step bl hb); clear BK523; clear BK524; clear HB; have BK523 := n0_; have BK524 := n1_; have HB := n2_; clear n0_ n1_ n2_; (try clear hb); (try clear hb2); (try clear hk); (try clear hi)))
     repeat (go_quiet (first | (go_at_call 17; (with_reducible refine (sawmilllaw17_few.calls k a0_0 a0_1 a0_2 _ _ l0_3 _ _ l0_4 _ _ l0_5 _ _ l0_6 true _ ?side1 ?side2 ?side3 ?side4 ?side5 ?side6 ?side7 ?side8 A5.out).mono ?_); (case side1 => exact cu1 (Kd.C_below HR0_3.out HB.out)); (case side2 => exact HC0_3.out); (case side3 => exact cu1 (Kd.C_below HR0_4.out HB.out)); (case side4 => exact HC0_4.out); (case side5 => exact cu1 (Kd.C_below HR0_5.out HB.out)); (case side6 => exact HC0_5.out); (case side7 => exact cu1 (Kd.C_below HR0_6.out HB.out)); (case side8 => exact HC0_6.out); rintro e w9 ⟨rfl, hb⟩; have n0_ := Aside0.mk (blk_below (bu BK523.out) hb); have n1_ := Aside0.mk (blk_below (bu BK524.out) hb); have n2_ := Aside0.mk (below_step bl hb); clear BK523; clear BK524; clear HB; have BK523 := n0_; have BK524 := n1_; have HB := n2_; clear n0_ n1_ n2_; (try clear hb); (try clear hb2); (try clear hk); (try clear hi))); try go_wp2_with (first | (go_at_call 17; (with_reducible refine (sawmilllaw17_few.calls k a0_0 a0_1 a0_2 _ _ l0_3 _ _ l0_4 _ _ l0_5 _ _ l0_6 true _ ?side1 ?side2 ?side3 ?side4 ?side5 ?side6 ?side7 ?side8 A5.out).mono ?_); (case side1 => exact cu1 (Kd.C_below HR0_3.out HB.out)); (case side2 => exact HC0_3.out); (case side3 => exact cu1 (Kd.C_below HR0_4.out HB.out)); (case side4 => exact HC0_4.out); (case side5 => exact cu1 (Kd.C_below HR0_5.out HB.out)); (case side6 => exact HC0_5.out); (case side7 => exact cu1 (Kd.C_below HR0_6.out HB.out)); (case side8 => exact HC0_6.out); rintro e w9 ⟨rfl, hb⟩; have n0_ := Aside0.mk (blk_below (bu BK523.out) hb); have n1_ := Aside0.mk (blk_below (bu BK524.out) hb); have n2_ := Aside0.mk (below_step bl hb); clear BK523; clear BK524; clear HB; have BK523 := n0_; have BK524 := n1_; have HB := n2_; clear n0_ n1_ n2_; (try clear hb); (try clear hb2); (try clear hk); (try clear hi))))
     go_meet
     case rel => exact ⟨_, (decide ((l1.length : Int) > 300)), rs1, H', ⟨by first | omega | exact Nat.le_refl _⟩, ⟨bu BK523.out⟩, ⟨bu BK524.out⟩, ⟨bl⟩⟩
   replace c6 := Bool.eq_false_iff.mpr c6
   subst c6
   have H1 : (sawmilllaw17_CuttingParts.j0 k l1 true a0_0 a0_1 a0_2 l0_3 l0_4 l0_5 l0_6) = some r := by rw [if_neg (show ¬ (false = true) by decide)] at H; exact H
   clear H
   have H := H1
   clear H1
   have H' := Aside0.mk H
   clear H
   have hnb10 := NB524_523.out
   have hnc10 := NB523_524.out
   have hcz11 := blk_cells BK524.out
   have hfz11 := blk_frozens BK524.out
   go_wp2_with (first | (go_at_call 17; (with_reducible refine (sawmilllaw17_few.calls k a0_0 a0_1 a0_2 _ _ l0_3 _ _ l0_4 _ _ l0_5 _ _ l0_6 false _ ?side1 ?side2 ?side3 ?side4 ?side5 ?side6 ?side7 ?side8 A5.out).mono ?_); (case side1 => exact cu1 (Kd.C_below HR0_3.out HB.out)); (case side2 => exact HC0_3.out); (case side3 => exact cu1 (Kd.C_below HR0_4.out HB.out)); (case side4 => exact HC0_4.out); (case side5 => exact cu1 (Kd.C_below HR0_5.out HB.out)); (case side6 => exact HC0_5.out); (case side7 => exact cu1 (Kd.C_below HR0_6.out HB.out)); (case side8 => exact HC0_6.out); rintro e w12 ⟨rfl, hb⟩; have n0_ := Aside0.mk (blk_below (bu BK523.out) hb); have n1_ := Aside0.mk (blk_below (bu BK524.out) hb); have n2_ := Aside0.mk (below_step bl hb); clear BK523; clear BK524; clear HB; have BK523 := n0_; have BK524 := n1_; have HB := n2_; clear n0_ n1_ n2_; (try clear hb); (try clear hb2); (try clear hk); (try clear hi)))
   repeat (go_quiet (first | (go_at_call 17; (with_reducible refine (sawmilllaw17_few.calls k a0_0 a0_1 a0_2 _ _ l0_3 _ _ l0_4 _ _ l0_5 _ _ l0_6 false _ ?side1 ?side2 ?side3 ?side4 ?side5 ?side6 ?side7 ?side8 A5.out).mono ?_); (case side1 => exact cu1 (Kd.C_below HR0_3.out HB.out)); (case side2 => exact HC0_3.out); (case side3 => exact cu1 (Kd.C_below HR0_4.out HB.out)); (case side4 => exact HC0_4.out); (case side5 => exact cu1 (Kd.C_below HR0_5.out HB.out)); (case side6 => exact HC0_5.out); (case side7 => exact cu1 (Kd.C_below HR0_6.out HB.out)); (case side8 => exact HC0_6.out); rintro e w12 ⟨rfl, hb⟩; have n0_ := Aside0.mk (blk_below (bu BK523.out) hb); have n1_ := Aside0.mk (blk_below (bu BK524.out) hb); have n2_ := Aside0.mk (below_step bl hb); clear BK523; clear BK524; clear HB; have BK523 := n0_; have BK524 := n1_; have HB := n2_; clear n0_ n1_ n2_; (try clear hb); (try clear hb2); (try clear hk); (try clear hi))); try go_wp2_with (first | (go_at_call 17; (with_reducible refine (sawmilllaw17_few.calls k a0_0 a0_1 a0_2 _ _ l0_3 _ _ l0_4 _ _ l0_5 _ _ l0_6 false _ ?side1 ?side2 ?side3 ?side4 ?side5 ?side6 ?side7 ?side8 A5.out).mono ?_); (case side1 => exact cu1 (Kd.C_below HR0_3.out HB.out)); (case side2 => exact HC0_3.out); (case side3 => exact cu1 (Kd.C_below HR0_4.out HB.out)); (case side4 => exact HC0_4.out); (case side5 => exact cu1 (Kd.C_below HR0_5.out HB.out)); (case side6 => exact HC0_5.out); (case side7 => exact cu1 (Kd.C_below HR0_6.out HB.out)); (case side8 => exact HC0_6.out); rintro e w12 ⟨rfl, hb⟩; have n0_ := Aside0.mk (blk_below (bu BK523.out) hb); have n1_ := Aside0.mk (blk_below (bu BK524.out) hb); have n2_ := Aside0.mk (below_step bl hb); clear BK523; clear BK524; clear HB; have BK523 := n0_; have BK524 := n1_; have HB := n2_; clear n0_ n1_ n2_; (try clear hb); (try clear hb2); (try clear hk); (try clear hi))))
   go_meet
   case rel => exact ⟨_, (true), rs1, H', ⟨by first | omega | exact Nat.le_refl _⟩, ⟨bu BK523.out⟩, ⟨bu BK524.out⟩, ⟨bl⟩⟩
 clear HC3; (try clear c1); (try clear p2); (try clear c6); (try clear c7); (try clear c9); (try clear c10); (try clear hcz11); (try clear hcz8); (try clear hfz11); (try clear hfz8)
 obtain ⟨kq, x27_2, rfl, HA, HJ2, BK523, BK524, HB⟩ := hcut
 rcases kq with _ | kj2
 · exact absurd HA.out (by simp [sawmilllaw17_CuttingParts.j0])
 have H := HA.out
 clear HA
 simp only [sawmilllaw17_CuttingParts.j0] at H
 as_aux_lemma =>
  by_cases c13 : x27_2 = true
  · subst c13
    have H1 : ((sawmilllaw17_awake.f).bind fun t526 => (some t526)) = some r := by rw [if_pos rfl] at H; exact H
    clear H
    have H := H1
    clear H1
    replace H := Option.bind_eq_some_iff.mp H
    obtain ⟨t526, A140, H⟩ := H
    replace H : (some t526) = some r := H
    have A14 := Aside0.mk A140
    clear A140
    obtain rfl := Option.some.inj H
    go_wp2_with (first | (go_at_call 18; (with_reducible refine (sawmilllaw17_awake.calls  t526 _ ?side1 A14.out).mono ?_); (case side1 => exact bu BK523.out); rintro e w15 ⟨rfl, hb⟩; have n0_ := Aside0.mk (blk_below (bu BK523.out) hb); have n1_ := Aside0.mk (blk_below (bu BK524.out) hb); have n2_ := Aside0.mk (below_step bl hb); clear BK523; clear BK524; clear HB; have BK523 := n0_; have BK524 := n1_; have HB := n2_; clear n0_ n1_ n2_; (try clear hb); (try clear hb2); (try clear hk); (try clear hi)))
    repeat (go_quiet (first | (go_at_call 18; (with_reducible refine (sawmilllaw17_awake.calls  t526 _ ?side1 A14.out).mono ?_); (case side1 => exact bu BK523.out); rintro e w15 ⟨rfl, hb⟩; have n0_ := Aside0.mk (blk_below (bu BK523.out) hb); have n1_ := Aside0.mk (blk_below (bu BK524.out) hb); have n2_ := Aside0.mk (below_step bl hb); clear BK523; clear BK524; clear HB; have BK523 := n0_; have BK524 := n1_; have HB := n2_; clear n0_ n1_ n2_; (try clear hb); (try clear hb2); (try clear hk); (try clear hi))); try go_wp2_with (first | (go_at_call 18; (with_reducible refine (sawmilllaw17_awake.calls  t526 _ ?side1 A14.out).mono ?_); (case side1 => exact bu BK523.out); rintro e w15 ⟨rfl, hb⟩; have n0_ := Aside0.mk (blk_below (bu BK523.out) hb); have n1_ := Aside0.mk (blk_below (bu BK524.out) hb); have n2_ := Aside0.mk (below_step bl hb); clear BK523; clear BK524; clear HB; have BK523 := n0_; have BK524 := n1_; have HB := n2_; clear n0_ n1_ n2_; (try clear hb); (try clear hb2); (try clear hk); (try clear hi))))
    go_ret
    exact ⟨fe1, bl⟩
  replace c13 := Bool.eq_false_iff.mpr c13
  subst c13
  have H1 : ((cutting_Cuts.f kj2 a0_0 a0_1 a0_2 l0_3 l0_4 l0_5 l0_6 l1).bind fun bt527 => ((cutting_Value.f kj2 a0_0 a0_1 a0_2 l0_3 l0_4 l0_5 l0_6 l1).bind fun bt534 => (if bt527.2.2 = bt534.2 then (if bt527.2.2 = 0 then (if a0_0 < 0 then (sawmilllaw17_CuttingParts.j1 kj2 l1 bt527.1 bt527.2.1 bt534.1 true a0_0 a0_1 a0_2 l0_3 l0_4 l0_5 l0_6) else (if a0_0 > 2000 then (sawmilllaw17_CuttingParts.j1 kj2 l1 bt527.1 bt527.2.1 bt534.1 true a0_0 a0_1 a0_2 l0_3 l0_4 l0_5 l0_6) else (if (l0_5.length : Int) = a0_0 then (sawmilllaw17_CuttingParts.j1 kj2 l1 bt527.1 bt527.2.1 bt534.1 ((l0_6.length : Int) != a0_0) a0_0 a0_1 a0_2 l0_3 l0_4 l0_5 l0_6) else (sawmilllaw17_CuttingParts.j1 kj2 l1 bt527.1 bt527.2.1 bt534.1 true a0_0 a0_1 a0_2 l0_3 l0_4 l0_5 l0_6)))) else (if (bt527.1.length : Int) = 0 then (if (bt527.2.1.length : Int) = 0 then (if bt534.1 = 0 then ((sawmilllaw17_awake.f).bind fun t536 => (some t536)) else (some false)) else (some false)) else (some false))) else (some false)))) = some r := by rw [if_neg (show ¬ (false = true) by decide)] at H; exact H
  clear H
  have H := H1
  clear H1
  replace H := Option.bind_eq_some_iff.mp H
  obtain ⟨⟨t527, t530, t533⟩, A160, H⟩ := H
  replace H : ((cutting_Value.f kj2 a0_0 a0_1 a0_2 l0_3 l0_4 l0_5 l0_6 l1).bind fun bt534 => (if t533 = bt534.2 then (if t533 = 0 then (if a0_0 < 0 then (sawmilllaw17_CuttingParts.j1 kj2 l1 t527 t530 bt534.1 true a0_0 a0_1 a0_2 l0_3 l0_4 l0_5 l0_6) else (if a0_0 > 2000 then (sawmilllaw17_CuttingParts.j1 kj2 l1 t527 t530 bt534.1 true a0_0 a0_1 a0_2 l0_3 l0_4 l0_5 l0_6) else (if (l0_5.length : Int) = a0_0 then (sawmilllaw17_CuttingParts.j1 kj2 l1 t527 t530 bt534.1 ((l0_6.length : Int) != a0_0) a0_0 a0_1 a0_2 l0_3 l0_4 l0_5 l0_6) else (sawmilllaw17_CuttingParts.j1 kj2 l1 t527 t530 bt534.1 true a0_0 a0_1 a0_2 l0_3 l0_4 l0_5 l0_6)))) else (if (t527.length : Int) = 0 then (if (t530.length : Int) = 0 then (if bt534.1 = 0 then ((sawmilllaw17_awake.f).bind fun t536 => (some t536)) else (some false)) else (some false)) else (some false))) else (some false))) = some r := H
  have A16 := Aside0.mk A160
  clear A160
  replace H := Option.bind_eq_some_iff.mp H
  obtain ⟨⟨t534, t535⟩, A170, H⟩ := H
  replace H : (if t533 = t535 then (if t533 = 0 then (if a0_0 < 0 then (sawmilllaw17_CuttingParts.j1 kj2 l1 t527 t530 t534 true a0_0 a0_1 a0_2 l0_3 l0_4 l0_5 l0_6) else (if a0_0 > 2000 then (sawmilllaw17_CuttingParts.j1 kj2 l1 t527 t530 t534 true a0_0 a0_1 a0_2 l0_3 l0_4 l0_5 l0_6) else (if (l0_5.length : Int) = a0_0 then (sawmilllaw17_CuttingParts.j1 kj2 l1 t527 t530 t534 ((l0_6.length : Int) != a0_0) a0_0 a0_1 a0_2 l0_3 l0_4 l0_5 l0_6) else (sawmilllaw17_CuttingParts.j1 kj2 l1 t527 t530 t534 true a0_0 a0_1 a0_2 l0_3 l0_4 l0_5 l0_6)))) else (if (t527.length : Int) = 0 then (if (t530.length : Int) = 0 then (if t534 = 0 then ((sawmilllaw17_awake.f).bind fun t536 => (some t536)) else (some false)) else (some false)) else (some false))) else (some false)) = some r := H
  have A17 := Aside0.mk A170
  clear A170
  as_aux_lemma =>
   by_cases c18 : t533 = t535
   rotate_left
   · rw [if_neg c18] at H
     have c18b0 : (t533 == t535) = false := beq_eq_false_iff_ne.mpr c18
     have c18b1 : (t533 != t535) = true := bne_iff_ne.mpr c18
     obtain rfl := Option.some.inj H
     have hnb163 := NB524_523.out
     have hnc163 := NB523_524.out
     have hcz164 := blk_cells BK524.out
     have hfz164 := blk_frozens BK524.out
     go_wp2_with (first | (go_at_call 21; (with_reducible refine (cutting_Cuts.calls kj2 a0_0 a0_1 a0_2 _ _ l0_3 _ _ l0_4 _ _ l0_5 _ _ l0_6 _ _ l1 t527 t530 t533 _ ?side1 ?side2 ?side3 ?side4 ?side5 ?side6 ?side7 ?side8 ?side9 ?side10 A16.out).mono ?_); (case side1 => exact cu1 (Kd.C_below HR0_3.out HB.out)); (case side2 => exact HC0_3.out); (case side3 => exact cu1 (Kd.C_below HR0_4.out HB.out)); (case side4 => exact HC0_4.out); (case side5 => exact cu1 (Kd.C_below HR0_5.out HB.out)); (case side6 => exact HC0_5.out); (case side7 => exact cu1 (Kd.C_below HR0_6.out HB.out)); (case side8 => exact HC0_6.out); (case side9 => exact cu1 (Kd.C_below HR1.out HB.out)); (case side10 => exact HC1.out); rintro e w165 ⟨v528, v531, rfl, ho0, ho1, hb⟩; have n0_ := Aside0.mk (Kd.R_lower ho0 (below_size bl)); have n1_ := Aside0.mk (Kd.R_lower ho1 (below_size bl)); have n2_ := Aside0.mk (blk_below (bu BK523.out) hb); have n3_ := Aside0.mk (blk_below (bu BK524.out) hb); have n4_ := Aside0.mk (below_step bl hb); clear BK523; clear BK524; clear HB; have HO529 := n0_; have HO532 := n1_; have BK523 := n2_; have BK524 := n3_; have HB := n4_; clear n0_ n1_ n2_ n3_ n4_; (try clear hb); (try clear hb2); (try clear hk); (try clear hi); (try clear ho0); (try clear ho1); have hcz166 := blk_cells BK524.out; have hfz166 := blk_frozens BK524.out) | (go_at_call 23; (with_reducible refine (cutting_Value.calls kj2 a0_0 a0_1 a0_2 _ _ l0_3 _ _ l0_4 _ _ l0_5 _ _ l0_6 _ _ l1 t534 t535 _ ?side1 ?side2 ?side3 ?side4 ?side5 ?side6 ?side7 ?side8 ?side9 ?side10 A17.out).mono ?_); (case side1 => exact cu1 (Kd.C_below HR0_3.out HB.out)); (case side2 => exact HC0_3.out); (case side3 => exact cu1 (Kd.C_below HR0_4.out HB.out)); (case side4 => exact HC0_4.out); (case side5 => exact cu1 (Kd.C_below HR0_5.out HB.out)); (case side6 => exact HC0_5.out); (case side7 => exact cu1 (Kd.C_below HR0_6.out HB.out)); (case side8 => exact HC0_6.out); (case side9 => exact cu1 (Kd.C_below HR1.out HB.out)); (case side10 => exact HC1.out); rintro e w167 ⟨rfl, hb⟩; have n0_ := Aside0.mk (Kd.R_below (ru HO529.out) hb); have n1_ := Aside0.mk (Kd.R_below (ru HO532.out) hb); have n2_ := Aside0.mk (blk_below (bu BK523.out) hb); have n3_ := Aside0.mk (blk_below (bu BK524.out) hb); have n4_ := Aside0.mk (below_step bl hb); clear HO529; clear HO532; clear BK523; clear BK524; clear HB; have HO529 := n0_; have HO532 := n1_; have BK523 := n2_; have BK524 := n3_; have HB := n4_; clear n0_ n1_ n2_ n3_ n4_; (try clear hb); (try clear hb2); (try clear hk); (try clear hi)))
     repeat (go_quiet (first | (go_at_call 21; (with_reducible refine (cutting_Cuts.calls kj2 a0_0 a0_1 a0_2 _ _ l0_3 _ _ l0_4 _ _ l0_5 _ _ l0_6 _ _ l1 t527 t530 t533 _ ?side1 ?side2 ?side3 ?side4 ?side5 ?side6 ?side7 ?side8 ?side9 ?side10 A16.out).mono ?_); (case side1 => exact cu1 (Kd.C_below HR0_3.out HB.out)); (case side2 => exact HC0_3.out); (case side3 => exact cu1 (Kd.C_below HR0_4.out HB.out)); (case side4 => exact HC0_4.out); (case side5 => exact cu1 (Kd.C_below HR0_5.out HB.out)); (case side6 => exact HC0_5.out); (case side7 => exact cu1 (Kd.C_below HR0_6.out HB.out)); (case side8 => exact HC0_6.out); (case side9 => exact cu1 (Kd.C_below HR1.out HB.out)); (case side10 => exact HC1.out); rintro e w165 ⟨v528, v531, rfl, ho0, ho1, hb⟩; have n0_ := Aside0.mk (Kd.R_lower ho0 (below_size bl)); have n1_ := Aside0.mk (Kd.R_lower ho1 (below_size bl)); have n2_ := Aside0.mk (blk_below (bu BK523.out) hb); have n3_ := Aside0.mk (blk_below (bu BK524.out) hb); have n4_ := Aside0.mk (below_step bl hb); clear BK523; clear BK524; clear HB; have HO529 := n0_; have HO532 := n1_; have BK523 := n2_; have BK524 := n3_; have HB := n4_; clear n0_ n1_ n2_ n3_ n4_; (try clear hb); (try clear hb2); (try clear hk); (try clear hi); (try clear ho0); (try clear ho1); have hcz166 := blk_cells BK524.out; have hfz166 := blk_frozens BK524.out) | (go_at_call 23; (with_reducible refine (cutting_Value.calls kj2 a0_0 a0_1 a0_2 _ _ l0_3 _ _ l0_4 _ _ l0_5 _ _ l0_6 _ _ l1 t534 t535 _ ?side1 ?side2 ?side3 ?side4 ?side5 ?side6 ?side7 ?side8 ?side9 ?side10 A17.out).mono ?_); (case side1 => exact cu1 (Kd.C_below HR0_3.out HB.out)); (case side2 => exact HC0_3.out); (case side3 => exact cu1 (Kd.C_below HR0_4.out HB.out)); (case side4 => exact HC0_4.out); (case side5 => exact cu1 (Kd.C_below HR0_5.out HB.out)); (case side6 => exact HC0_5.out); (case side7 => exact cu1 (Kd.C_below HR0_6.out HB.out)); (case side8 => exact HC0_6.out); (case side9 => exact cu1 (Kd.C_below HR1.out HB.out)); (case side10 => exact HC1.out); rintro e w167 ⟨rfl, hb⟩; have n0_ := Aside0.mk (Kd.R_below (ru HO529.out) hb); have n1_ := Aside0.mk (Kd.R_below (ru HO532.out) hb); have n2_ := Aside0.mk (blk_below (bu BK523.out) hb); have n3_ := Aside0.mk (blk_below (bu BK524.out) hb); have n4_ := Aside0.mk (below_step bl hb); clear HO529; clear HO532; clear BK523; clear BK524; clear HB; have HO529 := n0_; have HO532 := n1_; have BK523 := n2_; have BK524 := n3_; have HB := n4_; clear n0_ n1_ n2_ n3_ n4_; (try clear hb); (try clear hb2); (try clear hk); (try clear hi))); try go_wp2_with (first | (go_at_call 21; (with_reducible refine (cutting_Cuts.calls kj2 a0_0 a0_1 a0_2 _ _ l0_3 _ _ l0_4 _ _ l0_5 _ _ l0_6 _ _ l1 t527 t530 t533 _ ?side1 ?side2 ?side3 ?side4 ?side5 ?side6 ?side7 ?side8 ?side9 ?side10 A16.out).mono ?_); (case side1 => exact cu1 (Kd.C_below HR0_3.out HB.out)); (case side2 => exact HC0_3.out); (case side3 => exact cu1 (Kd.C_below HR0_4.out HB.out)); (case side4 => exact HC0_4.out); (case side5 => exact cu1 (Kd.C_below HR0_5.out HB.out)); (case side6 => exact HC0_5.out); (case side7 => exact cu1 (Kd.C_below HR0_6.out HB.out)); (case side8 => exact HC0_6.out); (case side9 => exact cu1 (Kd.C_below HR1.out HB.out)); (case side10 => exact HC1.out); rintro e w165 ⟨v528, v531, rfl, ho0, ho1, hb⟩; have n0_ := Aside0.mk (Kd.R_lower ho0 (below_size bl)); have n1_ := Aside0.mk (Kd.R_lower ho1 (below_size bl)); have n2_ := Aside0.mk (blk_below (bu BK523.out) hb); have n3_ := Aside0.mk (blk_below (bu BK524.out) hb); have n4_ := Aside0.mk (below_step bl hb); clear BK523; clear BK524; clear HB; have HO529 := n0_; have HO532 := n1_; have BK523 := n2_; have BK524 := n3_; have HB := n4_; clear n0_ n1_ n2_ n3_ n4_; (try clear hb); (try clear hb2); (try clear hk); (try clear hi); (try clear ho0); (try clear ho1); have hcz166 := blk_cells BK524.out; have hfz166 := blk_frozens BK524.out) | (go_at_call 23; (with_reducible refine (cutting_Value.calls kj2 a0_0 a0_1 a0_2 _ _ l0_3 _ _ l0_4 _ _ l0_5 _ _ l0_6 _ _ l1 t534 t535 _ ?side1 ?side2 ?side3 ?side4 ?side5 ?side6 ?side7 ?side8 ?side9 ?side10 A17.out).mono ?_); (case side1 => exact cu1 (Kd.C_below HR0_3.out HB.out)); (case side2 => exact HC0_3.out); (case side3 => exact cu1 (Kd.C_below HR0_4.out HB.out)); (case side4 => exact HC0_4.out); (case side5 => exact cu1 (Kd.C_below HR0_5.out HB.out)); (case side6 => exact HC0_5.out); (case side7 => exact cu1 (Kd.C_below HR0_6.out HB.out)); (case side8 => exact HC0_6.out); (case side9 => exact cu1 (Kd.C_below HR1.out HB.out)); (case side10 => exact HC1.out); rintro e w167 ⟨rfl, hb⟩; have n0_ := Aside0.mk (Kd.R_below (ru HO529.out) hb); have n1_ := Aside0.mk (Kd.R_below (ru HO532.out) hb); have n2_ := Aside0.mk (blk_below (bu BK523.out) hb); have n3_ := Aside0.mk (blk_below (bu BK524.out) hb); have n4_ := Aside0.mk (below_step bl hb); clear HO529; clear HO532; clear BK523; clear BK524; clear HB; have HO529 := n0_; have HO532 := n1_; have BK523 := n2_; have BK524 := n3_; have HB := n4_; clear n0_ n1_ n2_ n3_ n4_; (try clear hb); (try clear hb2); (try clear hk); (try clear hi))))
     go_ret
     exact ⟨fe1, bl⟩
   rw [if_pos c18] at H
   have c18b0 : (t533 == t535) = true := beq_iff_eq.mpr c18
   have c18b1 : (t533 != t535) = false := bne_eq_false_iff_eq.mpr c18
   clear c18
   by_cases c19 : t533 = 0
   rotate_left
   · rw [if_neg c19] at H
     have c19b0 : (t533 == 0) = false := beq_eq_false_iff_ne.mpr c19
     have c19b1 : (t533 != 0) = true := bne_iff_ne.mpr c19
     by_cases c131 : (t527.length : Int) = 0
     rotate_left
     · rw [if_neg c131] at H
       have c131b0 : ((t527.length : Int) == 0) = false := beq_eq_false_iff_ne.mpr c131
       have c131b1 : ((t527.length : Int) != 0) = true := bne_iff_ne.mpr c131
       have c131b2 : ¬ (t527 = []) := fun h_ => c131 (by rw [h_]; rfl)
       obtain rfl := Option.some.inj H
       have hnb157 := NB524_523.out
       have hnc157 := NB523_524.out
       have hcz158 := blk_cells BK524.out
       have hfz158 := blk_frozens BK524.out
       go_wp2_with (first | (go_at_call 21; (with_reducible refine (cutting_Cuts.calls kj2 a0_0 a0_1 a0_2 _ _ l0_3 _ _ l0_4 _ _ l0_5 _ _ l0_6 _ _ l1 t527 t530 t533 _ ?side1 ?side2 ?side3 ?side4 ?side5 ?side6 ?side7 ?side8 ?side9 ?side10 A16.out).mono ?_); (case side1 => exact cu1 (Kd.C_below HR0_3.out HB.out)); (case side2 => exact HC0_3.out); (case side3 => exact cu1 (Kd.C_below HR0_4.out HB.out)); (case side4 => exact HC0_4.out); (case side5 => exact cu1 (Kd.C_below HR0_5.out HB.out)); (case side6 => exact HC0_5.out); (case side7 => exact cu1 (Kd.C_below HR0_6.out HB.out)); (case side8 => exact HC0_6.out); (case side9 => exact cu1 (Kd.C_below HR1.out HB.out)); (case side10 => exact HC1.out); rintro e w159 ⟨v528, v531, rfl, ho0, ho1, hb⟩; have n0_ := Aside0.mk (Kd.R_lower ho0 (below_size bl)); have n1_ := Aside0.mk (Kd.R_lower ho1 (below_size bl)); have n2_ := Aside0.mk (blk_below (bu BK523.out) hb); have n3_ := Aside0.mk (blk_below (bu BK524.out) hb); have n4_ := Aside0.mk (below_step bl hb); clear BK523; clear BK524; clear HB; have HO529 := n0_; have HO532 := n1_; have BK523 := n2_; have BK524 := n3_; have HB := n4_; clear n0_ n1_ n2_ n3_ n4_; (try clear hb); (try clear hb2); (try clear hk); (try clear hi); (try clear ho0); (try clear ho1); have hcz160 := blk_cells BK524.out; have hfz160 := blk_frozens BK524.out) | (go_at_call 23; (with_reducible refine (cutting_Value.calls kj2 a0_0 a0_1 a0_2 _ _ l0_3 _ _ l0_4 _ _ l0_5 _ _ l0_6 _ _ l1 t534 t535 _ ?side1 ?side2 ?side3 ?side4 ?side5 ?side6 ?side7 ?side8 ?side9 ?side10 A17.out).mono ?_); (case side1 => exact cu1 (Kd.C_below HR0_3.out HB.out)); (case side2 => exact HC0_3.out); (case side3 => exact cu1 (Kd.C_below HR0_4.out HB.out)); (case side4 => exact HC0_4.out); (case side5 => exact cu1 (Kd.C_below HR0_5.out HB.out)); (case side6 => exact HC0_5.out); (case side7 => exact cu1 (Kd.C_below HR0_6.out HB.out)); (case side8 => exact HC0_6.out); (case side9 => exact cu1 (Kd.C_below HR1.out HB.out)); (case side10 => exact HC1.out); rintro e w161 ⟨rfl, hb⟩; have n0_ := Aside0.mk (Kd.R_below (ru HO529.out) hb); have n1_ := Aside0.mk (Kd.R_below (ru HO532.out) hb); have n2_ := Aside0.mk (blk_below (bu BK523.out) hb); have n3_ := Aside0.mk (blk_below (bu BK524.out) hb); have n4_ := Aside0.mk (below_step bl hb); clear HO529; clear HO532; clear BK523; clear BK524; clear HB; have HO529 := n0_; have HO532 := n1_; have BK523 := n2_; have BK524 := n3_; have HB := n4_; clear n0_ n1_ n2_ n3_ n4_; (try clear hb); (try clear hb2); (try clear hk); (try clear hi); obtain ⟨Ao162, co162, eo162⟩ := Kd.R_slice HO529.out; subst eo162))
       repeat (go_quiet (first | (go_at_call 21; (with_reducible refine (cutting_Cuts.calls kj2 a0_0 a0_1 a0_2 _ _ l0_3 _ _ l0_4 _ _ l0_5 _ _ l0_6 _ _ l1 t527 t530 t533 _ ?side1 ?side2 ?side3 ?side4 ?side5 ?side6 ?side7 ?side8 ?side9 ?side10 A16.out).mono ?_); (case side1 => exact cu1 (Kd.C_below HR0_3.out HB.out)); (case side2 => exact HC0_3.out); (case side3 => exact cu1 (Kd.C_below HR0_4.out HB.out)); (case side4 => exact HC0_4.out); (case side5 => exact cu1 (Kd.C_below HR0_5.out HB.out)); (case side6 => exact HC0_5.out); (case side7 => exact cu1 (Kd.C_below HR0_6.out HB.out)); (case side8 => exact HC0_6.out); (case side9 => exact cu1 (Kd.C_below HR1.out HB.out)); (case side10 => exact HC1.out); rintro e w159 ⟨v528, v531, rfl, ho0, ho1, hb⟩; have n0_ := Aside0.mk (Kd.R_lower ho0 (below_size bl)); have n1_ := Aside0.mk (Kd.R_lower ho1 (below_size bl)); have n2_ := Aside0.mk (blk_below (bu BK523.out) hb); have n3_ := Aside0.mk (blk_below (bu BK524.out) hb); have n4_ := Aside0.mk (below_step bl hb); clear BK523; clear BK524; clear HB; have HO529 := n0_; have HO532 := n1_; have BK523 := n2_; have BK524 := n3_; have HB := n4_; clear n0_ n1_ n2_ n3_ n4_; (try clear hb); (try clear hb2); (try clear hk); (try clear hi); (try clear ho0); (try clear ho1); have hcz160 := blk_cells BK524.out; have hfz160 := blk_frozens BK524.out) | (go_at_call 23; (with_reducible refine (cutting_Value.calls kj2 a0_0 a0_1 a0_2 _ _ l0_3 _ _ l0_4 _ _ l0_5 _ _ l0_6 _ _ l1 t534 t535 _ ?side1 ?side2 ?side3 ?side4 ?side5 ?side6 ?side7 ?side8 ?side9 ?side10 A17.out).mono ?_); (case side1 => exact cu1 (Kd.C_below HR0_3.out HB.out)); (case side2 => exact HC0_3.out); (case side3 => exact cu1 (Kd.C_below HR0_4.out HB.out)); (case side4 => exact HC0_4.out); (case side5 => exact cu1 (Kd.C_below HR0_5.out HB.out)); (case side6 => exact HC0_5.out); (case side7 => exact cu1 (Kd.C_below HR0_6.out HB.out)); (case side8 => exact HC0_6.out); (case side9 => exact cu1 (Kd.C_below HR1.out HB.out)); (case side10 => exact HC1.out); rintro e w161 ⟨rfl, hb⟩; have n0_ := Aside0.mk (Kd.R_below (ru HO529.out) hb); have n1_ := Aside0.mk (Kd.R_below (ru HO532.out) hb); have n2_ := Aside0.mk (blk_below (bu BK523.out) hb); have n3_ := Aside0.mk (blk_below (bu BK524.out) hb); have n4_ := Aside0.mk (below_step bl hb); clear HO529; clear HO532; clear BK523; clear BK524; clear HB; have HO529 := n0_; have HO532 := n1_; have BK523 := n2_; have BK524 := n3_; have HB := n4_; clear n0_ n1_ n2_ n3_ n4_; (try clear hb); (try clear hb2); (try clear hk); (try clear hi); obtain ⟨Ao162, co162, eo162⟩ := Kd.R_slice HO529.out; subst eo162)); try go_wp2_with (first | (go_at_call 21; (with_reducible refine (cutting_Cuts.calls kj2 a0_0 a0_1 a0_2 _ _ l0_3 _ _ l0_4 _ _ l0_5 _ _ l0_6 _ _ l1 t527 t530 t533 _ ?side1 ?side2 ?side3 ?side4 ?side5 ?side6 ?side7 ?side8 ?side9 ?side10 A16.out).mono ?_); (case side1 => exact cu1 (Kd.C_below HR0_3.out HB.out)); (case side2 => exact HC0_3.out); (case side3 => exact cu1 (Kd.C_below HR0_4.out HB.out)); (case side4 => exact HC0_4.out); (case side5 => exact cu1 (Kd.C_below HR0_5.out HB.out)); (case side6 => exact HC0_5.out); (case side7 => exact cu1 (Kd.C_below HR0_6.out HB.out)); (case side8 => exact HC0_6.out); (case side9 => exact cu1 (Kd.C_below HR1.out HB.out)); (case side10 => exact HC1.out); rintro e w159 ⟨v528, v531, rfl, ho0, ho1, hb⟩; have n0_ := Aside0.mk (Kd.R_lower ho0 (below_size bl)); have n1_ := Aside0.mk (Kd.R_lower ho1 (below_size bl)); have n2_ := Aside0.mk (blk_below (bu BK523.out) hb); have n3_ := Aside0.mk (blk_below (bu BK524.out) hb); have n4_ := Aside0.mk (below_step bl hb); clear BK523; clear BK524; clear HB; have HO529 := n0_; have HO532 := n1_; have BK523 := n2_; have BK524 := n3_; have HB := n4_; clear n0_ n1_ n2_ n3_ n4_; (try clear hb); (try clear hb2); (try clear hk); (try clear hi); (try clear ho0); (try clear ho1); have hcz160 := blk_cells BK524.out; have hfz160 := blk_frozens BK524.out) | (go_at_call 23; (with_reducible refine (cutting_Value.calls kj2 a0_0 a0_1 a0_2 _ _ l0_3 _ _ l0_4 _ _ l0_5 _ _ l0_6 _ _ l1 t534 t535 _ ?side1 ?side2 ?side3 ?side4 ?side5 ?side6 ?side7 ?side8 ?side9 ?side10 A17.out).mono ?_); (case side1 => exact cu1 (Kd.C_below HR0_3.out HB.out)); (case side2 => exact HC0_3.out); (case side3 => exact cu1 (Kd.C_below HR0_4.out HB.out)); (case side4 => exact HC0_4.out); (case side5 => exact cu1 (Kd.C_below HR0_5.out HB.out)); (case side6 => exact HC0_5.out); (case side7 => exact cu1 (Kd.C_below HR0_6.out HB.out)); (case side8 => exact HC0_6.out); (case side9 => exact cu1 (Kd.C_below HR1.out HB.out)); (case side10 => exact HC1.out); rintro e w161 ⟨rfl, hb⟩; have n0_ := Aside0.mk (Kd.R_below (ru HO529.out) hb); have n1_ := Aside0.mk (Kd.R_below (ru HO532.out) hb); have n2_ := Aside0.mk (blk_below (bu BK523.out) hb); have n3_ := Aside0.mk (blk_below (bu BK524.out) hb); have n4_ := Aside0.mk (below_step bl hb); clear HO529; clear HO532; clear BK523; clear BK524; clear HB; have HO529 := n0_; have HO532 := n1_; have BK523 := n2_; have BK524 := n3_; have HB := n4_; clear n0_ n1_ n2_ n3_ n4_; (try clear hb); (try clear hb2); (try clear hk); (try clear hi); obtain ⟨Ao162, co162, eo162⟩ := Kd.R_slice HO529.out; subst eo162)))
       go_ret
       exact ⟨fe1, bl⟩
     rw [if_pos c131] at H
     have c131b0 : ((t527.length : Int) == 0) = true := beq_iff_eq.mpr c131
     have c131b1 : ((t527.length : Int) != 0) = false := bne_eq_false_iff_eq.mpr c131
     clear c131
     by_cases c132 : (t530.length : Int) = 0
     rotate_left
     · rw [if_neg c132] at H
       have c132b0 : ((t530.length : Int) == 0) = false := beq_eq_false_iff_ne.mpr c132
       have c132b1 : ((t530.length : Int) != 0) = true := bne_iff_ne.mpr c132
       have c132b2 : ¬ (t530 = []) := fun h_ => c132 (by rw [h_]; rfl)
       obtain rfl := Option.some.inj H
       have hnb150 := NB524_523.out
       have hnc150 := NB523_524.out
       have hcz151 := blk_cells BK524.out
       have hfz151 := blk_frozens BK524.out
       exact L9_0
     rw [if_pos c132] at H
     have c132b0 : ((t530.length : Int) == 0) = true := beq_iff_eq.mpr c132
     have c132b1 : ((t530.length : Int) != 0) = false := bne_eq_false_iff_eq.mpr c132
     clear c132
     by_cases c133 : t534 = 0
     rotate_left
     · rw [if_neg c133] at H
       have c133b0 : (t534 == 0) = false := beq_eq_false_iff_ne.mpr c133
       have c133b1 : (t534 != 0) = true := bne_iff_ne.mpr c133
       obtain rfl := Option.some.inj H
       have hnb143 := NB524_523.out
       have hnc143 := NB523_524.out
       have hcz144 := blk_cells BK524.out
       have hfz144 := blk_frozens BK524.out
       exact L9_0
     rw [if_pos c133] at H
     have c133b0 : (t534 == 0) = true := beq_iff_eq.mpr c133
     have c133b1 : (t534 != 0) = false := bne_eq_false_iff_eq.mpr c133
     clear c133
     replace H := Option.bind_eq_some_iff.mp H
     obtain ⟨t536, A1340, H⟩ := H
     replace H : (some t536) = some r := H
     have A134 := Aside0.mk A1340
     clear A1340
     obtain rfl := Option.some.inj H
     have hnb135 := NB524_523.out
     have hnc135 := NB523_524.out
     have hcz136 := blk_cells BK524.out
     have hfz136 := blk_frozens BK524.out
     go_wp2_with (first | (go_at_call 21; (with_reducible refine (cutting_Cuts.calls kj2 a0_0 a0_1 a0_2 _ _ l0_3 _ _ l0_4 _ _ l0_5 _ _ l0_6 _ _ l1 t527 t530 t533 _ ?side1 ?side2 ?side3 ?side4 ?side5 ?side6 ?side7 ?side8 ?side9 ?side10 A16.out).mono ?_); (case side1 => exact cu1 (Kd.C_below HR0_3.out HB.out)); (case side2 => exact HC0_3.out); (case side3 => exact cu1 (Kd.C_below HR0_4.out HB.out)); (case side4 => exact HC0_4.out); (case side5 => exact cu1 (Kd.C_below HR0_5.out HB.out)); (case side6 => exact HC0_5.out); (case side7 => exact cu1 (Kd.C_below HR0_6.out HB.out)); (case side8 => exact HC0_6.out); (case side9 => exact cu1 (Kd.C_below HR1.out HB.out)); (case side10 => exact HC1.out); rintro e w137 ⟨v528, v531, rfl, ho0, ho1, hb⟩; have n0_ := Aside0.mk (Kd.R_lower ho0 (below_size bl)); have n1_ := Aside0.mk (Kd.R_lower ho1 (below_size bl)); have n2_ := Aside0.mk (blk_below (bu BK523.out) hb); have n3_ := Aside0.mk (blk_below (bu BK524.out) hb); have n4_ := Aside0.mk (below_step bl hb); clear BK523; clear BK524; clear HB; have HO529 := n0_; have HO532 := n1_; have BK523 := n2_; have BK524 := n3_; have HB := n4_; clear n0_ n1_ n2_ n3_ n4_; (try clear hb); (try clear hb2); (try clear hk); (try clear hi); (try clear ho0); (try clear ho1); have hcz138 := blk_cells BK524.out; have hfz138 := blk_frozens BK524.out) | (go_at_call 23; (with_reducible refine (cutting_Value.calls kj2 a0_0 a0_1 a0_2 _ _ l0_3 _ _ l0_4 _ _ l0_5 _ _ l0_6 _ _ l1 t534 t535 _ ?side1 ?side2 ?side3 ?side4 ?side5 ?side6 ?side7 ?side8 ?side9 ?side10 A17.out).mono ?_); (case side1 => exact cu1 (Kd.C_below HR0_3.out HB.out)); (case side2 => exact HC0_3.out); (case side3 => exact cu1 (Kd.C_below HR0_4.out HB.out)); (case side4 => exact HC0_4.out); (case side5 => exact cu1 (Kd.C_below HR0_5.out HB.out)); (case side6 => exact HC0_5.out); (case side7 => exact cu1 (Kd.C_below HR0_6.out HB.out)); (case side8 => exact HC0_6.out); (case side9 => exact cu1 (Kd.C_below HR1.out HB.out)); (case side10 => exact HC1.out); rintro e w139 ⟨rfl, hb⟩; have n0_ := Aside0.mk (Kd.R_below (ru HO529.out) hb); have n1_ := Aside0.mk (Kd.R_below (ru HO532.out) hb); have n2_ := Aside0.mk (blk_below (bu BK523.out) hb); have n3_ := Aside0.mk (blk_below (bu BK524.out) hb); have n4_ := Aside0.mk (below_step bl hb); clear HO529; clear HO532; clear BK523; clear BK524; clear HB; have HO529 := n0_; have HO532 := n1_; have BK523 := n2_; have BK524 := n3_; have HB := n4_; clear n0_ n1_ n2_ n3_ n4_; (try clear hb); (try clear hb2); (try clear hk); (try clear hi); obtain ⟨Ao140, co140, eo140⟩ := Kd.R_slice HO529.out; subst eo140; obtain ⟨Ao141, co141, eo141⟩ := Kd.R_slice HO532.out; subst eo141) | (go_at_call 18; (with_reducible refine (sawmilllaw17_awake.calls  t536 _ ?side1 A134.out).mono ?_); (case side1 => exact bu BK523.out); rintro e w142 ⟨rfl, hb⟩; have n0_ := Aside0.mk (Kd.R_below (ru HO529.out) hb); have n1_ := Aside0.mk (Kd.R_below (ru HO532.out) hb); have n2_ := Aside0.mk (blk_below (bu BK523.out) hb); have n3_ := Aside0.mk (blk_below (bu BK524.out) hb); have n4_ := Aside0.mk (below_step bl hb); clear HO529; clear HO532; clear BK523; clear BK524; clear HB; have HO529 := n0_; have HO532 := n1_; have BK523 := n2_; have BK524 := n3_; have HB := n4_; clear n0_ n1_ n2_ n3_ n4_; (try clear hb); (try clear hb2); (try clear hk); (try clear hi)))
     repeat (go_quiet (first | (go_at_call 21; (with_reducible refine (cutting_Cuts.calls kj2 a0_0 a0_1 a0_2 _ _ l0_3 _ _ l0_4 _ _ l0_5 _ _ l0_6 _ _ l1 t527 t530 t533 _ ?side1 ?side2 ?side3 ?side4 ?side5 ?side6 ?side7 ?side8 ?side9 ?side10 A16.out).mono ?_); (case side1 => exact cu1 (Kd.C_below HR0_3.out HB.out)); (case side2 => exact HC0_3.out); (case side3 => exact cu1 (Kd.C_below HR0_4.out HB.out)); (case side4 => exact HC0_4.out); (case side5 => exact cu1 (Kd.C_below HR0_5.out HB.out)); (case side6 => exact HC0_5.out); (case side7 => exact cu1 (Kd.C_below HR0_6.out HB.out)); (case side8 => exact HC0_6.out); (case side9 => exact cu1 (Kd.C_below HR1.out HB.out)); (case side10 => exact HC1.out); rintro e w137 ⟨v528, v531, rfl, ho0, ho1, hb⟩; have n0_ := Aside0.mk (Kd.R_lower ho0 (below_size bl)); have n1_ := Aside0.mk (Kd.R_lower ho1 (below_size bl)); have n2_ := Aside0.mk (blk_below (bu BK523.out) hb); have n3_ := Aside0.mk (blk_below (bu BK524.out) hb); have n4_ := Aside0.mk (below_step bl hb); clear BK523; clear BK524; clear HB; have HO529 := n0_; have HO532 := n1_; have BK523 := n2_; have BK524 := n3_; have HB := n4_; clear n0_ n1_ n2_ n3_ n4_; (try clear hb); (try clear hb2); (try clear hk); (try clear hi); (try clear ho0); (try clear ho1); have hcz138 := blk_cells BK524.out; have hfz138 := blk_frozens BK524.out) | (go_at_call 23; (with_reducible refine (cutting_Value.calls kj2 a0_0 a0_1 a0_2 _ _ l0_3 _ _ l0_4 _ _ l0_5 _ _ l0_6 _ _ l1 t534 t535 _ ?side1 ?side2 ?side3 ?side4 ?side5 ?side6 ?side7 ?side8 ?side9 ?side10 A17.out).mono ?_); (case side1 => exact cu1 (Kd.C_below HR0_3.out HB.out)); (case side2 => exact HC0_3.out); (case side3 => exact cu1 (Kd.C_below HR0_4.out HB.out)); (case side4 => exact HC0_4.out); (case side5 => exact cu1 (Kd.C_below HR0_5.out HB.out)); (case side6 => exact HC0_5.out); (case side7 => exact cu1 (Kd.C_below HR0_6.out HB.out)); (case side8 => exact HC0_6.out); (case side9 => exact cu1 (Kd.C_below HR1.out HB.out)); (case side10 => exact HC1.out); rintro e w139 ⟨rfl, hb⟩; have n0_ := Aside0.mk (Kd.R_below (ru HO529.out) hb); have n1_ := Aside0.mk (Kd.R_below (ru HO532.out) hb); have n2_ := Aside0.mk (blk_below (bu BK523.out) hb); have n3_ := Aside0.mk (blk_below (bu BK524.out) hb); have n4_ := Aside0.mk (below_step bl hb); clear HO529; clear HO532; clear BK523; clear BK524; clear HB; have HO529 := n0_; have HO532 := n1_; have BK523 := n2_; have BK524 := n3_; have HB := n4_; clear n0_ n1_ n2_ n3_ n4_; (try clear hb); (try clear hb2); (try clear hk); (try clear hi); obtain ⟨Ao140, co140, eo140⟩ := Kd.R_slice HO529.out; subst eo140; obtain ⟨Ao141, co141, eo141⟩ := Kd.R_slice HO532.out; subst eo141) | (go_at_call 18; (with_reducible refine (sawmilllaw17_awake.calls  t536 _ ?side1 A134.out).mono ?_); (case side1 => exact bu BK523.out); rintro e w142 ⟨rfl, hb⟩; have n0_ := Aside0.mk (Kd.R_below (ru HO529.out) hb); have n1_ := Aside0.mk (Kd.R_below (ru HO532.out) hb); have n2_ := Aside0.mk (blk_below (bu BK523.out) hb); have n3_ := Aside0.mk (blk_below (bu BK524.out) hb); have n4_ := Aside0.mk (below_step bl hb); clear HO529; clear HO532; clear BK523; clear BK524; clear HB; have HO529 := n0_; have HO532 := n1_; have BK523 := n2_; have BK524 := n3_; have HB := n4_; clear n0_ n1_ n2_ n3_ n4_; (try clear hb); (try clear hb2); (try clear hk); (try clear hi))); try go_wp2_with (first | (go_at_call 21; (with_reducible refine (cutting_Cuts.calls kj2 a0_0 a0_1 a0_2 _ _ l0_3 _ _ l0_4 _ _ l0_5 _ _ l0_6 _ _ l1 t527 t530 t533 _ ?side1 ?side2 ?side3 ?side4 ?side5 ?side6 ?side7 ?side8 ?side9 ?side10 A16.out).mono ?_); (case side1 => exact cu1 (Kd.C_below HR0_3.out HB.out)); (case side2 => exact HC0_3.out); (case side3 => exact cu1 (Kd.C_below HR0_4.out HB.out)); (case side4 => exact HC0_4.out); (case side5 => exact cu1 (Kd.C_below HR0_5.out HB.out)); (case side6 => exact HC0_5.out); (case side7 => exact cu1 (Kd.C_below HR0_6.out HB.out)); (case side8 => exact HC0_6.out); (case side9 => exact cu1 (Kd.C_below HR1.out HB.out)); (case side10 => exact HC1.out); rintro e w137 ⟨v528, v531, rfl, ho0, ho1, hb⟩; have n0_ := Aside0.mk (Kd.R_lower ho0 (below_size bl)); have n1_ := Aside0.mk (Kd.R_lower ho1 (below_size bl)); have n2_ := Aside0.mk (blk_below (bu BK523.out) hb); have n3_ := Aside0.mk (blk_below (bu BK524.out) hb); have n4_ := Aside0.mk (below_step bl hb); clear BK523; clear BK524; clear HB; have HO529 := n0_; have HO532 := n1_; have BK523 := n2_; have BK524 := n3_; have HB := n4_; clear n0_ n1_ n2_ n3_ n4_; (try clear hb); (try clear hb2); (try clear hk); (try clear hi); (try clear ho0); (try clear ho1); have hcz138 := blk_cells BK524.out; have hfz138 := blk_frozens BK524.out) | (go_at_call 23; (with_reducible refine (cutting_Value.calls kj2 a0_0 a0_1 a0_2 _ _ l0_3 _ _ l0_4 _ _ l0_5 _ _ l0_6 _ _ l1 t534 t535 _ ?side1 ?side2 ?side3 ?side4 ?side5 ?side6 ?side7 ?side8 ?side9 ?side10 A17.out).mono ?_); (case side1 => exact cu1 (Kd.C_below HR0_3.out HB.out)); (case side2 => exact HC0_3.out); (case side3 => exact cu1 (Kd.C_below HR0_4.out HB.out)); (case side4 => exact HC0_4.out); (case side5 => exact cu1 (Kd.C_below HR0_5.out HB.out)); (case side6 => exact HC0_5.out); (case side7 => exact cu1 (Kd.C_below HR0_6.out HB.out)); (case side8 => exact HC0_6.out); (case side9 => exact cu1 (Kd.C_below HR1.out HB.out)); (case side10 => exact HC1.out); rintro e w139 ⟨rfl, hb⟩; have n0_ := Aside0.mk (Kd.R_below (ru HO529.out) hb); have n1_ := Aside0.mk (Kd.R_below (ru HO532.out) hb); have n2_ := Aside0.mk (blk_below (bu BK523.out) hb); have n3_ := Aside0.mk (blk_below (bu BK524.out) hb); have n4_ := Aside0.mk (below_step bl hb); clear HO529; clear HO532; clear BK523; clear BK524; clear HB; have HO529 := n0_; have HO532 := n1_; have BK523 := n2_; have BK524 := n3_; have HB := n4_; clear n0_ n1_ n2_ n3_ n4_; (try clear hb); (try clear hb2); (try clear hk); (try clear hi); obtain ⟨Ao140, co140, eo140⟩ := Kd.R_slice HO529.out; subst eo140; obtain ⟨Ao141, co141, eo141⟩ := Kd.R_slice HO532.out; subst eo141) | (go_at_call 18; (with_reducible refine (sawmilllaw17_awake.calls  t536 _ ?side1 A134.out).mono ?_); (case side1 => exact bu BK523.out); rintro e w142 ⟨rfl, hb⟩; have n0_ := Aside0.mk (Kd.R_below (ru HO529.out) hb); have n1_ := Aside0.mk (Kd.R_below (ru HO532.out) hb); have n2_ := Aside0.mk (blk_below (bu BK523.out) hb); have n3_ := Aside0.mk (blk_below (bu BK524.out) hb); have n4_ := Aside0.mk (below_step bl hb); clear HO529; clear HO532; clear BK523; clear BK524; clear HB; have HO529 := n0_; have HO532 := n1_; have BK523 := n2_; have BK524 := n3_; have HB := n4_; clear n0_ n1_ n2_ n3_ n4_; (try clear hb); (try clear hb2); (try clear hk); (try clear hi))))
     go_ret
     exact ⟨fe1, bl⟩
   rw [if_pos c19] at H
   have c19b0 : (t533 == 0) = true := beq_iff_eq.mpr c19
   have c19b1 : (t533 != 0) = false := bne_eq_false_iff_eq.mpr c19
   clear c19
   have HC20 := Aside0.mk H
   clear H
   have hnb21 := NB524_523.out
   have hnc21 := NB523_524.out
   have hcz22 := blk_cells BK524.out
   have hfz22 := blk_frozens BK524.out
   go_upto_region 9 with (first | (go_at_call 21; (with_reducible refine (cutting_Cuts.calls kj2 a0_0 a0_1 a0_2 _ _ l0_3 _ _ l0_4 _ _ l0_5 _ _ l0_6 _ _ l1 t527 t530 t533 _ ?side1 ?side2 ?side3 ?side4 ?side5 ?side6 ?side7 ?side8 ?side9 ?side10 A16.out).mono ?_); (case side1 => exact cu1 (Kd.C_below HR0_3.out HB.out)); (case side2 => exact HC0_3.out); (case side3 => exact cu1 (Kd.C_below HR0_4.out HB.out)); (case side4 => exact HC0_4.out); (case side5 => exact cu1 (Kd.C_below HR0_5.out HB.out)); (case side6 => exact HC0_5.out); (case side7 => exact cu1 (Kd.C_below HR0_6.out HB.out)); (case side8 => exact HC0_6.out); (case side9 => exact cu1 (Kd.C_below HR1.out HB.out)); (case side10 => exact HC1.out); rintro e w23 ⟨v528, v531, rfl, ho0, ho1, hb⟩; have n0_ := Aside0.mk (Kd.R_lower ho0 (below_size bl)); have n1_ := Aside0.mk (Kd.R_lower ho1 (below_size bl)); have n2_ := Aside0.mk (blk_below (bu BK523.out) hb); have n3_ := Aside0.mk (blk_below (bu BK524.out) hb); have n4_ := Aside0.mk (below_step bl hb); clear BK523; clear BK524; clear HB; have HO529 := n0_; have HO532 := n1_; have BK523 := n2_; have BK524 := n3_; have HB := n4_; clear n0_ n1_ n2_ n3_ n4_; (try clear hb); (try clear hb2); (try clear hk); (try clear hi); (try clear ho0); (try clear ho1); have hcz24 := blk_cells BK524.out; have hfz24 := blk_frozens BK524.out) | (go_at_call 23; (with_reducible refine (cutting_Value.calls kj2 a0_0 a0_1 a0_2 _ _ l0_3 _ _ l0_4 _ _ l0_5 _ _ l0_6 _ _ l1 t534 t535 _ ?side1 ?side2 ?side3 ?side4 ?side5 ?side6 ?side7 ?side8 ?side9 ?side10 A17.out).mono ?_); (case side1 => exact cu1 (Kd.C_below HR0_3.out HB.out)); (case side2 => exact HC0_3.out); (case side3 => exact cu1 (Kd.C_below HR0_4.out HB.out)); (case side4 => exact HC0_4.out); (case side5 => exact cu1 (Kd.C_below HR0_5.out HB.out)); (case side6 => exact HC0_5.out); (case side7 => exact cu1 (Kd.C_below HR0_6.out HB.out)); (case side8 => exact HC0_6.out); (case side9 => exact cu1 (Kd.C_below HR1.out HB.out)); (case side10 => exact HC1.out); rintro e w25 ⟨rfl, hb⟩; have n0_ := Aside0.mk (Kd.R_below (ru HO529.out) hb); have n1_ := Aside0.mk (Kd.R_below (ru HO532.out) hb); have n2_ := Aside0.mk (blk_below (bu BK523.out) hb); have n3_ := Aside0.mk (blk_below (bu BK524.out) hb); have n4_ := Aside0.mk (below_step bl hb); clear HO529; clear HO532; clear BK523; clear BK524; clear HB; have HO529 := n0_; have HO532 := n1_; have BK523 := n2_; have BK524 := n3_; have HB := n4_; clear n0_ n1_ n2_ n3_ n4_; (try clear hb); (try clear hb2); (try clear hk); (try clear hi)))
   repeat (go_quiet (first | (go_at_call 21; (with_reducible refine (cutting_Cuts.calls kj2 a0_0 a0_1 a0_2 _ _ l0_3 _ _ l0_4 _ _ l0_5 _ _ l0_6 _ _ l1 t527 t530 t533 _ ?side1 ?side2 ?side3 ?side4 ?side5 ?side6 ?side7 ?side8 ?side9 ?side10 A16.out).mono ?_); (case side1 => exact cu1 (Kd.C_below HR0_3.out HB.out)); (case side2 => exact HC0_3.out); (case side3 => exact cu1 (Kd.C_below HR0_4.out HB.out)); (case side4 => exact HC0_4.out); (case side5 => exact cu1 (Kd.C_below HR0_5.out HB.out)); (case side6 => exact HC0_5.out); (case side7 => exact cu1 (Kd.C_below HR0_6.out HB.out)); (case side8 => exact HC0_6.out); (case side9 => exact cu1 (Kd.C_below HR1.out HB.out)); (case side10 => exact HC1.out); rintro e w23 ⟨v528, v531, rfl, ho0, ho1, hb⟩; have n0_ := Aside0.mk (Kd.R_lower ho0 (below_size bl)); have n1_ := Aside0.mk (Kd.R_lower ho1 (below_size bl)); have n2_ := Aside0.mk (blk_below (bu BK523.out) hb); have n3_ := Aside0.mk (blk_below (bu BK524.out) hb); have n4_ := Aside0.mk (below_step bl hb); clear BK523; clear BK524; clear HB; have HO529 := n0_; have HO532 := n1_; have BK523 := n2_; have BK524 := n3_; have HB := n4_; clear n0_ n1_ n2_ n3_ n4_; (try clear hb); (try clear hb2); (try clear hk); (try clear hi); (try clear ho0); (try clear ho1); have hcz24 := blk_cells BK524.out; have hfz24 := blk_frozens BK524.out) | (go_at_call 23; (with_reducible refine (cutting_Value.calls kj2 a0_0 a0_1 a0_2 _ _ l0_3 _ _ l0_4 _ _ l0_5 _ _ l0_6 _ _ l1 t534 t535 _ ?side1 ?side2 ?side3 ?side4 ?side5 ?side6 ?side7 ?side8 ?side9 ?side10 A17.out).mono ?_); (case side1 => exact cu1 (Kd.C_below HR0_3.out HB.out)); (case side2 => exact HC0_3.out); (case side3 => exact cu1 (Kd.C_below HR0_4.out HB.out)); (case side4 => exact HC0_4.out); (case side5 => exact cu1 (Kd.C_below HR0_5.out HB.out)); (case side6 => exact HC0_5.out); (case side7 => exact cu1 (Kd.C_below HR0_6.out HB.out)); (case side8 => exact HC0_6.out); (case side9 => exact cu1 (Kd.C_below HR1.out HB.out)); (case side10 => exact HC1.out); rintro e w25 ⟨rfl, hb⟩; have n0_ := Aside0.mk (Kd.R_below (ru HO529.out) hb); have n1_ := Aside0.mk (Kd.R_below (ru HO532.out) hb); have n2_ := Aside0.mk (blk_below (bu BK523.out) hb); have n3_ := Aside0.mk (blk_below (bu BK524.out) hb); have n4_ := Aside0.mk (below_step bl hb); clear HO529; clear HO532; clear BK523; clear BK524; clear HB; have HO529 := n0_; have HO532 := n1_; have BK523 := n2_; have BK524 := n3_; have HB := n4_; clear n0_ n1_ n2_ n3_ n4_; (try clear hb); (try clear hb2); (try clear hk); (try clear hi))); go_upto_region 9 with (first | (go_at_call 21; (with_reducible refine (cutting_Cuts.calls kj2 a0_0 a0_1 a0_2 _ _ l0_3 _ _ l0_4 _ _ l0_5 _ _ l0_6 _ _ l1 t527 t530 t533 _ ?side1 ?side2 ?side3 ?side4 ?side5 ?side6 ?side7 ?side8 ?side9 ?side10 A16.out).mono ?_); (case side1 => exact cu1 (Kd.C_below HR0_3.out HB.out)); (case side2 => exact HC0_3.out); (case side3 => exact cu1 (Kd.C_below HR0_4.out HB.out)); (case side4 => exact HC0_4.out); (case side5 => exact cu1 (Kd.C_below HR0_5.out HB.out)); (case side6 => exact HC0_5.out); (case side7 => exact cu1 (Kd.C_below HR0_6.out HB.out)); (case side8 => exact HC0_6.out); (case side9 => exact cu1 (Kd.C_below HR1.out HB.out)); (case side10 => exact HC1.out); rintro e w23 ⟨v528, v531, rfl, ho0, ho1, hb⟩; have n0_ := Aside0.mk (Kd.R_lower ho0 (below_size bl)); have n1_ := Aside0.mk (Kd.R_lower ho1 (below_size bl)); have n2_ := Aside0.mk (blk_below (bu BK523.out) hb); have n3_ := Aside0.mk (blk_below (bu BK524.out) hb); have n4_ := Aside0.mk (below_step bl hb); clear BK523; clear BK524; clear HB; have HO529 := n0_; have HO532 := n1_; have BK523 := n2_; have BK524 := n3_; have HB := n4_; clear n0_ n1_ n2_ n3_ n4_; (try clear hb); (try clear hb2); (try clear hk); (try clear hi); (try clear ho0); (try clear ho1); have hcz24 := blk_cells BK524.out; have hfz24 := blk_frozens BK524.out) | (go_at_call 23; (with_reducible refine (cutting_Value.calls kj2 a0_0 a0_1 a0_2 _ _ l0_3 _ _ l0_4 _ _ l0_5 _ _ l0_6 _ _ l1 t534 t535 _ ?side1 ?side2 ?side3 ?side4 ?side5 ?side6 ?side7 ?side8 ?side9 ?side10 A17.out).mono ?_); (case side1 => exact cu1 (Kd.C_below HR0_3.out HB.out)); (case side2 => exact HC0_3.out); (case side3 => exact cu1 (Kd.C_below HR0_4.out HB.out)); (case side4 => exact HC0_4.out); (case side5 => exact cu1 (Kd.C_below HR0_5.out HB.out)); (case side6 => exact HC0_5.out); (case side7 => exact cu1 (Kd.C_below HR0_6.out HB.out)); (case side8 => exact HC0_6.out); (case side9 => exact cu1 (Kd.C_below HR1.out HB.out)); (case side10 => exact HC1.out); rintro e w25 ⟨rfl, hb⟩; have n0_ := Aside0.mk (Kd.R_below (ru HO529.out) hb); have n1_ := Aside0.mk (Kd.R_below (ru HO532.out) hb); have n2_ := Aside0.mk (blk_below (bu BK523.out) hb); have n3_ := Aside0.mk (blk_below (bu BK524.out) hb); have n4_ := Aside0.mk (below_step bl hb); clear HO529; clear HO532; clear BK523; clear BK524; clear HB; have HO529 := n0_; have HO532 := n1_; have BK523 := n2_; have BK524 := n3_; have HB := n4_; clear n0_ n1_ n2_ n3_ n4_; (try clear hb); (try clear hb2); (try clear hk); (try clear hi))))
   (try simp only [Act.put, List.setIfInBounds_toArray, List.set_cons_zero, List.set_cons_succ])
   go_cut [85] (fun v85 wc => ∃ (kq : Nat) (x85_19 : Bool), v85 = .bool x85_19 ∧ Aside0 (sawmilllaw17_CuttingParts.j1 kq l1 t527 t530 t534 x85_19 a0_0 a0_1 a0_2 l0_3 l0_4 l0_5 l0_6 = some r) ∧ Aside0 (kq ≤ kj2) ∧ Aside0 (Kd.R k49 49 wc w.heap.size (fun k_ => some k_ ≠ (v531 : Value).ownBlock) v528 t527) ∧ Aside0 (Kd.R k49 49 wc w.heap.size (fun k_ => some k_ ≠ (v528 : Value).ownBlock) v531 t530) ∧ Aside0 (wc.heap[0]? = some (.cells #[.int .i64 (-1), .int .i64 (-1), .int .i64 0] 97 (0, 0))) ∧ Aside0 (wc.heap[gb524]? = some (.cells #[.int .i64 a0_0, .int .i64 a0_1, .int .i64 a0_2, (.slice A0_3 l0_3.length c0_3), (.slice A0_4 l0_4.length c0_4), (.slice A0_5 l0_5.length c0_5), (.slice A0_6 l0_6.length c0_6)] 25 (0, 0))) ∧ Aside0 (Below w.heap.size w wc))
   case first =>
    have H := HC20.out
    clear HC20
    as_aux_lemma =>
     by_cases c26 : a0_0 < 0
     · rw [if_pos c26] at H
       have c26b0 : decide (a0_0 < 0) = true := decide_eq_true c26
       clear c26
       (first | rw [c26b0] | (simp only [i64_w, i32_w]; rw [c26b0]) | skip)
       have H' := Aside0.mk H
       clear H
       have hnb27 := NB524_523.out
       have hnc27 := NB523_524.out
       have hcz28 := blk_cells BK524.out
       have hfz28 := blk_frozens BK524.out
       exact L9_2
     rw [if_neg c26] at H
     have c26b0 : decide (a0_0 < 0) = false := decide_eq_false c26
     clear c26
     (first | rw [c26b0] | (simp only [i64_w, i32_w]; rw [c26b0]) | skip)
     by_cases c29 : a0_0 > 2000
     · rw [if_pos c29] at H
       have c29b0 : decide (2000 < a0_0) = true := decide_eq_true c29
       clear c29
       have H' := Aside0.mk H
       clear H
       have hnb30 := NB524_523.out
       have hnc30 := NB523_524.out
       have hcz31 := blk_cells BK524.out
       have hfz31 := blk_frozens BK524.out
       exact L9_2
     rw [if_neg c29] at H
     have c29b0 : decide (2000 < a0_0) = false := decide_eq_false c29
     clear c29
     by_cases c32 : (l0_5.length : Int) = a0_0
     rotate_left
     · rw [if_neg c32] at H
       have c32b0 : ((l0_5.length : Int) == a0_0) = false := beq_eq_false_iff_ne.mpr c32
       have c32b1 : ((l0_5.length : Int) != a0_0) = true := bne_iff_ne.mpr c32
       have H' := Aside0.mk H
       clear H
       have hnb35 := NB524_523.out
       have hnc35 := NB523_524.out
       have hcz36 := blk_cells BK524.out
       have hfz36 := blk_frozens BK524.out
       exact L9_2
     rw [if_pos c32] at H
     have c32b0 : ((l0_5.length : Int) == a0_0) = true := beq_iff_eq.mpr c32
     have c32b1 : ((l0_5.length : Int) != a0_0) = false := bne_eq_false_iff_eq.mpr c32
     clear c32
     have H' := Aside0.mk H
     clear H
     have hnb33 := NB524_523.out
     have hnc33 := NB523_524.out
     have hcz34 := blk_cells BK524.out
     have hfz34 := blk_frozens BK524.out
     go_wp2
     repeat (go_quiet (fail); try go_wp2)
     go_meet
     case rel => exact ⟨_, (((l0_6.length : Int) != a0_0)), rs1, H', ⟨by have := HJ2.out; first | omega | exact Nat.le_refl _⟩, ⟨by (with_reducible repeat (first | apply Kd.R_alloc | apply Kd.R_drewN | apply Kd.R_drew)); exact HO529.out⟩, ⟨by (with_reducible repeat (first | apply Kd.R_alloc | apply Kd.R_drewN | apply Kd.R_drew)); exact HO532.out⟩, ⟨bu BK523.out⟩, ⟨bu BK524.out⟩, ⟨bl⟩⟩
   clear HC20; (try clear c1); (try clear c2); (try clear p2); (try clear c3); (try clear c6); (try clear c7); (try clear c9); (try clear c10); (try clear c13); (try clear c18); (try clear c18b0); (try clear c18b1); (try clear c19); (try clear c19b0); (try clear c19b1); (try clear c21); (try clear c26); (try clear c26b0); (try clear c27); (try clear c29); (try clear c29b0); (try clear c30); (try clear c32); (try clear c32b0); (try clear c32b1); (try clear c33); (try clear c35); (try clear hcz11); (try clear hcz22); (try clear hcz24); (try clear hcz28); (try clear hcz31); (try clear hcz34); (try clear hcz36); (try clear hcz8); (try clear hfz11); (try clear hfz22); (try clear hfz24); (try clear hfz28); (try clear hfz31); (try clear hfz34); (try clear hfz36); (try clear hfz8); (try clear p2)
   obtain ⟨kq, x85_19, rfl, HA, HJ19, HO_5, HO_6, BK523, BK524, HB⟩ := hcut
   rcases kq with _ | kj19
   · exact absurd HA.out (by simp [sawmilllaw17_CuttingParts.j1])
   have H := HA.out
   clear HA
   simp only [sawmilllaw17_CuttingParts.j1] at H
   as_aux_lemma =>
    by_cases c37 : x85_19 = true
    · subst c37
      have H1 : (some false) = some r := by rw [if_pos rfl] at H; exact H
      clear H
      have H := H1
      clear H1
      obtain rfl := Option.some.inj H
      go_wp2
      repeat (go_quiet (fail); try go_wp2)
      go_ret
      exact ⟨fe1, bl⟩
    replace c37 := Bool.eq_false_iff.mpr c37
    subst c37
    have H1 : (if 0 ≤ a0_0 then (if (a0_0 : Int).toNat ≤ 35184372088832 then ((sawmilllaw17_mark.f kj19 (List.replicate (a0_0 : Int).toNat 0) t527).bind fun bt540 => (if bt540.1 = true then ((sawmilllaw17_mark.f kj19 bt540.2 t530).bind fun bt542 => (sawmilllaw17_CuttingParts.j2 kj19 l1 t527 t530 t534 bt542.2 (!bt542.1) a0_0 a0_1 a0_2 l0_3 l0_4 l0_5 l0_6)) else (sawmilllaw17_CuttingParts.j2 kj19 l1 t527 t530 t534 bt540.2 true a0_0 a0_1 a0_2 l0_3 l0_4 l0_5 l0_6))) else (none)) else (none)) = some r := by rw [if_neg (show ¬ (false = true) by decide)] at H; exact H
    clear H
    have H := H1
    clear H1
    obtain ⟨c38, H⟩ := gd1 H
    have c38b0 := eq_true c38
    have c38b1 : decide (0 ≤ a0_0) = true := decide_eq_true c38
    clear c38
    obtain ⟨c39, H⟩ := gd1 H
    have c39b0 := eq_true c39
    have c39b1 : decide ((a0_0 : Int).toNat ≤ 35184372088832) = true := decide_eq_true c39
    clear c39
    obtain ⟨y537, hy537⟩ : ∃ y_ : List Int, y_ = (List.replicate (a0_0 : Int).toNat 0) := ⟨_, rfl⟩
    replace H : ((sawmilllaw17_mark.f kj19 y537 t527).bind fun bt540 => (if bt540.1 = true then ((sawmilllaw17_mark.f kj19 bt540.2 t530).bind fun bt542 => (sawmilllaw17_CuttingParts.j2 kj19 l1 t527 t530 t534 bt542.2 (!bt542.1) a0_0 a0_1 a0_2 l0_3 l0_4 l0_5 l0_6)) else (sawmilllaw17_CuttingParts.j2 kj19 l1 t527 t530 t534 bt540.2 true a0_0 a0_1 a0_2 l0_3 l0_4 l0_5 l0_6))) = some r := by first | (rw [hy537]; with_reducible exact H) | (have H2_ := (Option.bind_some _ _).symm.trans H; rw [hy537]; with_reducible exact H2_) | (have H2_ := (Option.bind_some _ _).symm.trans H; with_reducible exact H2_) | with_reducible exact H | (rw [hy537]; exact H) | exact H
    have Ny537 := Aside0.mk hy537
    clear hy537
    have HC40 := Aside0.mk H
    clear H
    have hnb41 := NB524_523.out
    have hnc41 := NB523_524.out
    have hcz42 := blk_cells BK524.out
    have hfz42 := blk_frozens BK524.out
    go_upto_region 12 with (first | ((with_reducible refine gate_dst (N := 88) rfl ?_); (try (refine gate_guard (by rfl) ?_; dsimp only)); refine Kd.R_make (Kd.int .i64) _ 3 rfl (N := 88) rfl 22 _ _ rfl a0_0 rfl rfl Tryd.underlying22 (.int .i64 0) 8 info3 rfl (by decide) (by omega) 0 (ok := fun _ => True) (okp := fun _ => True) rfl (fun _ hk => hk) trivial (da1) (Nat.le_trans (Nat.mul_le_mul_right _ (da1 : a0_0.toNat ≤ 35184372088832)) (by omega)) (Below.refl _ _) (Nat.le_refl _) ?_; intro v538 w43 ho44 hb hg_ hnew_; clear hg_ hnew_; (first | rw [← Ny537.out] at ho44 | (simp only [Int.reduceToNat] at ho44; rw [← Ny537.out] at ho44)); have n0_ := Aside0.mk (Kd.R_below (ru HO_5.out) hb); have n1_ := Aside0.mk (Kd.R_below (ru HO_6.out) hb); have n2_ := Aside0.mk (Kd.R_lower ho44 (below_size bl)); have n3_ := Aside0.mk (blk_below (bu BK523.out) hb); have n4_ := Aside0.mk (blk_below (bu BK524.out) hb); have n5_ := Aside0.mk (below_step bl hb); clear HO_5; clear HO_6; clear BK523; clear BK524; clear HB; have HO_5 := n0_; have HO_6 := n1_; have HO539 := n2_; have BK523 := n3_; have BK524 := n4_; have HB := n5_; clear n0_ n1_ n2_ n3_ n4_ n5_; clear hb ho44))
    repeat (go_quiet (first | ((with_reducible refine gate_dst (N := 88) rfl ?_); (try (refine gate_guard (by rfl) ?_; dsimp only)); refine Kd.R_make (Kd.int .i64) _ 3 rfl (N := 88) rfl 22 _ _ rfl a0_0 rfl rfl Tryd.underlying22 (.int .i64 0) 8 info3 rfl (by decide) (by omega) 0 (ok := fun _ => True) (okp := fun _ => True) rfl (fun _ hk => hk) trivial (da1) (Nat.le_trans (Nat.mul_le_mul_right _ (da1 : a0_0.toNat ≤ 35184372088832)) (by omega)) (Below.refl _ _) (Nat.le_refl _) ?_; intro v538 w43 ho44 hb hg_ hnew_; clear hg_ hnew_; (first | rw [← Ny537.out] at ho44 | (simp only [Int.reduceToNat] at ho44; rw [← Ny537.out] at ho44)); have n0_ := Aside0.mk (Kd.R_below (ru HO_5.out) hb); have n1_ := Aside0.mk (Kd.R_below (ru HO_6.out) hb); have n2_ := Aside0.mk (Kd.R_lower ho44 (below_size bl)); have n3_ := Aside0.mk (blk_below (bu BK523.out) hb); have n4_ := Aside0.mk (blk_below (bu BK524.out) hb); have n5_ := Aside0.mk (below_step bl hb); clear HO_5; clear HO_6; clear BK523; clear BK524; clear HB; have HO_5 := n0_; have HO_6 := n1_; have HO539 := n2_; have BK523 := n3_; have BK524 := n4_; have HB := n5_; clear n0_ n1_ n2_ n3_ n4_ n5_; clear hb ho44)); go_upto_region 12 with (first | ((with_reducible refine gate_dst (N := 88) rfl ?_); (try (refine gate_guard (by rfl) ?_; dsimp only)); refine Kd.R_make (Kd.int .i64) _ 3 rfl (N := 88) rfl 22 _ _ rfl a0_0 rfl rfl Tryd.underlying22 (.int .i64 0) 8 info3 rfl (by decide) (by omega) 0 (ok := fun _ => True) (okp := fun _ => True) rfl (fun _ hk => hk) trivial (da1) (Nat.le_trans (Nat.mul_le_mul_right _ (da1 : a0_0.toNat ≤ 35184372088832)) (by omega)) (Below.refl _ _) (Nat.le_refl _) ?_; intro v538 w43 ho44 hb hg_ hnew_; clear hg_ hnew_; (first | rw [← Ny537.out] at ho44 | (simp only [Int.reduceToNat] at ho44; rw [← Ny537.out] at ho44)); have n0_ := Aside0.mk (Kd.R_below (ru HO_5.out) hb); have n1_ := Aside0.mk (Kd.R_below (ru HO_6.out) hb); have n2_ := Aside0.mk (Kd.R_lower ho44 (below_size bl)); have n3_ := Aside0.mk (blk_below (bu BK523.out) hb); have n4_ := Aside0.mk (blk_below (bu BK524.out) hb); have n5_ := Aside0.mk (below_step bl hb); clear HO_5; clear HO_6; clear BK523; clear BK524; clear HB; have HO_5 := n0_; have HO_6 := n1_; have HO539 := n2_; have BK523 := n3_; have BK524 := n4_; have HB := n5_; clear n0_ n1_ n2_ n3_ n4_ n5_; clear hb ho44)))
    (try simp only [Act.put, List.setIfInBounds_toArray, List.set_cons_zero, List.set_cons_succ])
    go_cut [98] (fun v98 wc => ∃ (kq : Nat) (x10_39 : List Int) (x98_39 : Bool), v98 = .bool x98_39 ∧ Aside0 (sawmilllaw17_CuttingParts.j2 kq l1 t527 t530 t534 x10_39 x98_39 a0_0 a0_1 a0_2 l0_3 l0_4 l0_5 l0_6 = some r) ∧ Aside0 (kq ≤ kj19) ∧ Aside0 (Kd.R k49 49 wc w.heap.size (fun k_ => some k_ ≠ (v531 : Value).ownBlock) v528 t527) ∧ Aside0 (Kd.R k49 49 wc w.heap.size (fun k_ => some k_ ≠ (v528 : Value).ownBlock) v531 t530) ∧ Aside0 (Kd.R (Kd.int .i64) 3 wc w.heap.size (fun _ => True) v538 x10_39) ∧ Aside0 (wc.heap[0]? = some (.cells #[.int .i64 (-1), .int .i64 (-1), .int .i64 0] 97 (0, 0))) ∧ Aside0 (wc.heap[gb524]? = some (.cells #[.int .i64 a0_0, .int .i64 a0_1, .int .i64 a0_2, (.slice A0_3 l0_3.length c0_3), (.slice A0_4 l0_4.length c0_4), (.slice A0_5 l0_5.length c0_5), (.slice A0_6 l0_6.length c0_6)] 25 (0, 0))) ∧ Aside0 (Below w.heap.size w wc))
    case first =>
     have H := HC40.out
     clear HC40
     replace H := Option.bind_eq_some_iff.mp H
     obtain ⟨⟨t540, t541⟩, A450, H⟩ := H
     replace H : (if t540 = true then ((sawmilllaw17_mark.f kj19 t541 t530).bind fun bt542 => (sawmilllaw17_CuttingParts.j2 kj19 l1 t527 t530 t534 bt542.2 (!bt542.1) a0_0 a0_1 a0_2 l0_3 l0_4 l0_5 l0_6)) else (sawmilllaw17_CuttingParts.j2 kj19 l1 t527 t530 t534 t541 true a0_0 a0_1 a0_2 l0_3 l0_4 l0_5 l0_6)) = some r := H
     have A45 := Aside0.mk A450
     clear A450
     as_aux_lemma =>
      by_cases c46 : t540 = true
      rotate_left
      · replace c46 := Bool.eq_false_iff.mpr c46
        subst c46
        have H1 : (sawmilllaw17_CuttingParts.j2 kj19 l1 t527 t530 t534 t541 true a0_0 a0_1 a0_2 l0_3 l0_4 l0_5 l0_6) = some r := by rw [if_neg (show ¬ (false = true) by decide)] at H; exact H
        clear H
        have H := H1
        clear H1
        have H' := Aside0.mk H
        clear H
        obtain ⟨Ao53, co53, eo53⟩ := Kd.R_slice HO539.out
        subst eo53
        obtain ⟨Ao54, co54, eo54⟩ := Kd.R_slice HO_5.out
        subst eo54
        go_wp2_with (first | (go_at_call 39; (with_reducible refine (sawmilllaw17_mark.calls kj19 (fun k_ => some k_ = (.slice Ao53 y537.length co53 : Value).ownBlock) (.slice Ao53 y537.length co53) y537 _ _ t527 false t541 w _ ?side1 ?side2 ?side3 ?side4 A45.out).mono ?_); (case side1 => repeat (first | (with_reducible first | exact HB.out | apply below_alloc | apply pw_below_drewN | apply below_drew1 | refine below_set ?_ GE523.out | refine below_set ?_ GE524.out) | exact HB.out)); (case side2 => exact Kd.R_tight rfl HO539.out); (case side3 => exact Kd.C_kept_own ((Kd.R_apart' HO_5.out (Kd.R_typed HO539.out) (by decide))) (fun k_ hk_ hs_ => (hk_.2) hs_)); (case side4 => exact (Kd.R_reads' HO_5.out).2.1); rintro e w55 ⟨rfl, hy0, hb, hkp⟩; have n0_ := Aside0.mk (Kd.R_mono (ok' := fun k_ => some k_ ≠ (v531 : Value).ownBlock) (Kd.R_keptB ((Kd.R_apart' HO_5.out (Kd.R_typed HO539.out) (by decide))) hkp (fun k_ hk_ hs_ => (hk_.2) hs_)) (fun k_ hk_ => hk_.1.1)); have n1_ := Aside0.mk (Kd.R_mono (ok' := fun k_ => some k_ ≠ (.slice Ao54 t527.length co54 : Value).ownBlock) (Kd.R_keptB ((Kd.R_apart' HO_6.out (Kd.R_typed HO539.out) (by decide))) hkp (fun k_ hk_ hs_ => (hk_.2) hs_)) (fun k_ hk_ => hk_.1.1)); have n2_ := Aside0.mk (blk_kept (by first | (with_reducible exact BK523.out) | (with_reducible exact blk_drewN BK523.out _) | exact bu BK523.out) hkp (fun hs_ => (fun e_ => (Kd.R_ne HO539.out BK523.out (by decide)) e_) hs_)); have n3_ := Aside0.mk (blk_kept (by first | (with_reducible exact BK524.out) | (with_reducible exact blk_drewN BK524.out _) | exact bu BK524.out) hkp (fun hs_ => (fun e_ => (Kd.R_ne HO539.out BK524.out (by decide)) e_) hs_)); have n4_ := Aside0.mk (Kd.R_reok rfl hy0 (fun k_ e_ => HO539.out.1 k_ e_)); have n5_ := Aside0.mk (hb); clear HO_5; clear HO_6; clear BK523; clear BK524; clear HO539; clear HB; have HO_5 := n0_; have HO_6 := n1_; have BK523 := n2_; have BK524 := n3_; have HO539 := n4_; have HB := n5_; clear n0_ n1_ n2_ n3_ n4_ n5_; (try clear hb); (try clear hkp); (try clear hy0)))
        repeat (go_quiet (first | (go_at_call 39; (with_reducible refine (sawmilllaw17_mark.calls kj19 (fun k_ => some k_ = (.slice Ao53 y537.length co53 : Value).ownBlock) (.slice Ao53 y537.length co53) y537 _ _ t527 false t541 w _ ?side1 ?side2 ?side3 ?side4 A45.out).mono ?_); (case side1 => repeat (first | (with_reducible first | exact HB.out | apply below_alloc | apply pw_below_drewN | apply below_drew1 | refine below_set ?_ GE523.out | refine below_set ?_ GE524.out) | exact HB.out)); (case side2 => exact Kd.R_tight rfl HO539.out); (case side3 => exact Kd.C_kept_own ((Kd.R_apart' HO_5.out (Kd.R_typed HO539.out) (by decide))) (fun k_ hk_ hs_ => (hk_.2) hs_)); (case side4 => exact (Kd.R_reads' HO_5.out).2.1); rintro e w55 ⟨rfl, hy0, hb, hkp⟩; have n0_ := Aside0.mk (Kd.R_mono (ok' := fun k_ => some k_ ≠ (v531 : Value).ownBlock) (Kd.R_keptB ((Kd.R_apart' HO_5.out (Kd.R_typed HO539.out) (by decide))) hkp (fun k_ hk_ hs_ => (hk_.2) hs_)) (fun k_ hk_ => hk_.1.1)); have n1_ := Aside0.mk (Kd.R_mono (ok' := fun k_ => some k_ ≠ (.slice Ao54 t527.length co54 : Value).ownBlock) (Kd.R_keptB ((Kd.R_apart' HO_6.out (Kd.R_typed HO539.out) (by decide))) hkp (fun k_ hk_ hs_ => (hk_.2) hs_)) (fun k_ hk_ => hk_.1.1)); have n2_ := Aside0.mk (blk_kept (by first | (with_reducible exact BK523.out) | (with_reducible exact blk_drewN BK523.out _) | exact bu BK523.out) hkp (fun hs_ => (fun e_ => (Kd.R_ne HO539.out BK523.out (by decide)) e_) hs_)); have n3_ := Aside0.mk (blk_kept (by first | (with_reducible exact BK524.out) | (with_reducible exact blk_drewN BK524.out _) | exact bu BK524.out) hkp (fun hs_ => (fun e_ => (Kd.R_ne HO539.out BK524.out (by decide)) e_) hs_)); have n4_ := Aside0.mk (Kd.R_reok rfl hy0 (fun k_ e_ => HO539.out.1 k_ e_)); have n5_ := Aside0.mk (hb); clear HO_5; clear HO_6; clear BK523; clear BK524; clear HO539; clear HB; have HO_5 := n0_; have HO_6 := n1_; have BK523 := n2_; have BK524 := n3_; have HO539 := n4_; have HB := n5_; clear n0_ n1_ n2_ n3_ n4_ n5_; (try clear hb); (try clear hkp); (try clear hy0))); try go_wp2_with (first | (go_at_call 39; (with_reducible refine (sawmilllaw17_mark.calls kj19 (fun k_ => some k_ = (.slice Ao53 y537.length co53 : Value).ownBlock) (.slice Ao53 y537.length co53) y537 _ _ t527 false t541 w _ ?side1 ?side2 ?side3 ?side4 A45.out).mono ?_); (case side1 => repeat (first | (with_reducible first | exact HB.out | apply below_alloc | apply pw_below_drewN | apply below_drew1 | refine below_set ?_ GE523.out | refine below_set ?_ GE524.out) | exact HB.out)); (case side2 => exact Kd.R_tight rfl HO539.out); (case side3 => exact Kd.C_kept_own ((Kd.R_apart' HO_5.out (Kd.R_typed HO539.out) (by decide))) (fun k_ hk_ hs_ => (hk_.2) hs_)); (case side4 => exact (Kd.R_reads' HO_5.out).2.1); rintro e w55 ⟨rfl, hy0, hb, hkp⟩; have n0_ := Aside0.mk (Kd.R_mono (ok' := fun k_ => some k_ ≠ (v531 : Value).ownBlock) (Kd.R_keptB ((Kd.R_apart' HO_5.out (Kd.R_typed HO539.out) (by decide))) hkp (fun k_ hk_ hs_ => (hk_.2) hs_)) (fun k_ hk_ => hk_.1.1)); have n1_ := Aside0.mk (Kd.R_mono (ok' := fun k_ => some k_ ≠ (.slice Ao54 t527.length co54 : Value).ownBlock) (Kd.R_keptB ((Kd.R_apart' HO_6.out (Kd.R_typed HO539.out) (by decide))) hkp (fun k_ hk_ hs_ => (hk_.2) hs_)) (fun k_ hk_ => hk_.1.1)); have n2_ := Aside0.mk (blk_kept (by first | (with_reducible exact BK523.out) | (with_reducible exact blk_drewN BK523.out _) | exact bu BK523.out) hkp (fun hs_ => (fun e_ => (Kd.R_ne HO539.out BK523.out (by decide)) e_) hs_)); have n3_ := Aside0.mk (blk_kept (by first | (with_reducible exact BK524.out) | (with_reducible exact blk_drewN BK524.out _) | exact bu BK524.out) hkp (fun hs_ => (fun e_ => (Kd.R_ne HO539.out BK524.out (by decide)) e_) hs_)); have n4_ := Aside0.mk (Kd.R_reok rfl hy0 (fun k_ e_ => HO539.out.1 k_ e_)); have n5_ := Aside0.mk (hb); clear HO_5; clear HO_6; clear BK523; clear BK524; clear HO539; clear HB; have HO_5 := n0_; have HO_6 := n1_; have BK523 := n2_; have BK524 := n3_; have HO539 := n4_; have HB := n5_; clear n0_ n1_ n2_ n3_ n4_ n5_; (try clear hb); (try clear hkp); (try clear hy0))))
        go_meet
        case rel => exact ⟨_, (t541), (true), rs1, H', ⟨by have := HJ2.out; have := HJ19.out; first | omega | exact Nat.le_refl _⟩, ⟨by (with_reducible repeat (first | apply Kd.R_alloc | apply Kd.R_drewN | apply Kd.R_drew)); exact HO_5.out⟩, ⟨by (with_reducible repeat (first | apply Kd.R_alloc | apply Kd.R_drewN | apply Kd.R_drew)); exact HO_6.out⟩, ⟨by (with_reducible repeat (first | apply Kd.R_alloc | apply Kd.R_drewN | apply Kd.R_drew)); exact HO539.out⟩, ⟨bu BK523.out⟩, ⟨bu BK524.out⟩, ⟨bl⟩⟩
      subst c46
      have H1 : ((sawmilllaw17_mark.f kj19 t541 t530).bind fun bt542 => (sawmilllaw17_CuttingParts.j2 kj19 l1 t527 t530 t534 bt542.2 (!bt542.1) a0_0 a0_1 a0_2 l0_3 l0_4 l0_5 l0_6)) = some r := by rw [if_pos rfl] at H; exact H
      clear H
      have H := H1
      clear H1
      replace H := Option.bind_eq_some_iff.mp H
      obtain ⟨⟨t542, t543⟩, A470, H⟩ := H
      replace H : (sawmilllaw17_CuttingParts.j2 kj19 l1 t527 t530 t534 t543 (!t542) a0_0 a0_1 a0_2 l0_3 l0_4 l0_5 l0_6) = some r := H
      have A47 := Aside0.mk A470
      clear A470
      have H' := Aside0.mk H
      clear H
      obtain ⟨Ao48, co48, eo48⟩ := Kd.R_slice HO539.out
      subst eo48
      obtain ⟨Ao49, co49, eo49⟩ := Kd.R_slice HO_5.out
      subst eo49
      go_wp2_with (first | (go_at_call 39; (with_reducible refine (sawmilllaw17_mark.calls kj19 (fun k_ => some k_ = (.slice Ao48 y537.length co48 : Value).ownBlock) (.slice Ao48 y537.length co48) y537 _ _ t527 true t541 w _ ?side1 ?side2 ?side3 ?side4 A45.out).mono ?_); (case side1 => repeat (first | (with_reducible first | exact HB.out | apply below_alloc | apply pw_below_drewN | apply below_drew1 | refine below_set ?_ GE523.out | refine below_set ?_ GE524.out) | exact HB.out)); (case side2 => exact Kd.R_tight rfl HO539.out); (case side3 => exact Kd.C_kept_own ((Kd.R_apart' HO_5.out (Kd.R_typed HO539.out) (by decide))) (fun k_ hk_ hs_ => (hk_.2) hs_)); (case side4 => exact (Kd.R_reads' HO_5.out).2.1); rintro e w50 ⟨rfl, hy0, hb, hkp⟩; have n0_ := Aside0.mk (Kd.R_mono (ok' := fun k_ => some k_ ≠ (v531 : Value).ownBlock) (Kd.R_keptB ((Kd.R_apart' HO_5.out (Kd.R_typed HO539.out) (by decide))) hkp (fun k_ hk_ hs_ => (hk_.2) hs_)) (fun k_ hk_ => hk_.1.1)); have n1_ := Aside0.mk (Kd.R_mono (ok' := fun k_ => some k_ ≠ (.slice Ao49 t527.length co49 : Value).ownBlock) (Kd.R_keptB ((Kd.R_apart' HO_6.out (Kd.R_typed HO539.out) (by decide))) hkp (fun k_ hk_ hs_ => (hk_.2) hs_)) (fun k_ hk_ => hk_.1.1)); have n2_ := Aside0.mk (blk_kept (by first | (with_reducible exact BK523.out) | (with_reducible exact blk_drewN BK523.out _) | exact bu BK523.out) hkp (fun hs_ => (fun e_ => (Kd.R_ne HO539.out BK523.out (by decide)) e_) hs_)); have n3_ := Aside0.mk (blk_kept (by first | (with_reducible exact BK524.out) | (with_reducible exact blk_drewN BK524.out _) | exact bu BK524.out) hkp (fun hs_ => (fun e_ => (Kd.R_ne HO539.out BK524.out (by decide)) e_) hs_)); have n4_ := Aside0.mk (Kd.R_reok rfl hy0 (fun k_ e_ => HO539.out.1 k_ e_)); have n5_ := Aside0.mk (hb); clear HO_5; clear HO_6; clear BK523; clear BK524; clear HO539; clear HB; have HO_5 := n0_; have HO_6 := n1_; have BK523 := n2_; have BK524 := n3_; have HO539 := n4_; have HB := n5_; clear n0_ n1_ n2_ n3_ n4_ n5_; (try clear hb); (try clear hkp); (try clear hy0); obtain ⟨Ao51, co51, eo51⟩ := Kd.R_slice HO_6.out; subst eo51) | (go_at_call 39; (with_reducible refine (sawmilllaw17_mark.calls kj19 (fun k_ => some k_ = (.slice Ao48 y537.length co48 : Value).ownBlock) (.slice Ao48 y537.length co48) t541 _ _ t530 t542 t543 w _ ?side1 ?side2 ?side3 ?side4 A47.out).mono ?_); (case side1 => repeat (first | (with_reducible first | exact HB.out | apply below_alloc | apply pw_below_drewN | apply below_drew1 | refine below_set ?_ GE523.out | refine below_set ?_ GE524.out) | exact HB.out)); (case side2 => exact Kd.R_tight rfl HO539.out); (case side3 => exact Kd.C_kept_own ((Kd.R_apart' HO_6.out (Kd.R_typed HO539.out) (by decide))) (fun k_ hk_ hs_ => (hk_.2) hs_)); (case side4 => exact (Kd.R_reads' HO_6.out).2.1); rintro e w52 ⟨rfl, hy0, hb, hkp⟩; have n0_ := Aside0.mk (Kd.R_mono (ok' := fun k_ => some k_ ≠ (.slice Ao51 t530.length co51 : Value).ownBlock) (Kd.R_keptB ((Kd.R_apart' HO_5.out (Kd.R_typed HO539.out) (by decide))) hkp (fun k_ hk_ hs_ => (hk_.2) hs_)) (fun k_ hk_ => hk_.1.1)); have n1_ := Aside0.mk (Kd.R_mono (ok' := fun k_ => some k_ ≠ (.slice Ao49 t527.length co49 : Value).ownBlock) (Kd.R_keptB ((Kd.R_apart' HO_6.out (Kd.R_typed HO539.out) (by decide))) hkp (fun k_ hk_ hs_ => (hk_.2) hs_)) (fun k_ hk_ => hk_.1.1)); have n2_ := Aside0.mk (blk_kept (by first | (with_reducible exact BK523.out) | (with_reducible exact blk_drewN BK523.out _) | exact bu BK523.out) hkp (fun hs_ => (fun e_ => (Kd.R_ne HO539.out BK523.out (by decide)) e_) hs_)); have n3_ := Aside0.mk (blk_kept (by first | (with_reducible exact BK524.out) | (with_reducible exact blk_drewN BK524.out _) | exact bu BK524.out) hkp (fun hs_ => (fun e_ => (Kd.R_ne HO539.out BK524.out (by decide)) e_) hs_)); have n4_ := Aside0.mk (Kd.R_reok rfl hy0 (fun k_ e_ => HO539.out.1 k_ e_)); have n5_ := Aside0.mk (hb); clear HO_5; clear HO_6; clear BK523; clear BK524; clear HO539; clear HB; have HO_5 := n0_; have HO_6 := n1_; have BK523 := n2_; have BK524 := n3_; have HO539 := n4_; have HB := n5_; clear n0_ n1_ n2_ n3_ n4_ n5_; (try clear hb); (try clear hkp); (try clear hy0)))
      repeat (go_quiet (first | (go_at_call 39; (with_reducible refine (sawmilllaw17_mark.calls kj19 (fun k_ => some k_ = (.slice Ao48 y537.length co48 : Value).ownBlock) (.slice Ao48 y537.length co48) y537 _ _ t527 true t541 w _ ?side1 ?side2 ?side3 ?side4 A45.out).mono ?_); (case side1 => repeat (first | (with_reducible first | exact HB.out | apply below_alloc | apply pw_below_drewN | apply below_drew1 | refine below_set ?_ GE523.out | refine below_set ?_ GE524.out) | exact HB.out)); (case side2 => exact Kd.R_tight rfl HO539.out); (case side3 => exact Kd.C_kept_own ((Kd.R_apart' HO_5.out (Kd.R_typed HO539.out) (by decide))) (fun k_ hk_ hs_ => (hk_.2) hs_)); (case side4 => exact (Kd.R_reads' HO_5.out).2.1); rintro e w50 ⟨rfl, hy0, hb, hkp⟩; have n0_ := Aside0.mk (Kd.R_mono (ok' := fun k_ => some k_ ≠ (v531 : Value).ownBlock) (Kd.R_keptB ((Kd.R_apart' HO_5.out (Kd.R_typed HO539.out) (by decide))) hkp (fun k_ hk_ hs_ => (hk_.2) hs_)) (fun k_ hk_ => hk_.1.1)); have n1_ := Aside0.mk (Kd.R_mono (ok' := fun k_ => some k_ ≠ (.slice Ao49 t527.length co49 : Value).ownBlock) (Kd.R_keptB ((Kd.R_apart' HO_6.out (Kd.R_typed HO539.out) (by decide))) hkp (fun k_ hk_ hs_ => (hk_.2) hs_)) (fun k_ hk_ => hk_.1.1)); have n2_ := Aside0.mk (blk_kept (by first | (with_reducible exact BK523.out) | (with_reducible exact blk_drewN BK523.out _) | exact bu BK523.out) hkp (fun hs_ => (fun e_ => (Kd.R_ne HO539.out BK523.out (by decide)) e_) hs_)); have n3_ := Aside0.mk (blk_kept (by first | (with_reducible exact BK524.out) | (with_reducible exact blk_drewN BK524.out _) | exact bu BK524.out) hkp (fun hs_ => (fun e_ => (Kd.R_ne HO539.out BK524.out (by decide)) e_) hs_)); have n4_ := Aside0.mk (Kd.R_reok rfl hy0 (fun k_ e_ => HO539.out.1 k_ e_)); have n5_ := Aside0.mk (hb); clear HO_5; clear HO_6; clear BK523; clear BK524; clear HO539; clear HB; have HO_5 := n0_; have HO_6 := n1_; have BK523 := n2_; have BK524 := n3_; have HO539 := n4_; have HB := n5_; clear n0_ n1_ n2_ n3_ n4_ n5_; (try clear hb); (try clear hkp); (try clear hy0); obtain ⟨Ao51, co51, eo51⟩ := Kd.R_slice HO_6.out; subst eo51) | (go_at_call 39; (with_reducible refine (sawmilllaw17_mark.calls kj19 (fun k_ => some k_ = (.slice Ao48 y537.length co48 : Value).ownBlock) (.slice Ao48 y537.length co48) t541 _ _ t530 t542 t543 w _ ?side1 ?side2 ?side3 ?side4 A47.out).mono ?_); (case side1 => repeat (first | (with_reducible first | exact HB.out | apply below_alloc | apply pw_below_drewN | apply below_drew1 | refine below_set ?_ GE523.out | refine below_set ?_ GE524.out) | exact HB.out)); (case side2 => exact Kd.R_tight rfl HO539.out); (case side3 => exact Kd.C_kept_own ((Kd.R_apart' HO_6.out (Kd.R_typed HO539.out) (by decide))) (fun k_ hk_ hs_ => (hk_.2) hs_)); (case side4 => exact (Kd.R_reads' HO_6.out).2.1); rintro e w52 ⟨rfl, hy0, hb, hkp⟩; have n0_ := Aside0.mk (Kd.R_mono (ok' := fun k_ => some k_ ≠ (.slice Ao51 t530.length co51 : Value).ownBlock) (Kd.R_keptB ((Kd.R_apart' HO_5.out (Kd.R_typed HO539.out) (by decide))) hkp (fun k_ hk_ hs_ => (hk_.2) hs_)) (fun k_ hk_ => hk_.1.1)); have n1_ := Aside0.mk (Kd.R_mono (ok' := fun k_ => some k_ ≠ (.slice Ao49 t527.length co49 : Value).ownBlock) (Kd.R_keptB ((Kd.R_apart' HO_6.out (Kd.R_typed HO539.out) (by decide))) hkp (fun k_ hk_ hs_ => (hk_.2) hs_)) (fun k_ hk_ => hk_.1.1)); have n2_ := Aside0.mk (blk_kept (by first | (with_reducible exact BK523.out) | (with_reducible exact blk_drewN BK523.out _) | exact bu BK523.out) hkp (fun hs_ => (fun e_ => (Kd.R_ne HO539.out BK523.out (by decide)) e_) hs_)); have n3_ := Aside0.mk (blk_kept (by first | (with_reducible exact BK524.out) | (with_reducible exact blk_drewN BK524.out _) | exact bu BK524.out) hkp (fun hs_ => (fun e_ => (Kd.R_ne HO539.out BK524.out (by decide)) e_) hs_)); have n4_ := Aside0.mk (Kd.R_reok rfl hy0 (fun k_ e_ => HO539.out.1 k_ e_)); have n5_ := Aside0.mk (hb); clear HO_5; clear HO_6; clear BK523; clear BK524; clear HO539; clear HB; have HO_5 := n0_; have HO_6 := n1_; have BK523 := n2_; have BK524 := n3_; have HO539 := n4_; have HB := n5_; clear n0_ n1_ n2_ n3_ n4_ n5_; (try clear hb); (try clear hkp); (try clear hy0))); try go_wp2_with (first | (go_at_call 39; (with_reducible refine (sawmilllaw17_mark.calls kj19 (fun k_ => some k_ = (.slice Ao48 y537.length co48 : Value).ownBlock) (.slice Ao48 y537.length co48) y537 _ _ t527 true t541 w _ ?side1 ?side2 ?side3 ?side4 A45.out).mono ?_); (case side1 => repeat (first | (with_reducible first | exact HB.out | apply below_alloc | apply pw_below_drewN | apply below_drew1 | refine below_set ?_ GE523.out | refine below_set ?_ GE524.out) | exact HB.out)); (case side2 => exact Kd.R_tight rfl HO539.out); (case side3 => exact Kd.C_kept_own ((Kd.R_apart' HO_5.out (Kd.R_typed HO539.out) (by decide))) (fun k_ hk_ hs_ => (hk_.2) hs_)); (case side4 => exact (Kd.R_reads' HO_5.out).2.1); rintro e w50 ⟨rfl, hy0, hb, hkp⟩; have n0_ := Aside0.mk (Kd.R_mono (ok' := fun k_ => some k_ ≠ (v531 : Value).ownBlock) (Kd.R_keptB ((Kd.R_apart' HO_5.out (Kd.R_typed HO539.out) (by decide))) hkp (fun k_ hk_ hs_ => (hk_.2) hs_)) (fun k_ hk_ => hk_.1.1)); have n1_ := Aside0.mk (Kd.R_mono (ok' := fun k_ => some k_ ≠ (.slice Ao49 t527.length co49 : Value).ownBlock) (Kd.R_keptB ((Kd.R_apart' HO_6.out (Kd.R_typed HO539.out) (by decide))) hkp (fun k_ hk_ hs_ => (hk_.2) hs_)) (fun k_ hk_ => hk_.1.1)); have n2_ := Aside0.mk (blk_kept (by first | (with_reducible exact BK523.out) | (with_reducible exact blk_drewN BK523.out _) | exact bu BK523.out) hkp (fun hs_ => (fun e_ => (Kd.R_ne HO539.out BK523.out (by decide)) e_) hs_)); have n3_ := Aside0.mk (blk_kept (by first | (with_reducible exact BK524.out) | (with_reducible exact blk_drewN BK524.out _) | exact bu BK524.out) hkp (fun hs_ => (fun e_ => (Kd.R_ne HO539.out BK524.out (by decide)) e_) hs_)); have n4_ := Aside0.mk (Kd.R_reok rfl hy0 (fun k_ e_ => HO539.out.1 k_ e_)); have n5_ := Aside0.mk (hb); clear HO_5; clear HO_6; clear BK523; clear BK524; clear HO539; clear HB; have HO_5 := n0_; have HO_6 := n1_; have BK523 := n2_; have BK524 := n3_; have HO539 := n4_; have HB := n5_; clear n0_ n1_ n2_ n3_ n4_ n5_; (try clear hb); (try clear hkp); (try clear hy0); obtain ⟨Ao51, co51, eo51⟩ := Kd.R_slice HO_6.out; subst eo51) | (go_at_call 39; (with_reducible refine (sawmilllaw17_mark.calls kj19 (fun k_ => some k_ = (.slice Ao48 y537.length co48 : Value).ownBlock) (.slice Ao48 y537.length co48) t541 _ _ t530 t542 t543 w _ ?side1 ?side2 ?side3 ?side4 A47.out).mono ?_); (case side1 => repeat (first | (with_reducible first | exact HB.out | apply below_alloc | apply pw_below_drewN | apply below_drew1 | refine below_set ?_ GE523.out | refine below_set ?_ GE524.out) | exact HB.out)); (case side2 => exact Kd.R_tight rfl HO539.out); (case side3 => exact Kd.C_kept_own ((Kd.R_apart' HO_6.out (Kd.R_typed HO539.out) (by decide))) (fun k_ hk_ hs_ => (hk_.2) hs_)); (case side4 => exact (Kd.R_reads' HO_6.out).2.1); rintro e w52 ⟨rfl, hy0, hb, hkp⟩; have n0_ := Aside0.mk (Kd.R_mono (ok' := fun k_ => some k_ ≠ (.slice Ao51 t530.length co51 : Value).ownBlock) (Kd.R_keptB ((Kd.R_apart' HO_5.out (Kd.R_typed HO539.out) (by decide))) hkp (fun k_ hk_ hs_ => (hk_.2) hs_)) (fun k_ hk_ => hk_.1.1)); have n1_ := Aside0.mk (Kd.R_mono (ok' := fun k_ => some k_ ≠ (.slice Ao49 t527.length co49 : Value).ownBlock) (Kd.R_keptB ((Kd.R_apart' HO_6.out (Kd.R_typed HO539.out) (by decide))) hkp (fun k_ hk_ hs_ => (hk_.2) hs_)) (fun k_ hk_ => hk_.1.1)); have n2_ := Aside0.mk (blk_kept (by first | (with_reducible exact BK523.out) | (with_reducible exact blk_drewN BK523.out _) | exact bu BK523.out) hkp (fun hs_ => (fun e_ => (Kd.R_ne HO539.out BK523.out (by decide)) e_) hs_)); have n3_ := Aside0.mk (blk_kept (by first | (with_reducible exact BK524.out) | (with_reducible exact blk_drewN BK524.out _) | exact bu BK524.out) hkp (fun hs_ => (fun e_ => (Kd.R_ne HO539.out BK524.out (by decide)) e_) hs_)); have n4_ := Aside0.mk (Kd.R_reok rfl hy0 (fun k_ e_ => HO539.out.1 k_ e_)); have n5_ := Aside0.mk (hb); clear HO_5; clear HO_6; clear BK523; clear BK524; clear HO539; clear HB; have HO_5 := n0_; have HO_6 := n1_; have BK523 := n2_; have BK524 := n3_; have HO539 := n4_; have HB := n5_; clear n0_ n1_ n2_ n3_ n4_ n5_; (try clear hb); (try clear hkp); (try clear hy0))))
      go_meet
      case rel => exact ⟨_, (t543), (!t542), rs1, H', ⟨by have := HJ2.out; have := HJ19.out; first | omega | exact Nat.le_refl _⟩, ⟨by (with_reducible repeat (first | apply Kd.R_alloc | apply Kd.R_drewN | apply Kd.R_drew)); exact HO_5.out⟩, ⟨by (with_reducible repeat (first | apply Kd.R_alloc | apply Kd.R_drewN | apply Kd.R_drew)); exact HO_6.out⟩, ⟨by (with_reducible repeat (first | apply Kd.R_alloc | apply Kd.R_drewN | apply Kd.R_drew)); exact HO539.out⟩, ⟨bu BK523.out⟩, ⟨bu BK524.out⟩, ⟨bl⟩⟩
    clear HC40; (try clear c1); (try clear c2); (try clear p2); (try clear c3); (try clear c4); (try clear c6); (try clear c7); (try clear c9); (try clear c10); (try clear c13); (try clear c18); (try clear c18b0); (try clear c18b1); (try clear c19); (try clear c19b0); (try clear c19b1); (try clear c21); (try clear c26); (try clear c26b0); (try clear c27); (try clear c29); (try clear c29b0); (try clear c30); (try clear c32); (try clear c32b0); (try clear c32b1); (try clear c33); (try clear c35); (try clear c37); (try clear c38); (try clear c38b0); (try clear c38b1); (try clear c39); (try clear c39b0); (try clear c39b1); (try clear c41); (try clear c46); (try clear hcz11); (try clear hcz22); (try clear hcz24); (try clear hcz28); (try clear hcz31); (try clear hcz34); (try clear hcz36); (try clear hcz42); (try clear hcz8); (try clear hfz11); (try clear hfz22); (try clear hfz24); (try clear hfz28); (try clear hfz31); (try clear hfz34); (try clear hfz36); (try clear hfz42); (try clear hfz8); (try clear p2)
    obtain ⟨kq, x10_39, x98_39, rfl, HA, HJ39, HO_5, HO_6, HO_10, BK523, BK524, HB⟩ := hcut
    rcases kq with _ | kj39
    · exact absurd HA.out (by simp [sawmilllaw17_CuttingParts.j2])
    have H := HA.out
    clear HA
    simp only [sawmilllaw17_CuttingParts.j2] at H
    as_aux_lemma =>
     by_cases c56 : x98_39 = true
     · subst c56
       have H1 : (some false) = some r := by rw [if_pos rfl] at H; exact H
       clear H
       have H := H1
       clear H1
       obtain rfl := Option.some.inj H
       go_wp2
       repeat (go_quiet (fail); try go_wp2)
       go_ret
       exact ⟨fe1, bl⟩
     replace c56 := Bool.eq_false_iff.mpr c56
     subst c56
     have H1 : (sawmilllaw17_CuttingParts.l0 kj39 l1 t527 t530 t534 x10_39 0 0 a0_0 a0_1 a0_2 l0_3 l0_4 l0_5 l0_6) = some r := by rw [if_neg (show ¬ (false = true) by decide)] at H; exact H
     clear H
     have H := H1
     clear H1
     have H' := Aside0.mk H
     clear H
     go_wp2
     repeat (go_quiet (fail); try go_wp2)
     go_loopg [11, 12] kj39 (fun kq v11 v12 w' => ∃ (x11_4 : Int) (x12_4 : Int), v11 = .int .i64 x11_4 ∧ v12 = .int .i64 x12_4 ∧ Aside0 (sawmilllaw17_CuttingParts.l0 kq l1 t527 t530 t534 x10_39 x11_4 x12_4 a0_0 a0_1 a0_2 l0_3 l0_4 l0_5 l0_6 = some r) ∧ Aside0 (kq ≤ kj39) ∧ Aside0 (Kd.R k49 49 w' w.heap.size (fun k_ => some k_ ≠ (v531 : Value).ownBlock) v528 t527) ∧ Aside0 (Kd.R k49 49 w' w.heap.size (fun k_ => some k_ ≠ (v528 : Value).ownBlock) v531 t530) ∧ Aside0 (Kd.R (Kd.int .i64) 3 w' w.heap.size (fun _ => True) v538 x10_39) ∧ Aside0 (w'.heap[0]? = some (.cells #[.int .i64 (-1), .int .i64 (-1), .int .i64 0] 97 (0, 0))) ∧ Aside0 (w'.heap[gb524]? = some (.cells #[.int .i64 a0_0, .int .i64 a0_1, .int .i64 a0_2, (.slice A0_3 l0_3.length c0_3), (.slice A0_4 l0_4.length c0_4), (.slice A0_5 l0_5.length c0_5), (.slice A0_6 l0_6.length c0_6)] 25 (0, 0))) ∧ Aside0 (Below w.heap.size w w'))
     case atStart => exact ⟨(0), (0), rs1, rs1, H', ⟨Nat.le_refl _⟩, ⟨by (with_reducible repeat (first | apply Kd.R_alloc | apply Kd.R_drewN | apply Kd.R_drew)); exact HO_5.out⟩, ⟨by (with_reducible repeat (first | apply Kd.R_alloc | apply Kd.R_drewN | apply Kd.R_drew)); exact HO_6.out⟩, ⟨by (with_reducible repeat (first | apply Kd.R_alloc | apply Kd.R_drewN | apply Kd.R_drew)); exact HO_10.out⟩, ⟨bu BK523.out⟩, ⟨bu BK524.out⟩, ⟨bl⟩⟩
     clear H'; (try clear c1); (try clear c2); (try clear p2); (try clear c3); (try clear c4); (try clear c5); (try clear c6); (try clear c7); (try clear c9); (try clear c10); (try clear c13); (try clear c18); (try clear c18b0); (try clear c18b1); (try clear c19); (try clear c19b0); (try clear c19b1); (try clear c21); (try clear c26); (try clear c26b0); (try clear c27); (try clear c29); (try clear c29b0); (try clear c30); (try clear c32); (try clear c32b0); (try clear c32b1); (try clear c33); (try clear c35); (try clear c37); (try clear c38); (try clear c38b0); (try clear c38b1); (try clear c39); (try clear c39b0); (try clear c39b1); (try clear c41); (try clear c46); (try clear c56); (try clear hcz11); (try clear hcz22); (try clear hcz24); (try clear hcz28); (try clear hcz31); (try clear hcz34); (try clear hcz36); (try clear hcz42); (try clear hcz8); (try clear hfz11); (try clear hfz22); (try clear hfz24); (try clear hfz28); (try clear hfz31); (try clear hfz34); (try clear hfz36); (try clear hfz42); (try clear hfz8); (try clear p2)
     obtain ⟨x11_4, x12_4, rfl, rfl, HA, HK4, HO_5, HO_6, HO_10, BK523, BK524, HB⟩ := hrel
     rcases gk with _ | k4
     · exact absurd HA.out (by simp [sawmilllaw17_CuttingParts.l0])
     have H := HA.out
     clear HA
     simp only [sawmilllaw17_CuttingParts.l0] at H
     as_aux_lemma =>
      by_cases c57 : x12_4 < (t527.length : Int)
      · rw [if_pos c57] at H
        have c57b0 : decide (x12_4 < (t527.length : Int)) = true := decide_eq_true c57
        clear c57
        obtain ⟨c58, H⟩ := gd1 H
        have c58b0 : decide (0 ≤ x12_4) = true := decide_eq_true c58
        clear c58
        have H' := Aside0.mk H
        clear H
        obtain ⟨Ao59, co59, eo59⟩ := Kd.R_slice HO_5.out
        subst eo59
        have p544 : 0 ≤ (x12_4 : Int) := da1
        have q544 : x12_4 < (t527.length : Int) := da1
        obtain ⟨ad544, e544, hx544_0, hx544_1⟩ := at_T49 (Kd.R_reads' HO_5.out).2.2 x12_4 p544 q544
        cases e544
        replace p544 := eq_true p544
        replace q544 := eq_true q544
        go_wp2
        repeat (go_quiet (fail); try go_wp2)
        go_loopg [11, 13] k4 (fun kq v11 v13 w' => ∃ (x11_5 : Int) (x13_5 : Int), v11 = .int .i64 x11_5 ∧ v13 = .int .i64 x13_5 ∧ Aside0 (sawmilllaw17_CuttingParts.l1 kq l1 t527 t530 t534 x10_39 x11_5 x12_4 x13_5 a0_0 a0_1 a0_2 l0_3 l0_4 l0_5 l0_6 = some r) ∧ Aside0 (kq ≤ k4) ∧ Aside0 (Kd.R k49 49 w' w.heap.size (fun k_ => some k_ ≠ (v531 : Value).ownBlock) (.slice (some ad544) t527.length co59) t527) ∧ Aside0 (Kd.R k49 49 w' w.heap.size (fun k_ => some k_ ≠ ((.slice (some ad544) t527.length co59) : Value).ownBlock) v531 t530) ∧ Aside0 (Kd.R (Kd.int .i64) 3 w' w.heap.size (fun _ => True) v538 x10_39) ∧ Aside0 (w'.heap[0]? = some (.cells #[.int .i64 (-1), .int .i64 (-1), .int .i64 0] 97 (0, 0))) ∧ Aside0 (w'.heap[gb524]? = some (.cells #[.int .i64 a0_0, .int .i64 a0_1, .int .i64 a0_2, (.slice A0_3 l0_3.length c0_3), (.slice A0_4 l0_4.length c0_4), (.slice A0_5 l0_5.length c0_5), (.slice A0_6 l0_6.length c0_6)] 25 (0, 0))) ∧ Aside0 (Below w.heap.size w w'))
        case atStart => exact ⟨(x11_4), ((rd_T49 t527 x12_4).f0), rs1, rs1, H', ⟨Nat.le_refl _⟩, ⟨by (with_reducible repeat (first | apply Kd.R_alloc | apply Kd.R_drewN | apply Kd.R_drew)); exact HO_5.out⟩, ⟨by (with_reducible repeat (first | apply Kd.R_alloc | apply Kd.R_drewN | apply Kd.R_drew)); exact HO_6.out⟩, ⟨by (with_reducible repeat (first | apply Kd.R_alloc | apply Kd.R_drewN | apply Kd.R_drew)); exact HO_10.out⟩, ⟨bu BK523.out⟩, ⟨bu BK524.out⟩, ⟨bl⟩⟩
        clear H'; (try clear c1); (try clear c2); (try clear p2); (try clear c3); (try clear c4); (try clear c5); (try clear p5); (try clear q5); (try clear hx5); (try clear c6); (try clear c7); (try clear c9); (try clear c10); (try clear c13); (try clear c18); (try clear c18b0); (try clear c18b1); (try clear c19); (try clear c19b0); (try clear c19b1); (try clear c21); (try clear c26); (try clear c26b0); (try clear c27); (try clear c29); (try clear c29b0); (try clear c30); (try clear c32); (try clear c32b0); (try clear c32b1); (try clear c33); (try clear c35); (try clear c37); (try clear c38); (try clear c38b0); (try clear c38b1); (try clear c39); (try clear c39b0); (try clear c39b1); (try clear c41); (try clear c46); (try clear p54); (try clear q54); (try clear hx54); (try clear c56); (try clear c57); (try clear c57b0); (try clear c58); (try clear c58b0); (try clear hcz11); (try clear hcz22); (try clear hcz24); (try clear hcz28); (try clear hcz31); (try clear hcz34); (try clear hcz36); (try clear hcz42); (try clear hcz8); (try clear hfz11); (try clear hfz22); (try clear hfz24); (try clear hfz28); (try clear hfz31); (try clear hfz34); (try clear hfz36); (try clear hfz42); (try clear hfz8); (try clear hx544_0); (try clear hx544_1); (try clear p2); (try clear p544); (try clear q544)
        obtain ⟨x11_5, x13_5, rfl, rfl, HA, HK5, HO_5, HO_6, HO_10, BK523, BK524, HB⟩ := hrel
        rcases gk with _ | k5
        · exact absurd HA.out (by simp [sawmilllaw17_CuttingParts.l1])
        have H := HA.out
        clear HA
        simp only [sawmilllaw17_CuttingParts.l1] at H
        obtain ⟨c60, H⟩ := gd1 H
        have c60b0 : decide (0 ≤ x12_4) = true := decide_eq_true c60
        clear c60
        obtain ⟨c61, H⟩ := gd1 H
        have c61b0 : decide (x12_4 < (t527.length : Int)) = true := decide_eq_true c61
        clear c61
        as_aux_lemma =>
         by_cases c62 : x13_5 < ((rd_T49 t527 x12_4).f1)
         rotate_left
         · rw [if_neg c62] at H
           have c62b0 : decide (x13_5 < ((rd_T49 t527 x12_4).f1)) = false := decide_eq_false c62
           clear c62
           have H' := Aside0.mk H
           clear H
           have p545 : 0 ≤ (x12_4 : Int) := da1
           have q545 : x12_4 < (t527.length : Int) := da1
           obtain ⟨ad545, e545, hx545_0, hx545_1⟩ := at_T49 (Kd.R_reads' HO_5.out).2.2 x12_4 p545 q545
           obtain rfl : ad544 = ad545 := (by injection e545)
           replace p545 := eq_true p545
           replace q545 := eq_true q545
           go_wp2
           repeat (go_quiet (fail); try go_wp2)
           go_roundg k5
           case measure => have := HJ2.out; have := HJ19.out; have := HJ39.out; have := HK4.out; have := HK5.out; omega
           case rel => exact ⟨(x11_5), (wrap64 (x12_4 + 1)), rs1, rs1, H', ⟨by have := HJ2.out; have := HJ19.out; have := HJ39.out; have := HK4.out; have := HK5.out; omega⟩, ⟨by (with_reducible repeat (first | apply Kd.R_alloc | apply Kd.R_drewN | apply Kd.R_drew)); exact HO_5.out⟩, ⟨by (with_reducible repeat (first | apply Kd.R_alloc | apply Kd.R_drewN | apply Kd.R_drew)); exact HO_6.out⟩, ⟨by (with_reducible repeat (first | apply Kd.R_alloc | apply Kd.R_drewN | apply Kd.R_drew)); exact HO_10.out⟩, ⟨bu BK523.out⟩, ⟨bu BK524.out⟩, ⟨bl⟩⟩
         rw [if_pos c62] at H
         have c62b0 : decide (x13_5 < ((rd_T49 t527 x12_4).f1)) = true := decide_eq_true c62
         clear c62
         obtain ⟨c63, H⟩ := gd1 H
         have c63b0 : decide (0 ≤ x13_5) = true := decide_eq_true c63
         clear c63
         obtain ⟨c64, H⟩ := gd1 H
         have c64b0 : decide (x13_5 < (l0_6.length : Int)) = true := decide_eq_true c64
         clear c64
         have H' := Aside0.mk H
         clear H
         have p545 : 0 ≤ (x12_4 : Int) := da1
         have q545 : x12_4 < (t527.length : Int) := da1
         obtain ⟨ad545, e545, hx545_0, hx545_1⟩ := at_T49 (Kd.R_reads' HO_5.out).2.2 x12_4 p545 q545
         obtain rfl : ad544 = ad545 := (by injection e545)
         replace p545 := eq_true p545
         replace q545 := eq_true q545
         have hnb65 := NB524_523.out
         have hnc65 := NB523_524.out
         have hcz66 := blk_cells BK524.out
         have hfz66 := blk_frozens BK524.out
         have p546 : 0 ≤ (x13_5 : Int) := da1
         have q546 : x13_5 < (l0_6.length : Int) := da1
         obtain ⟨ad546, e546, hx546_0⟩ := Kd.at_int HR0_6.out x13_5 p546 q546
         cases e546
         (try replace hx546_0 := (HB.out.cell (World.block_lt_of_cell? w _ hx546_0)).trans hx546_0)
         replace p546 := eq_true p546
         replace q546 := eq_true q546
         go_wp2
         repeat (go_quiet (fail); try go_wp2)
         go_roundg k5
         case measure => have := HJ2.out; have := HJ19.out; have := HJ39.out; have := HK4.out; have := HK5.out; omega
         case rel => exact ⟨(wrap64 (x11_5 + (rd l0_6 x13_5))), (wrap64 (x13_5 + 1)), rs1, rs1, H', ⟨by have := HJ2.out; have := HJ19.out; have := HJ39.out; have := HK4.out; have := HK5.out; omega⟩, ⟨by (with_reducible repeat (first | apply Kd.R_alloc | apply Kd.R_drewN | apply Kd.R_drew)); exact HO_5.out⟩, ⟨by (with_reducible repeat (first | apply Kd.R_alloc | apply Kd.R_drewN | apply Kd.R_drew)); exact HO_6.out⟩, ⟨by (with_reducible repeat (first | apply Kd.R_alloc | apply Kd.R_drewN | apply Kd.R_drew)); exact HO_10.out⟩, ⟨bu BK523.out⟩, ⟨bu BK524.out⟩, ⟨bl⟩⟩
      rw [if_neg c57] at H
      have c57b0 : decide (x12_4 < (t527.length : Int)) = false := decide_eq_false c57
      clear c57
      have H' := Aside0.mk H
      clear H
      obtain ⟨Ao67, co67, eo67⟩ := Kd.R_slice HO_5.out
      subst eo67
      go_wp2
      repeat (go_quiet (fail); try go_wp2)
      go_loopg [11, 14] k4 (fun kq v11 v14 w' => ∃ (x11_5 : Int) (x14_5 : Int), v11 = .int .i64 x11_5 ∧ v14 = .int .i64 x14_5 ∧ Aside0 (sawmilllaw17_CuttingParts.l2 kq l1 t530 t534 x10_39 x11_5 x14_5 a0_0 a0_1 a0_2 l0_3 l0_4 l0_5 l0_6 = some r) ∧ Aside0 (kq ≤ k4) ∧ Aside0 (Kd.R k49 49 w' w.heap.size (fun _ => True) v531 t530) ∧ Aside0 (Kd.R (Kd.int .i64) 3 w' w.heap.size (fun _ => True) v538 x10_39) ∧ Aside0 (w'.heap[0]? = some (.cells #[.int .i64 (-1), .int .i64 (-1), .int .i64 0] 97 (0, 0))) ∧ Aside0 (w'.heap[gb524]? = some (.cells #[.int .i64 a0_0, .int .i64 a0_1, .int .i64 a0_2, (.slice A0_3 l0_3.length c0_3), (.slice A0_4 l0_4.length c0_4), (.slice A0_5 l0_5.length c0_5), (.slice A0_6 l0_6.length c0_6)] 25 (0, 0))) ∧ Aside0 (Below w.heap.size w w'))
      case atStart => exact ⟨(x11_4), (0), rs1, rs1, H', ⟨Nat.le_refl _⟩, ⟨by (with_reducible repeat (first | apply Kd.R_alloc | apply Kd.R_drewN | apply Kd.R_drew)); exact Kd.R_mono HO_6.out (fun _ hk => trivial)⟩, ⟨by (with_reducible repeat (first | apply Kd.R_alloc | apply Kd.R_drewN | apply Kd.R_drew)); exact HO_10.out⟩, ⟨bu BK523.out⟩, ⟨bu BK524.out⟩, ⟨bl⟩⟩
      clear H'; (try clear c1); (try clear c2); (try clear p2); (try clear c3); (try clear c4); (try clear c5); (try clear p5); (try clear q5); (try clear hx5); (try clear c6); (try clear p6); (try clear c7); (try clear c9); (try clear c10); (try clear c13); (try clear c18); (try clear c18b0); (try clear c18b1); (try clear c19); (try clear c19b0); (try clear c19b1); (try clear c21); (try clear c26); (try clear c26b0); (try clear c27); (try clear c29); (try clear c29b0); (try clear c30); (try clear c32); (try clear c32b0); (try clear c32b1); (try clear c33); (try clear c35); (try clear c37); (try clear c38); (try clear c38b0); (try clear c38b1); (try clear c39); (try clear c39b0); (try clear c39b1); (try clear c41); (try clear c46); (try clear p54); (try clear q54); (try clear hx54); (try clear c56); (try clear c57); (try clear c57b0); (try clear c58); (try clear c58b0); (try clear c60); (try clear c60b0); (try clear c61); (try clear c61b0); (try clear c62); (try clear c62b0); (try clear c63); (try clear c63b0); (try clear c64); (try clear c64b0); (try clear p64); (try clear c65); (try clear hcz11); (try clear hcz22); (try clear hcz24); (try clear hcz28); (try clear hcz31); (try clear hcz34); (try clear hcz36); (try clear hcz42); (try clear hcz66); (try clear hcz8); (try clear hfz11); (try clear hfz22); (try clear hfz24); (try clear hfz28); (try clear hfz31); (try clear hfz34); (try clear hfz36); (try clear hfz42); (try clear hfz66); (try clear hfz8); (try clear hx544_0); (try clear hx544_1); (try clear hx545_0); (try clear hx545_1); (try clear hx546_0); (try clear p2); (try clear p5); (try clear p54); (try clear p544); (try clear p545); (try clear p546); (try clear q5); (try clear q54); (try clear q544); (try clear q545); (try clear q546)
      obtain ⟨x11_5, x14_5, rfl, rfl, HA, HK5, HO_6, HO_10, BK523, BK524, HB⟩ := hrel
      rcases gk with _ | k5
      · exact absurd HA.out (by simp [sawmilllaw17_CuttingParts.l2])
      have H := HA.out
      clear HA
      simp only [sawmilllaw17_CuttingParts.l2] at H
      as_aux_lemma =>
       by_cases c68 : x14_5 < (t530.length : Int)
       · rw [if_pos c68] at H
         have c68b0 : decide (x14_5 < (t530.length : Int)) = true := decide_eq_true c68
         clear c68
         obtain ⟨c69, H⟩ := gd1 H
         have c69b0 : decide (0 ≤ x14_5) = true := decide_eq_true c69
         clear c69
         have H' := Aside0.mk H
         clear H
         obtain ⟨Ao70, co70, eo70⟩ := Kd.R_slice HO_6.out
         subst eo70
         have p547 : 0 ≤ (x14_5 : Int) := da1
         have q547 : x14_5 < (t530.length : Int) := da1
         obtain ⟨ad547, e547, hx547_0, hx547_1⟩ := at_T49 (Kd.R_reads' HO_6.out).2.2 x14_5 p547 q547
         cases e547
         replace p547 := eq_true p547
         replace q547 := eq_true q547
         go_wp2
         repeat (go_quiet (fail); try go_wp2)
         go_loopg [11, 15] k5 (fun kq v11 v15 w' => ∃ (x11_6 : Int) (x15_6 : Int), v11 = .int .i64 x11_6 ∧ v15 = .int .i64 x15_6 ∧ Aside0 (sawmilllaw17_CuttingParts.l3 kq l1 t530 t534 x10_39 x11_6 x14_5 x15_6 a0_0 a0_1 a0_2 l0_3 l0_4 l0_5 l0_6 = some r) ∧ Aside0 (kq ≤ k5) ∧ Aside0 (Kd.R k49 49 w' w.heap.size (fun _ => True) (.slice (some ad547) t530.length co70) t530) ∧ Aside0 (Kd.R (Kd.int .i64) 3 w' w.heap.size (fun _ => True) v538 x10_39) ∧ Aside0 (w'.heap[0]? = some (.cells #[.int .i64 (-1), .int .i64 (-1), .int .i64 0] 97 (0, 0))) ∧ Aside0 (w'.heap[gb524]? = some (.cells #[.int .i64 a0_0, .int .i64 a0_1, .int .i64 a0_2, (.slice A0_3 l0_3.length c0_3), (.slice A0_4 l0_4.length c0_4), (.slice A0_5 l0_5.length c0_5), (.slice A0_6 l0_6.length c0_6)] 25 (0, 0))) ∧ Aside0 (Below w.heap.size w w'))
         case atStart => exact ⟨(x11_5), ((rd_T49 t530 x14_5).f0), rs1, rs1, H', ⟨Nat.le_refl _⟩, ⟨by (with_reducible repeat (first | apply Kd.R_alloc | apply Kd.R_drewN | apply Kd.R_drew)); exact HO_6.out⟩, ⟨by (with_reducible repeat (first | apply Kd.R_alloc | apply Kd.R_drewN | apply Kd.R_drew)); exact HO_10.out⟩, ⟨bu BK523.out⟩, ⟨bu BK524.out⟩, ⟨bl⟩⟩
         clear H'; (try clear c1); (try clear c2); (try clear p2); (try clear c3); (try clear c4); (try clear c5); (try clear p5); (try clear q5); (try clear hx5); (try clear c6); (try clear p6); (try clear c7); (try clear c9); (try clear c10); (try clear c13); (try clear c18); (try clear c18b0); (try clear c18b1); (try clear c19); (try clear c19b0); (try clear c19b1); (try clear c21); (try clear c26); (try clear c26b0); (try clear c27); (try clear c29); (try clear c29b0); (try clear c30); (try clear c32); (try clear c32b0); (try clear c32b1); (try clear c33); (try clear c35); (try clear c37); (try clear c38); (try clear c38b0); (try clear c38b1); (try clear c39); (try clear c39b0); (try clear c39b1); (try clear c41); (try clear c46); (try clear p54); (try clear q54); (try clear hx54); (try clear c56); (try clear c57); (try clear c57b0); (try clear c58); (try clear c58b0); (try clear c60); (try clear c60b0); (try clear c61); (try clear c61b0); (try clear c62); (try clear c62b0); (try clear c63); (try clear c63b0); (try clear c64); (try clear c64b0); (try clear p64); (try clear c65); (try clear c68); (try clear c68b0); (try clear c69); (try clear c69b0); (try clear hcz11); (try clear hcz22); (try clear hcz24); (try clear hcz28); (try clear hcz31); (try clear hcz34); (try clear hcz36); (try clear hcz42); (try clear hcz66); (try clear hcz8); (try clear hfz11); (try clear hfz22); (try clear hfz24); (try clear hfz28); (try clear hfz31); (try clear hfz34); (try clear hfz36); (try clear hfz42); (try clear hfz66); (try clear hfz8); (try clear hx544_0); (try clear hx544_1); (try clear hx545_0); (try clear hx545_1); (try clear hx546_0); (try clear hx547_0); (try clear hx547_1); (try clear p2); (try clear p5); (try clear p54); (try clear p544); (try clear p545); (try clear p546); (try clear p547); (try clear p6); (try clear p64); (try clear q5); (try clear q54); (try clear q544); (try clear q545); (try clear q546); (try clear q547)
         obtain ⟨x11_6, x15_6, rfl, rfl, HA, HK6, HO_6, HO_10, BK523, BK524, HB⟩ := hrel
         rcases gk with _ | k6
         · exact absurd HA.out (by simp [sawmilllaw17_CuttingParts.l3])
         have H := HA.out
         clear HA
         simp only [sawmilllaw17_CuttingParts.l3] at H
         obtain ⟨c71, H⟩ := gd1 H
         have c71b0 : decide (0 ≤ x14_5) = true := decide_eq_true c71
         clear c71
         obtain ⟨c72, H⟩ := gd1 H
         have c72b0 : decide (x14_5 < (t530.length : Int)) = true := decide_eq_true c72
         clear c72
         as_aux_lemma =>
          by_cases c73 : x15_6 < ((rd_T49 t530 x14_5).f1)
          rotate_left
          · rw [if_neg c73] at H
            have c73b0 : decide (x15_6 < ((rd_T49 t530 x14_5).f1)) = false := decide_eq_false c73
            clear c73
            have H' := Aside0.mk H
            clear H
            have p548 : 0 ≤ (x14_5 : Int) := da1
            have q548 : x14_5 < (t530.length : Int) := da1
            obtain ⟨ad548, e548, hx548_0, hx548_1⟩ := at_T49 (Kd.R_reads' HO_6.out).2.2 x14_5 p548 q548
            obtain rfl : ad547 = ad548 := (by injection e548)
            replace p548 := eq_true p548
            replace q548 := eq_true q548
            go_wp2
            repeat (go_quiet (fail); try go_wp2)
            go_roundg k6
            case measure => have := HJ2.out; have := HJ19.out; have := HJ39.out; have := HK4.out; have := HK5.out; have := HK6.out; omega
            case rel => exact ⟨(x11_6), (wrap64 (x14_5 + 1)), rs1, rs1, H', ⟨by have := HJ2.out; have := HJ19.out; have := HJ39.out; have := HK4.out; have := HK5.out; have := HK6.out; omega⟩, ⟨by (with_reducible repeat (first | apply Kd.R_alloc | apply Kd.R_drewN | apply Kd.R_drew)); exact HO_6.out⟩, ⟨by (with_reducible repeat (first | apply Kd.R_alloc | apply Kd.R_drewN | apply Kd.R_drew)); exact HO_10.out⟩, ⟨bu BK523.out⟩, ⟨bu BK524.out⟩, ⟨bl⟩⟩
          rw [if_pos c73] at H
          have c73b0 : decide (x15_6 < ((rd_T49 t530 x14_5).f1)) = true := decide_eq_true c73
          clear c73
          obtain ⟨c74, H⟩ := gd1 H
          have c74b0 : decide (0 ≤ x15_6) = true := decide_eq_true c74
          clear c74
          obtain ⟨c75, H⟩ := gd1 H
          have c75b0 : decide (x15_6 < (l0_5.length : Int)) = true := decide_eq_true c75
          clear c75
          have H' := Aside0.mk H
          clear H
          have p548 : 0 ≤ (x14_5 : Int) := da1
          have q548 : x14_5 < (t530.length : Int) := da1
          obtain ⟨ad548, e548, hx548_0, hx548_1⟩ := at_T49 (Kd.R_reads' HO_6.out).2.2 x14_5 p548 q548
          obtain rfl : ad547 = ad548 := (by injection e548)
          replace p548 := eq_true p548
          replace q548 := eq_true q548
          have hnb76 := NB524_523.out
          have hnc76 := NB523_524.out
          have hcz77 := blk_cells BK524.out
          have hfz77 := blk_frozens BK524.out
          have p549 : 0 ≤ (x15_6 : Int) := da1
          have q549 : x15_6 < (l0_5.length : Int) := da1
          obtain ⟨ad549, e549, hx549_0⟩ := Kd.at_int HR0_5.out x15_6 p549 q549
          cases e549
          (try replace hx549_0 := (HB.out.cell (World.block_lt_of_cell? w _ hx549_0)).trans hx549_0)
          replace p549 := eq_true p549
          replace q549 := eq_true q549
          go_wp2
          repeat (go_quiet (fail); try go_wp2)
          go_roundg k6
          case measure => have := HJ2.out; have := HJ19.out; have := HJ39.out; have := HK4.out; have := HK5.out; have := HK6.out; omega
          case rel => exact ⟨(wrap64 (x11_6 + (rd l0_5 x15_6))), (wrap64 (x15_6 + 1)), rs1, rs1, H', ⟨by have := HJ2.out; have := HJ19.out; have := HJ39.out; have := HK4.out; have := HK5.out; have := HK6.out; omega⟩, ⟨by (with_reducible repeat (first | apply Kd.R_alloc | apply Kd.R_drewN | apply Kd.R_drew)); exact HO_6.out⟩, ⟨by (with_reducible repeat (first | apply Kd.R_alloc | apply Kd.R_drewN | apply Kd.R_drew)); exact HO_10.out⟩, ⟨bu BK523.out⟩, ⟨bu BK524.out⟩, ⟨bl⟩⟩
       rw [if_neg c68] at H
       have c68b0 : decide (x14_5 < (t530.length : Int)) = false := decide_eq_false c68
       clear c68
       have H' := Aside0.mk H
       clear H
       obtain ⟨Ao78, co78, eo78⟩ := Kd.R_slice HO_6.out
       subst eo78
       go_wp2
       repeat (go_quiet (fail); try go_wp2)
       go_loopg [11, 16] k5 (fun kq v11 v16 w' => ∃ (x10_6 : List Int) (x11_6 : Int) (x16_6 : Int), v11 = .int .i64 x11_6 ∧ v16 = .int .i64 x16_6 ∧ Aside0 (sawmilllaw17_CuttingParts.l4 kq l1 t534 x10_6 x11_6 x16_6 a0_0 a0_1 a0_2 l0_3 l0_4 l0_5 l0_6 = some r) ∧ Aside0 (kq ≤ k5) ∧ Aside0 (Kd.R (Kd.int .i64) 3 w' w.heap.size (fun _ => True) v538 x10_6) ∧ Aside0 (w'.heap[0]? = some (.cells #[.int .i64 (-1), .int .i64 (-1), .int .i64 0] 97 (0, 0))) ∧ Aside0 (w'.heap[gb524]? = some (.cells #[.int .i64 a0_0, .int .i64 a0_1, .int .i64 a0_2, (.slice A0_3 l0_3.length c0_3), (.slice A0_4 l0_4.length c0_4), (.slice A0_5 l0_5.length c0_5), (.slice A0_6 l0_6.length c0_6)] 25 (0, 0))) ∧ Aside0 (Below w.heap.size w w'))
       case atStart => exact ⟨(x10_39), (x11_5), (0), rs1, rs1, H', ⟨Nat.le_refl _⟩, ⟨by (with_reducible repeat (first | apply Kd.R_alloc | apply Kd.R_drewN | apply Kd.R_drew)); exact HO_10.out⟩, ⟨bu BK523.out⟩, ⟨bu BK524.out⟩, ⟨bl⟩⟩
       clear H'; (try clear c1); (try clear c2); (try clear p2); (try clear c3); (try clear c4); (try clear c5); (try clear p5); (try clear q5); (try clear hx5); (try clear c6); (try clear p6); (try clear c7); (try clear c9); (try clear c10); (try clear c13); (try clear c18); (try clear c18b0); (try clear c18b1); (try clear c19); (try clear c19b0); (try clear c19b1); (try clear c21); (try clear c26); (try clear c26b0); (try clear c27); (try clear c29); (try clear c29b0); (try clear c30); (try clear c32); (try clear c32b0); (try clear c32b1); (try clear c33); (try clear c35); (try clear c37); (try clear c38); (try clear c38b0); (try clear c38b1); (try clear c39); (try clear c39b0); (try clear c39b1); (try clear c41); (try clear c46); (try clear p54); (try clear q54); (try clear hx54); (try clear c56); (try clear c57); (try clear c57b0); (try clear c58); (try clear c58b0); (try clear c60); (try clear c60b0); (try clear c61); (try clear c61b0); (try clear c62); (try clear c62b0); (try clear c63); (try clear c63b0); (try clear c64); (try clear c64b0); (try clear p64); (try clear c65); (try clear c68); (try clear c68b0); (try clear c69); (try clear c69b0); (try clear c71); (try clear c71b0); (try clear c72); (try clear c72b0); (try clear c73); (try clear c73b0); (try clear c74); (try clear c74b0); (try clear c75); (try clear c75b0); (try clear c76); (try clear hcz11); (try clear hcz22); (try clear hcz24); (try clear hcz28); (try clear hcz31); (try clear hcz34); (try clear hcz36); (try clear hcz42); (try clear hcz66); (try clear hcz77); (try clear hcz8); (try clear hfz11); (try clear hfz22); (try clear hfz24); (try clear hfz28); (try clear hfz31); (try clear hfz34); (try clear hfz36); (try clear hfz42); (try clear hfz66); (try clear hfz77); (try clear hfz8); (try clear hx544_0); (try clear hx544_1); (try clear hx545_0); (try clear hx545_1); (try clear hx546_0); (try clear hx547_0); (try clear hx547_1); (try clear hx548_0); (try clear hx548_1); (try clear hx549_0); (try clear p2); (try clear p5); (try clear p54); (try clear p544); (try clear p545); (try clear p546); (try clear p547); (try clear p548); (try clear p549); (try clear p6); (try clear p64); (try clear q5); (try clear q54); (try clear q544); (try clear q545); (try clear q546); (try clear q547); (try clear q548); (try clear q549)
       obtain ⟨x10_6, x11_6, x16_6, rfl, rfl, HA, HK6, HO_10, BK523, BK524, HB⟩ := hrel
       rcases gk with _ | k6
       · exact absurd HA.out (by simp [sawmilllaw17_CuttingParts.l4])
       have H := HA.out
       clear HA
       simp only [sawmilllaw17_CuttingParts.l4] at H
       as_aux_lemma =>
        by_cases c79 : x16_6 < (l1.length : Int)
        rotate_left
        · rw [if_neg c79] at H
          have c79b0 : decide (x16_6 < (l1.length : Int)) = false := decide_eq_false c79
          clear c79
          have H' := Aside0.mk H
          clear H
          go_wp2
          repeat (go_quiet (fail); try go_wp2)
          go_loopg [19] k6 (fun kq v19 w' => ∃ (x19_7 : Int), v19 = .int .i64 x19_7 ∧ Aside0 (sawmilllaw17_CuttingParts.l6 kq t534 x10_6 x11_6 x19_7 = some r) ∧ Aside0 (kq ≤ k6) ∧ Aside0 (Kd.R (Kd.int .i64) 3 w' w.heap.size (fun _ => True) v538 x10_6) ∧ Aside0 (w'.heap[0]? = some (.cells #[.int .i64 (-1), .int .i64 (-1), .int .i64 0] 97 (0, 0))) ∧ Aside0 (w'.heap[gb524]? = some (.cells #[.int .i64 a0_0, .int .i64 a0_1, .int .i64 a0_2, (.slice A0_3 l0_3.length c0_3), (.slice A0_4 l0_4.length c0_4), (.slice A0_5 l0_5.length c0_5), (.slice A0_6 l0_6.length c0_6)] 25 (0, 0))) ∧ Aside0 (Below w.heap.size w w'))
          case atStart => exact ⟨(0), rs1, H', ⟨Nat.le_refl _⟩, ⟨by (with_reducible repeat (first | apply Kd.R_alloc | apply Kd.R_drewN | apply Kd.R_drew)); exact HO_10.out⟩, ⟨bu BK523.out⟩, ⟨bu BK524.out⟩, ⟨bl⟩⟩
          clear H'; (try clear c1); (try clear p1); (try clear q1); (try clear hx1); (try clear c2); (try clear p2); (try clear c3); (try clear c4); (try clear c5); (try clear p5); (try clear q5); (try clear hx5); (try clear c6); (try clear p6); (try clear c7); (try clear c8); (try clear c9); (try clear c10); (try clear p10); (try clear q10); (try clear hx10); (try clear hf10); (try clear c11); (try clear c13); (try clear c18); (try clear c18b0); (try clear c18b1); (try clear c19); (try clear c19b0); (try clear c19b1); (try clear c21); (try clear c26); (try clear c26b0); (try clear c27); (try clear c29); (try clear c29b0); (try clear c30); (try clear c32); (try clear c32b0); (try clear c32b1); (try clear c33); (try clear c35); (try clear c37); (try clear c38); (try clear c38b0); (try clear c38b1); (try clear c39); (try clear c39b0); (try clear c39b1); (try clear c41); (try clear c46); (try clear p54); (try clear q54); (try clear hx54); (try clear c55); (try clear p55); (try clear q55); (try clear hx55); (try clear c56); (try clear p56); (try clear q56); (try clear hx56); (try clear c57); (try clear c57b0); (try clear c58); (try clear c58b0); (try clear c60); (try clear c60b0); (try clear c61); (try clear c61b0); (try clear c62); (try clear c62b0); (try clear c63); (try clear c63b0); (try clear c64); (try clear c64b0); (try clear p64); (try clear c65); (try clear c68); (try clear c68b0); (try clear c69); (try clear c69b0); (try clear c71); (try clear c71b0); (try clear c72); (try clear c72b0); (try clear c73); (try clear c73b0); (try clear c74); (try clear c74b0); (try clear c75); (try clear c75b0); (try clear c76); (try clear c79); (try clear c79b0); (try clear c81); (try clear c81b0); (try clear c82); (try clear c82b0); (try clear c83); (try clear c83b0); (try clear c84); (try clear c86); (try clear c86b0); (try clear c87); (try clear c89); (try clear c89b0); (try clear c90); (try clear c92); (try clear c92b0); (try clear c93); (try clear c93b0); (try clear c94); (try clear c96); (try clear c97); (try clear c97b0); (try clear c98); (try clear c98b0); (try clear c99); (try clear c99b0); (try clear c100); (try clear c100b0); (try clear c101); (try clear c101b0); (try clear c102); (try clear c104); (try clear c106); (try clear c106b0); (try clear c107); (try clear c107b0); (try clear c108); (try clear c108b0); (try clear p109); (try clear q109); (try clear hx109); (try clear hf109); (try clear c113); (try clear c113b0); (try clear c114); (try clear c114b0); (try clear c115); (try clear c115b0); (try clear c116); (try clear c116b0); (try clear c117); (try clear c117b0); (try clear c118); (try clear c118b0); (try clear c119); (try clear hcz103); (try clear hcz105); (try clear hcz11); (try clear hcz120); (try clear hcz22); (try clear hcz24); (try clear hcz28); (try clear hcz31); (try clear hcz34); (try clear hcz36); (try clear hcz42); (try clear hcz66); (try clear hcz77); (try clear hcz85); (try clear hcz88); (try clear hcz8); (try clear hcz91); (try clear hcz95)
          (try clear hfz103); (try clear hfz105); (try clear hfz11); (try clear hfz120); (try clear hfz22); (try clear hfz24); (try clear hfz28); (try clear hfz31); (try clear hfz34); (try clear hfz36); (try clear hfz42); (try clear hfz66); (try clear hfz77); (try clear hfz85); (try clear hfz88); (try clear hfz8); (try clear hfz91); (try clear hfz95); (try clear hx109_0); (try clear hx544_0); (try clear hx544_1); (try clear hx545_0); (try clear hx545_1); (try clear hx546_0); (try clear hx547_0); (try clear hx547_1); (try clear hx548_0); (try clear hx548_1); (try clear hx549_0); (try clear hx550_0); (try clear hx550_1); (try clear hx551_0); (try clear hx551_1); (try clear hx552_0); (try clear hx552_1); (try clear hx553_0); (try clear hx553_1); (try clear hx554_0); (try clear hx554_1); (try clear hx555_0); (try clear hx555_1); (try clear hx556_0); (try clear hx557_0); (try clear hx557_1); (try clear hx558_0); (try clear hx558_1); (try clear hx559_0); (try clear hx560_0); (try clear hx560_1); (try clear hx561_0); (try clear hx563_0); (try clear hx563_1); (try clear hx564_0); (try clear hx565_0); (try clear hx565_1); (try clear hx566_0); (try clear p109); (try clear p2); (try clear p5); (try clear p54); (try clear p544); (try clear p545); (try clear p546); (try clear p547); (try clear p548); (try clear p549); (try clear p55); (try clear p550); (try clear p551); (try clear p552); (try clear p553); (try clear p554); (try clear p555); (try clear p556); (try clear p557); (try clear p558); (try clear p559); (try clear p56); (try clear p560); (try clear p561); (try clear p563); (try clear p564); (try clear p565); (try clear p566); (try clear p6); (try clear p64); (try clear q109); (try clear q5); (try clear q54); (try clear q544); (try clear q545); (try clear q546); (try clear q547); (try clear q548); (try clear q549); (try clear q55); (try clear q550); (try clear q551); (try clear q552); (try clear q553); (try clear q554); (try clear q555); (try clear q556); (try clear q557); (try clear q558); (try clear q559); (try clear q56); (try clear q560); (try clear q561); (try clear q563); (try clear q564); (try clear q565); (try clear q566)
          obtain ⟨x19_7, rfl, HA, HK7, HO_10, BK523, BK524, HB⟩ := hrel
          rcases gk with _ | k7
          · exact absurd HA.out (by simp [sawmilllaw17_CuttingParts.l6])
          have H := HA.out
          clear HA
          simp only [sawmilllaw17_CuttingParts.l6] at H
          as_aux_lemma =>
           by_cases c121 : x19_7 < (x10_6.length : Int)
           · rw [if_pos c121] at H
             have c121b0 : decide (x19_7 < (x10_6.length : Int)) = true := decide_eq_true c121
             clear c121
             obtain ⟨c122, H⟩ := gd1 H
             have c122b0 : decide (0 ≤ x19_7) = true := decide_eq_true c122
             clear c122
             by_cases c123 : (rd x10_6 x19_7) = 1
             rotate_left
             · rw [if_neg c123] at H
               have c123b0 : ((rd x10_6 x19_7) == 1) = false := beq_eq_false_iff_ne.mpr c123
               have c123b1 : ((rd x10_6 x19_7) != 1) = true := bne_iff_ne.mpr c123
               obtain rfl := Option.some.inj H
               obtain ⟨Ao125, co125, eo125⟩ := Kd.R_slice HO_10.out
               subst eo125
               have p567 : 0 ≤ (x19_7 : Int) := da1
               have q567 : x19_7 < (x10_6.length : Int) := da1
               obtain ⟨ad567, e567, hx567_0⟩ := Kd.at_int (Kd.R_reads' HO_10.out).2.2 x19_7 p567 q567
               cases e567
               replace p567 := eq_true p567
               replace q567 := eq_true q567
               go_wp2
               repeat (go_quiet (fail); try go_wp2)
               go_ret
               exact ⟨fe1, bl⟩
             rw [if_pos c123] at H
             have c123b0 : ((rd x10_6 x19_7) == 1) = true := beq_iff_eq.mpr c123
             have c123b1 : ((rd x10_6 x19_7) != 1) = false := bne_eq_false_iff_eq.mpr c123
             clear c123
             have H' := Aside0.mk H
             clear H
             obtain ⟨Ao124, co124, eo124⟩ := Kd.R_slice HO_10.out
             subst eo124
             have p567 : 0 ≤ (x19_7 : Int) := da1
             have q567 : x19_7 < (x10_6.length : Int) := da1
             obtain ⟨ad567, e567, hx567_0⟩ := Kd.at_int (Kd.R_reads' HO_10.out).2.2 x19_7 p567 q567
             cases e567
             replace p567 := eq_true p567
             replace q567 := eq_true q567
             go_wp2
             repeat (go_quiet (fail); try go_wp2)
             go_roundg k7
             case measure => have := HJ2.out; have := HJ19.out; have := HJ39.out; have := HK4.out; have := HK5.out; have := HK6.out; have := HK7.out; omega
             case rel => exact ⟨(wrap64 (x19_7 + 1)), rs1, H', ⟨by have := HJ2.out; have := HJ19.out; have := HJ39.out; have := HK4.out; have := HK5.out; have := HK6.out; have := HK7.out; omega⟩, ⟨by (with_reducible repeat (first | apply Kd.R_alloc | apply Kd.R_drewN | apply Kd.R_drew)); exact HO_10.out⟩, ⟨bu BK523.out⟩, ⟨bu BK524.out⟩, ⟨bl⟩⟩
           rw [if_neg c121] at H
           have c121b0 : decide (x19_7 < (x10_6.length : Int)) = false := decide_eq_false c121
           clear c121
           by_cases c126 : x11_6 = t534
           rotate_left
           · rw [if_neg c126] at H
             have c126b0 : (x11_6 == t534) = false := beq_eq_false_iff_ne.mpr c126
             have c126b1 : (x11_6 != t534) = true := bne_iff_ne.mpr c126
             obtain rfl := Option.some.inj H
             obtain ⟨Ao130, co130, eo130⟩ := Kd.R_slice HO_10.out
             subst eo130
             go_wp2
             repeat (go_quiet (fail); try go_wp2)
             go_ret
             exact ⟨fe1, bl⟩
           rw [if_pos c126] at H
           have c126b0 : (x11_6 == t534) = true := beq_iff_eq.mpr c126
           have c126b1 : (x11_6 != t534) = false := bne_eq_false_iff_eq.mpr c126
           clear c126
           replace H := Option.bind_eq_some_iff.mp H
           obtain ⟨t568, A1270, H⟩ := H
           replace H : (some t568) = some r := H
           have A127 := Aside0.mk A1270
           clear A1270
           obtain rfl := Option.some.inj H
           obtain ⟨Ao128, co128, eo128⟩ := Kd.R_slice HO_10.out
           subst eo128
           go_wp2_with (first | (go_at_call 18; (with_reducible refine (sawmilllaw17_awake.calls  t568 _ ?side1 A127.out).mono ?_); (case side1 => exact bu BK523.out); rintro e w129 ⟨rfl, hb⟩; have n0_ := Aside0.mk (Kd.R_below (ru HO_10.out) hb); have n1_ := Aside0.mk (blk_below (bu BK523.out) hb); have n2_ := Aside0.mk (blk_below (bu BK524.out) hb); have n3_ := Aside0.mk (below_step bl hb); clear HO_10; clear BK523; clear BK524; clear HB; have HO_10 := n0_; have BK523 := n1_; have BK524 := n2_; have HB := n3_; clear n0_ n1_ n2_ n3_; (try clear hb); (try clear hb2); (try clear hk); (try clear hi)))
           repeat (go_quiet (first | (go_at_call 18; (with_reducible refine (sawmilllaw17_awake.calls  t568 _ ?side1 A127.out).mono ?_); (case side1 => exact bu BK523.out); rintro e w129 ⟨rfl, hb⟩; have n0_ := Aside0.mk (Kd.R_below (ru HO_10.out) hb); have n1_ := Aside0.mk (blk_below (bu BK523.out) hb); have n2_ := Aside0.mk (blk_below (bu BK524.out) hb); have n3_ := Aside0.mk (below_step bl hb); clear HO_10; clear BK523; clear BK524; clear HB; have HO_10 := n0_; have BK523 := n1_; have BK524 := n2_; have HB := n3_; clear n0_ n1_ n2_ n3_; (try clear hb); (try clear hb2); (try clear hk); (try clear hi))); try go_wp2_with (first | (go_at_call 18; (with_reducible refine (sawmilllaw17_awake.calls  t568 _ ?side1 A127.out).mono ?_); (case side1 => exact bu BK523.out); rintro e w129 ⟨rfl, hb⟩; have n0_ := Aside0.mk (Kd.R_below (ru HO_10.out) hb); have n1_ := Aside0.mk (blk_below (bu BK523.out) hb); have n2_ := Aside0.mk (blk_below (bu BK524.out) hb); have n3_ := Aside0.mk (below_step bl hb); clear HO_10; clear BK523; clear BK524; clear HB; have HO_10 := n0_; have BK523 := n1_; have BK524 := n2_; have HB := n3_; clear n0_ n1_ n2_ n3_; (try clear hb); (try clear hb2); (try clear hk); (try clear hi))))
           go_ret
           exact ⟨fe1, bl⟩
        rw [if_pos c79] at H
        have c79b0 : decide (x16_6 < (l1.length : Int)) = true := decide_eq_true c79
        clear c79
        have HC80 := Aside0.mk H
        clear H
        go_upto_region 32 with (fail)
        repeat (go_quiet (fail); go_upto_region 32 with (fail))
        go_cut [212] (fun v212 wc => ∃ (kq : Nat) (x212_79 : Bool), v212 = .bool x212_79 ∧ Aside0 (sawmilllaw17_CuttingParts.j8 kq l1 t534 x10_6 x11_6 x16_6 x212_79 a0_0 a0_1 a0_2 l0_3 l0_4 l0_5 l0_6 = some r) ∧ Aside0 (kq ≤ k6) ∧ Aside0 (Kd.R (Kd.int .i64) 3 wc w.heap.size (fun _ => True) v538 x10_6) ∧ Aside0 (wc.heap[0]? = some (.cells #[.int .i64 (-1), .int .i64 (-1), .int .i64 0] 97 (0, 0))) ∧ Aside0 (wc.heap[gb524]? = some (.cells #[.int .i64 a0_0, .int .i64 a0_1, .int .i64 a0_2, (.slice A0_3 l0_3.length c0_3), (.slice A0_4 l0_4.length c0_4), (.slice A0_5 l0_5.length c0_5), (.slice A0_6 l0_6.length c0_6)] 25 (0, 0))) ∧ Aside0 (Below w.heap.size w wc))
        case first =>
         have H := HC80.out
         clear HC80
         obtain ⟨c81, H⟩ := gd1 H
         have c81b0 : decide (0 ≤ x16_6) = true := decide_eq_true c81
         clear c81
         (first | rw [c81b0] | (simp only [i64_w, i32_w]; rw [c81b0]) | skip)
         as_aux_lemma =>
          by_cases c82 : ((rd_T69 l1 x16_6).f0) < 0
          · rw [if_pos c82] at H
            have c82b0 : decide (((rd_T69 l1 x16_6).f0) < 0) = true := decide_eq_true c82
            clear c82
            have H' := Aside0.mk H
            clear H
            have p550 : 0 ≤ (x16_6 : Int) := da1
            have q550 : x16_6 < (l1.length : Int) := da1
            obtain ⟨ad550, e550, hx550_0, hx550_1⟩ := at_T69 HR1.out x16_6 p550 q550
            cases e550
            (try replace hx550_0 := (HB.out.cell (World.block_lt_of_cell? w _ hx550_0)).trans hx550_0)
            (try replace hx550_1 := (HB.out.cell (World.block_lt_of_cell? w _ hx550_1)).trans hx550_1)
            replace p550 := eq_true p550
            replace q550 := eq_true q550
            exact L9_1
          rw [if_neg c82] at H
          have c82b0 : decide (((rd_T69 l1 x16_6).f0) < 0) = false := decide_eq_false c82
          clear c82
          by_cases c83 : ((rd_T69 l1 x16_6).f0) ≥ (l0_3.length : Int)
          · rw [if_pos c83] at H
            have c83b0 : decide ((l0_3.length : Int) ≤ ((rd_T69 l1 x16_6).f0)) = true := decide_eq_true c83
            clear c83
            have H' := Aside0.mk H
            clear H
            have p550 : 0 ≤ (x16_6 : Int) := da1
            have q550 : x16_6 < (l1.length : Int) := da1
            obtain ⟨ad550, e550, hx550_0, hx550_1⟩ := at_T69 HR1.out x16_6 p550 q550
            cases e550
            (try replace hx550_0 := (HB.out.cell (World.block_lt_of_cell? w _ hx550_0)).trans hx550_0)
            (try replace hx550_1 := (HB.out.cell (World.block_lt_of_cell? w _ hx550_1)).trans hx550_1)
            replace p550 := eq_true p550
            replace q550 := eq_true q550
            have p551 : 0 ≤ (x16_6 : Int) := da1
            have q551 : x16_6 < (l1.length : Int) := da1
            obtain ⟨ad551, e551, hx551_0, hx551_1⟩ := at_T69 HR1.out x16_6 p551 q551
            obtain rfl : ad550 = ad551 := (by injection e551)
            (try replace hx551_0 := (HB.out.cell (World.block_lt_of_cell? w _ hx551_0)).trans hx551_0)
            (try replace hx551_1 := (HB.out.cell (World.block_lt_of_cell? w _ hx551_1)).trans hx551_1)
            replace p551 := eq_true p551
            replace q551 := eq_true q551
            have hnb84 := NB524_523.out
            have hnc84 := NB523_524.out
            have hcz85 := blk_cells BK524.out
            have hfz85 := blk_frozens BK524.out
            exact L9_1
          rw [if_neg c83] at H
          have c83b0 : decide ((l0_3.length : Int) ≤ ((rd_T69 l1 x16_6).f0)) = false := decide_eq_false c83
          clear c83
          by_cases c86 : ((rd_T69 l1 x16_6).f0) ≥ (l0_4.length : Int)
          · rw [if_pos c86] at H
            have c86b0 : decide ((l0_4.length : Int) ≤ ((rd_T69 l1 x16_6).f0)) = true := decide_eq_true c86
            clear c86
            have H' := Aside0.mk H
            clear H
            have p550 : 0 ≤ (x16_6 : Int) := da1
            have q550 : x16_6 < (l1.length : Int) := da1
            obtain ⟨ad550, e550, hx550_0, hx550_1⟩ := at_T69 HR1.out x16_6 p550 q550
            cases e550
            (try replace hx550_0 := (HB.out.cell (World.block_lt_of_cell? w _ hx550_0)).trans hx550_0)
            (try replace hx550_1 := (HB.out.cell (World.block_lt_of_cell? w _ hx550_1)).trans hx550_1)
            replace p550 := eq_true p550
            replace q550 := eq_true q550
            have p551 : 0 ≤ (x16_6 : Int) := da1
            have q551 : x16_6 < (l1.length : Int) := da1
            obtain ⟨ad551, e551, hx551_0, hx551_1⟩ := at_T69 HR1.out x16_6 p551 q551
            obtain rfl : ad550 = ad551 := (by injection e551)
            (try replace hx551_0 := (HB.out.cell (World.block_lt_of_cell? w _ hx551_0)).trans hx551_0)
            (try replace hx551_1 := (HB.out.cell (World.block_lt_of_cell? w _ hx551_1)).trans hx551_1)
            replace p551 := eq_true p551
            replace q551 := eq_true q551
            have hnb87 := NB524_523.out
            have hnc87 := NB523_524.out
            have hcz88 := blk_cells BK524.out
            have hfz88 := blk_frozens BK524.out
            have p552 : 0 ≤ (x16_6 : Int) := da1
            have q552 : x16_6 < (l1.length : Int) := da1
            obtain ⟨ad552, e552, hx552_0, hx552_1⟩ := at_T69 HR1.out x16_6 p552 q552
            obtain rfl : ad550 = ad552 := (by injection e552)
            (try replace hx552_0 := (HB.out.cell (World.block_lt_of_cell? w _ hx552_0)).trans hx552_0)
            (try replace hx552_1 := (HB.out.cell (World.block_lt_of_cell? w _ hx552_1)).trans hx552_1)
            replace p552 := eq_true p552
            replace q552 := eq_true q552
            exact L9_1
          rw [if_neg c86] at H
          have c86b0 : decide ((l0_4.length : Int) ≤ ((rd_T69 l1 x16_6).f0)) = false := decide_eq_false c86
          clear c86
          by_cases c89 : ((rd_T69 l1 x16_6).f1) < 0
          · rw [if_pos c89] at H
            have c89b0 : decide (((rd_T69 l1 x16_6).f1) < 0) = true := decide_eq_true c89
            clear c89
            have H' := Aside0.mk H
            clear H
            have p550 : 0 ≤ (x16_6 : Int) := da1
            have q550 : x16_6 < (l1.length : Int) := da1
            obtain ⟨ad550, e550, hx550_0, hx550_1⟩ := at_T69 HR1.out x16_6 p550 q550
            cases e550
            (try replace hx550_0 := (HB.out.cell (World.block_lt_of_cell? w _ hx550_0)).trans hx550_0)
            (try replace hx550_1 := (HB.out.cell (World.block_lt_of_cell? w _ hx550_1)).trans hx550_1)
            replace p550 := eq_true p550
            replace q550 := eq_true q550
            have p551 : 0 ≤ (x16_6 : Int) := da1
            have q551 : x16_6 < (l1.length : Int) := da1
            obtain ⟨ad551, e551, hx551_0, hx551_1⟩ := at_T69 HR1.out x16_6 p551 q551
            obtain rfl : ad550 = ad551 := (by injection e551)
            (try replace hx551_0 := (HB.out.cell (World.block_lt_of_cell? w _ hx551_0)).trans hx551_0)
            (try replace hx551_1 := (HB.out.cell (World.block_lt_of_cell? w _ hx551_1)).trans hx551_1)
            replace p551 := eq_true p551
            replace q551 := eq_true q551
            have hnb90 := NB524_523.out
            have hnc90 := NB523_524.out
            have hcz91 := blk_cells BK524.out
            have hfz91 := blk_frozens BK524.out
            have p552 : 0 ≤ (x16_6 : Int) := da1
            have q552 : x16_6 < (l1.length : Int) := da1
            obtain ⟨ad552, e552, hx552_0, hx552_1⟩ := at_T69 HR1.out x16_6 p552 q552
            obtain rfl : ad550 = ad552 := (by injection e552)
            (try replace hx552_0 := (HB.out.cell (World.block_lt_of_cell? w _ hx552_0)).trans hx552_0)
            (try replace hx552_1 := (HB.out.cell (World.block_lt_of_cell? w _ hx552_1)).trans hx552_1)
            replace p552 := eq_true p552
            replace q552 := eq_true q552
            have p553 : 0 ≤ (x16_6 : Int) := da1
            have q553 : x16_6 < (l1.length : Int) := da1
            obtain ⟨ad553, e553, hx553_0, hx553_1⟩ := at_T69 HR1.out x16_6 p553 q553
            obtain rfl : ad550 = ad553 := (by injection e553)
            (try replace hx553_0 := (HB.out.cell (World.block_lt_of_cell? w _ hx553_0)).trans hx553_0)
            (try replace hx553_1 := (HB.out.cell (World.block_lt_of_cell? w _ hx553_1)).trans hx553_1)
            replace p553 := eq_true p553
            replace q553 := eq_true q553
            exact L9_1
          rw [if_neg c89] at H
          have c89b0 : decide (((rd_T69 l1 x16_6).f1) < 0) = false := decide_eq_false c89
          clear c89
          obtain ⟨c92, H⟩ := gd1 H
          have c92b0 : decide (0 ≤ ((rd_T69 l1 x16_6).f0)) = true := decide_eq_true c92
          clear c92
          obtain ⟨c93, H⟩ := gd1 H
          have c93b0 : decide (((rd_T69 l1 x16_6).f0) < (l0_4.length : Int)) = true := decide_eq_true c93
          clear c93
          have H' := Aside0.mk H
          clear H
          have p550 : 0 ≤ (x16_6 : Int) := da1
          have q550 : x16_6 < (l1.length : Int) := da1
          obtain ⟨ad550, e550, hx550_0, hx550_1⟩ := at_T69 HR1.out x16_6 p550 q550
          cases e550
          (try replace hx550_0 := (HB.out.cell (World.block_lt_of_cell? w _ hx550_0)).trans hx550_0)
          (try replace hx550_1 := (HB.out.cell (World.block_lt_of_cell? w _ hx550_1)).trans hx550_1)
          replace p550 := eq_true p550
          replace q550 := eq_true q550
          have p551 : 0 ≤ (x16_6 : Int) := da1
          have q551 : x16_6 < (l1.length : Int) := da1
          obtain ⟨ad551, e551, hx551_0, hx551_1⟩ := at_T69 HR1.out x16_6 p551 q551
          obtain rfl : ad550 = ad551 := (by injection e551)
          (try replace hx551_0 := (HB.out.cell (World.block_lt_of_cell? w _ hx551_0)).trans hx551_0)
          (try replace hx551_1 := (HB.out.cell (World.block_lt_of_cell? w _ hx551_1)).trans hx551_1)
          replace p551 := eq_true p551
          replace q551 := eq_true q551
          have hnb94 := NB524_523.out
          have hnc94 := NB523_524.out
          have hcz95 := blk_cells BK524.out
          have hfz95 := blk_frozens BK524.out
          have p552 : 0 ≤ (x16_6 : Int) := da1
          have q552 : x16_6 < (l1.length : Int) := da1
          obtain ⟨ad552, e552, hx552_0, hx552_1⟩ := at_T69 HR1.out x16_6 p552 q552
          obtain rfl : ad550 = ad552 := (by injection e552)
          (try replace hx552_0 := (HB.out.cell (World.block_lt_of_cell? w _ hx552_0)).trans hx552_0)
          (try replace hx552_1 := (HB.out.cell (World.block_lt_of_cell? w _ hx552_1)).trans hx552_1)
          replace p552 := eq_true p552
          replace q552 := eq_true q552
          have p553 : 0 ≤ (x16_6 : Int) := da1
          have q553 : x16_6 < (l1.length : Int) := da1
          obtain ⟨ad553, e553, hx553_0, hx553_1⟩ := at_T69 HR1.out x16_6 p553 q553
          obtain rfl : ad550 = ad553 := (by injection e553)
          (try replace hx553_0 := (HB.out.cell (World.block_lt_of_cell? w _ hx553_0)).trans hx553_0)
          (try replace hx553_1 := (HB.out.cell (World.block_lt_of_cell? w _ hx553_1)).trans hx553_1)
          replace p553 := eq_true p553
          replace q553 := eq_true q553
          have p554 : 0 ≤ (x16_6 : Int) := da1
          have q554 : x16_6 < (l1.length : Int) := da1
          obtain ⟨ad554, e554, hx554_0, hx554_1⟩ := at_T69 HR1.out x16_6 p554 q554
          obtain rfl : ad550 = ad554 := (by injection e554)
          (try replace hx554_0 := (HB.out.cell (World.block_lt_of_cell? w _ hx554_0)).trans hx554_0)
          (try replace hx554_1 := (HB.out.cell (World.block_lt_of_cell? w _ hx554_1)).trans hx554_1)
          replace p554 := eq_true p554
          replace q554 := eq_true q554
          have p555 : 0 ≤ (x16_6 : Int) := da1
          have q555 : x16_6 < (l1.length : Int) := da1
          obtain ⟨ad555, e555, hx555_0, hx555_1⟩ := at_T69 HR1.out x16_6 p555 q555
          obtain rfl : ad550 = ad555 := (by injection e555)
          (try replace hx555_0 := (HB.out.cell (World.block_lt_of_cell? w _ hx555_0)).trans hx555_0)
          (try replace hx555_1 := (HB.out.cell (World.block_lt_of_cell? w _ hx555_1)).trans hx555_1)
          replace p555 := eq_true p555
          replace q555 := eq_true q555
          have p556 : 0 ≤ (((rd_T69 l1 x16_6).f0) : Int) := da1
          have q556 : ((rd_T69 l1 x16_6).f0) < (l0_4.length : Int) := da1
          obtain ⟨ad556, A556_0, c556_0, e556, hx556_0, hl556_0, hi556_0⟩ := at_L1 HR0_4.out ((rd_T69 l1 x16_6).f0) p556 q556
          cases e556
          (try replace hx556_0 := (HB.out.cell (World.block_lt_of_cell? w _ hx556_0)).trans hx556_0)
          have HR556_0 := Aside0.mk hi556_0
          have HC556_0 := Aside0.mk hl556_0
          clear hi556_0 hl556_0
          replace p556 := eq_true p556
          replace q556 := eq_true q556
          go_wp2
          repeat (go_quiet (fail); try go_wp2)
          go_meet
          case rel => exact ⟨_, (decide (((rd_T69 l1 x16_6).f1) ≥ ((rd_L1 l0_4 ((rd_T69 l1 x16_6).f0)).length : Int))), rs1, H', ⟨by have := HJ2.out; have := HJ19.out; have := HJ39.out; have := HK4.out; have := HK5.out; have := HK6.out; first | omega | exact Nat.le_refl _⟩, ⟨by (with_reducible repeat (first | apply Kd.R_alloc | apply Kd.R_drewN | apply Kd.R_drew)); exact HO_10.out⟩, ⟨bu BK523.out⟩, ⟨bu BK524.out⟩, ⟨bl⟩⟩
        clear HC80; (try clear c1); (try clear c2); (try clear p2); (try clear c3); (try clear c4); (try clear c5); (try clear p5); (try clear q5); (try clear hx5); (try clear c6); (try clear p6); (try clear c7); (try clear c8); (try clear c9); (try clear c10); (try clear c13); (try clear c18); (try clear c18b0); (try clear c18b1); (try clear c19); (try clear c19b0); (try clear c19b1); (try clear c21); (try clear c26); (try clear c26b0); (try clear c27); (try clear c29); (try clear c29b0); (try clear c30); (try clear c32); (try clear c32b0); (try clear c32b1); (try clear c33); (try clear c35); (try clear c37); (try clear c38); (try clear c38b0); (try clear c38b1); (try clear c39); (try clear c39b0); (try clear c39b1); (try clear c41); (try clear c46); (try clear p54); (try clear q54); (try clear hx54); (try clear c55); (try clear p55); (try clear q55); (try clear hx55); (try clear c56); (try clear c57); (try clear c57b0); (try clear c58); (try clear c58b0); (try clear c60); (try clear c60b0); (try clear c61); (try clear c61b0); (try clear c62); (try clear c62b0); (try clear c63); (try clear c63b0); (try clear c64); (try clear c64b0); (try clear p64); (try clear c65); (try clear c68); (try clear c68b0); (try clear c69); (try clear c69b0); (try clear c71); (try clear c71b0); (try clear c72); (try clear c72b0); (try clear c73); (try clear c73b0); (try clear c74); (try clear c74b0); (try clear c75); (try clear c75b0); (try clear c76); (try clear c79); (try clear c79b0); (try clear c81); (try clear c81b0); (try clear c82); (try clear c82b0); (try clear c83); (try clear c83b0); (try clear c84); (try clear c86); (try clear c86b0); (try clear c87); (try clear c89); (try clear c89b0); (try clear c90); (try clear c92); (try clear c92b0); (try clear c93); (try clear c93b0); (try clear c94); (try clear hcz11); (try clear hcz22); (try clear hcz24); (try clear hcz28); (try clear hcz31); (try clear hcz34); (try clear hcz36); (try clear hcz42); (try clear hcz66); (try clear hcz77); (try clear hcz85); (try clear hcz88); (try clear hcz8); (try clear hcz91); (try clear hcz95); (try clear hfz11); (try clear hfz22); (try clear hfz24); (try clear hfz28); (try clear hfz31); (try clear hfz34); (try clear hfz36); (try clear hfz42); (try clear hfz66); (try clear hfz77); (try clear hfz85); (try clear hfz88); (try clear hfz8); (try clear hfz91); (try clear hfz95); (try clear hx544_0); (try clear hx544_1); (try clear hx545_0); (try clear hx545_1); (try clear hx546_0); (try clear hx547_0); (try clear hx547_1); (try clear hx548_0); (try clear hx548_1); (try clear hx549_0); (try clear hx550_0); (try clear hx550_1); (try clear hx551_0); (try clear hx551_1); (try clear hx552_0); (try clear hx552_1); (try clear hx553_0); (try clear hx553_1); (try clear hx554_0); (try clear hx554_1); (try clear hx555_0); (try clear hx555_1); (try clear hx556_0); (try clear p2); (try clear p5); (try clear p54); (try clear p544); (try clear p545); (try clear p546); (try clear p547); (try clear p548); (try clear p549)
        (try clear p550); (try clear p551); (try clear p552); (try clear p553); (try clear p554); (try clear p555); (try clear p556); (try clear p6); (try clear p64); (try clear q5); (try clear q54); (try clear q544); (try clear q545); (try clear q546); (try clear q547); (try clear q548); (try clear q549); (try clear q550); (try clear q551); (try clear q552); (try clear q553); (try clear q554); (try clear q555); (try clear q556)
        obtain ⟨kq, x212_79, rfl, HA, HJ79, HO_10, BK523, BK524, HB⟩ := hcut
        rcases kq with _ | kj79
        · exact absurd HA.out (by simp [sawmilllaw17_CuttingParts.j8])
        have H := HA.out
        clear HA
        simp only [sawmilllaw17_CuttingParts.j8] at H
        as_aux_lemma =>
         by_cases c96 : x212_79 = true
         · subst c96
           have H1 : (some false) = some r := by rw [if_pos rfl] at H; exact H
           clear H
           have H := H1
           clear H1
           obtain rfl := Option.some.inj H
           go_wp2
           repeat (go_quiet (fail); try go_wp2)
           go_ret
           exact ⟨fe1, bl⟩
         replace c96 := Bool.eq_false_iff.mpr c96
         subst c96
         have H1 : (if 0 ≤ x16_6 then (if x16_6 < (l1.length : Int) then (if 0 ≤ ((rd_T69 l1 x16_6).f0) then (if ((rd_T69 l1 x16_6).f0) < (l0_3.length : Int) then (if (wrap64 (((rd_T69 l1 x16_6).f1) + (rd l0_3 ((rd_T69 l1 x16_6).f0)))) > a0_0 then (some false) else (sawmilllaw17_CuttingParts.l5 kj79 l1 t534 x10_6 x11_6 x16_6 (wrap64 (((rd_T69 l1 x16_6).f1) + (rd l0_3 ((rd_T69 l1 x16_6).f0)))) ((rd_T69 l1 x16_6).f1) a0_0 a0_1 a0_2 l0_3 l0_4 l0_5 l0_6)) else (none)) else (none)) else (none)) else (none)) = some r := by rw [if_neg (show ¬ (false = true) by decide)] at H; exact H
         clear H
         have H := H1
         clear H1
         obtain ⟨c97, H⟩ := gd1 H
         have c97b0 : decide (0 ≤ x16_6) = true := decide_eq_true c97
         clear c97
         obtain ⟨c98, H⟩ := gd1 H
         have c98b0 : decide (x16_6 < (l1.length : Int)) = true := decide_eq_true c98
         clear c98
         obtain ⟨c99, H⟩ := gd1 H
         have c99b0 : decide (0 ≤ ((rd_T69 l1 x16_6).f0)) = true := decide_eq_true c99
         clear c99
         obtain ⟨c100, H⟩ := gd1 H
         have c100b0 : decide (((rd_T69 l1 x16_6).f0) < (l0_3.length : Int)) = true := decide_eq_true c100
         clear c100
         as_aux_lemma =>
          by_cases c101 : (wrap64 (((rd_T69 l1 x16_6).f1) + (rd l0_3 ((rd_T69 l1 x16_6).f0)))) > a0_0
          · rw [if_pos c101] at H
            have c101b0 : decide (a0_0 < (wrap64 (((rd_T69 l1 x16_6).f1) + (rd l0_3 ((rd_T69 l1 x16_6).f0))))) = true := decide_eq_true c101
            clear c101
            obtain rfl := Option.some.inj H
            have p557 : 0 ≤ (x16_6 : Int) := da1
            have q557 : x16_6 < (l1.length : Int) := da1
            obtain ⟨ad557, e557, hx557_0, hx557_1⟩ := at_T69 HR1.out x16_6 p557 q557
            cases e557
            (try replace hx557_0 := (HB.out.cell (World.block_lt_of_cell? w _ hx557_0)).trans hx557_0)
            (try replace hx557_1 := (HB.out.cell (World.block_lt_of_cell? w _ hx557_1)).trans hx557_1)
            replace p557 := eq_true p557
            replace q557 := eq_true q557
            have hnb102 := NB524_523.out
            have hnc102 := NB523_524.out
            have hcz103 := blk_cells BK524.out
            have hfz103 := blk_frozens BK524.out
            have p558 : 0 ≤ (x16_6 : Int) := da1
            have q558 : x16_6 < (l1.length : Int) := da1
            obtain ⟨ad558, e558, hx558_0, hx558_1⟩ := at_T69 HR1.out x16_6 p558 q558
            obtain rfl : ad557 = ad558 := (by injection e558)
            (try replace hx558_0 := (HB.out.cell (World.block_lt_of_cell? w _ hx558_0)).trans hx558_0)
            (try replace hx558_1 := (HB.out.cell (World.block_lt_of_cell? w _ hx558_1)).trans hx558_1)
            replace p558 := eq_true p558
            replace q558 := eq_true q558
            have p559 : 0 ≤ (((rd_T69 l1 x16_6).f0) : Int) := da1
            have q559 : ((rd_T69 l1 x16_6).f0) < (l0_3.length : Int) := da1
            obtain ⟨ad559, e559, hx559_0⟩ := Kd.at_int HR0_3.out ((rd_T69 l1 x16_6).f0) p559 q559
            cases e559
            (try replace hx559_0 := (HB.out.cell (World.block_lt_of_cell? w _ hx559_0)).trans hx559_0)
            replace p559 := eq_true p559
            replace q559 := eq_true q559
            go_wp2
            repeat (go_quiet (fail); try go_wp2)
            go_ret
            exact ⟨fe1, bl⟩
          rw [if_neg c101] at H
          have c101b0 : decide (a0_0 < (wrap64 (((rd_T69 l1 x16_6).f1) + (rd l0_3 ((rd_T69 l1 x16_6).f0))))) = false := decide_eq_false c101
          clear c101
          have H' := Aside0.mk H
          clear H
          have p557 : 0 ≤ (x16_6 : Int) := da1
          have q557 : x16_6 < (l1.length : Int) := da1
          obtain ⟨ad557, e557, hx557_0, hx557_1⟩ := at_T69 HR1.out x16_6 p557 q557
          cases e557
          (try replace hx557_0 := (HB.out.cell (World.block_lt_of_cell? w _ hx557_0)).trans hx557_0)
          (try replace hx557_1 := (HB.out.cell (World.block_lt_of_cell? w _ hx557_1)).trans hx557_1)
          replace p557 := eq_true p557
          replace q557 := eq_true q557
          have hnb104 := NB524_523.out
          have hnc104 := NB523_524.out
          have hcz105 := blk_cells BK524.out
          have hfz105 := blk_frozens BK524.out
          have p558 : 0 ≤ (x16_6 : Int) := da1
          have q558 : x16_6 < (l1.length : Int) := da1
          obtain ⟨ad558, e558, hx558_0, hx558_1⟩ := at_T69 HR1.out x16_6 p558 q558
          obtain rfl : ad557 = ad558 := (by injection e558)
          (try replace hx558_0 := (HB.out.cell (World.block_lt_of_cell? w _ hx558_0)).trans hx558_0)
          (try replace hx558_1 := (HB.out.cell (World.block_lt_of_cell? w _ hx558_1)).trans hx558_1)
          replace p558 := eq_true p558
          replace q558 := eq_true q558
          have p559 : 0 ≤ (((rd_T69 l1 x16_6).f0) : Int) := da1
          have q559 : ((rd_T69 l1 x16_6).f0) < (l0_3.length : Int) := da1
          obtain ⟨ad559, e559, hx559_0⟩ := Kd.at_int HR0_3.out ((rd_T69 l1 x16_6).f0) p559 q559
          cases e559
          (try replace hx559_0 := (HB.out.cell (World.block_lt_of_cell? w _ hx559_0)).trans hx559_0)
          replace p559 := eq_true p559
          replace q559 := eq_true q559
          have p560 : 0 ≤ (x16_6 : Int) := da1
          have q560 : x16_6 < (l1.length : Int) := da1
          obtain ⟨ad560, e560, hx560_0, hx560_1⟩ := at_T69 HR1.out x16_6 p560 q560
          obtain rfl : ad557 = ad560 := (by injection e560)
          (try replace hx560_0 := (HB.out.cell (World.block_lt_of_cell? w _ hx560_0)).trans hx560_0)
          (try replace hx560_1 := (HB.out.cell (World.block_lt_of_cell? w _ hx560_1)).trans hx560_1)
          replace p560 := eq_true p560
          replace q560 := eq_true q560
          go_wp2
          repeat (go_quiet (fail); try go_wp2)
          go_loopg [18] kj79 (fun kq v18 w' => ∃ (x10_8 : List Int) (x18_8 : Int), v18 = .int .i64 x18_8 ∧ Aside0 (sawmilllaw17_CuttingParts.l5 kq l1 t534 x10_8 x11_6 x16_6 (wrap64 (((rd_T69 l1 x16_6).f1) + (rd l0_3 ((rd_T69 l1 x16_6).f0)))) x18_8 a0_0 a0_1 a0_2 l0_3 l0_4 l0_5 l0_6 = some r) ∧ Aside0 (kq ≤ kj79) ∧ Aside0 (Kd.R (Kd.int .i64) 3 w' w.heap.size (fun _ => True) v538 x10_8) ∧ Aside0 (w'.heap[0]? = some (.cells #[.int .i64 (-1), .int .i64 (-1), .int .i64 0] 97 (0, 0))) ∧ Aside0 (w'.heap[gb524]? = some (.cells #[.int .i64 a0_0, .int .i64 a0_1, .int .i64 a0_2, (.slice (some ad559) l0_3.length c0_3), (.slice A0_4 l0_4.length c0_4), (.slice A0_5 l0_5.length c0_5), (.slice A0_6 l0_6.length c0_6)] 25 (0, 0))) ∧ Aside0 (Below w.heap.size w w'))
          case atStart => exact ⟨(x10_6), ((rd_T69 l1 x16_6).f1), rs1, H', ⟨Nat.le_refl _⟩, ⟨by (with_reducible repeat (first | apply Kd.R_alloc | apply Kd.R_drewN | apply Kd.R_drew)); exact HO_10.out⟩, ⟨bu BK523.out⟩, ⟨bu BK524.out⟩, ⟨bl⟩⟩
          clear H'; (try clear c1); (try clear c2); (try clear p2); (try clear c3); (try clear c4); (try clear c5); (try clear p5); (try clear q5); (try clear hx5); (try clear c6); (try clear p6); (try clear c7); (try clear c8); (try clear c9); (try clear c10); (try clear c13); (try clear c18); (try clear c18b0); (try clear c18b1); (try clear c19); (try clear c19b0); (try clear c19b1); (try clear c21); (try clear c26); (try clear c26b0); (try clear c27); (try clear c29); (try clear c29b0); (try clear c30); (try clear c32); (try clear c32b0); (try clear c32b1); (try clear c33); (try clear c35); (try clear c37); (try clear c38); (try clear c38b0); (try clear c38b1); (try clear c39); (try clear c39b0); (try clear c39b1); (try clear c41); (try clear c46); (try clear p54); (try clear q54); (try clear hx54); (try clear c55); (try clear p55); (try clear q55); (try clear hx55); (try clear c56); (try clear p56); (try clear q56); (try clear hx56); (try clear c57); (try clear c57b0); (try clear c58); (try clear c58b0); (try clear c60); (try clear c60b0); (try clear c61); (try clear c61b0); (try clear c62); (try clear c62b0); (try clear c63); (try clear c63b0); (try clear c64); (try clear c64b0); (try clear p64); (try clear c65); (try clear c68); (try clear c68b0); (try clear c69); (try clear c69b0); (try clear c71); (try clear c71b0); (try clear c72); (try clear c72b0); (try clear c73); (try clear c73b0); (try clear c74); (try clear c74b0); (try clear c75); (try clear c75b0); (try clear c76); (try clear c79); (try clear c79b0); (try clear c81); (try clear c81b0); (try clear c82); (try clear c82b0); (try clear c83); (try clear c83b0); (try clear c84); (try clear c86); (try clear c86b0); (try clear c87); (try clear c89); (try clear c89b0); (try clear c90); (try clear c92); (try clear c92b0); (try clear c93); (try clear c93b0); (try clear c94); (try clear c96); (try clear c97); (try clear c97b0); (try clear c98); (try clear c98b0); (try clear c99); (try clear c99b0); (try clear c100); (try clear c100b0); (try clear c101); (try clear c101b0); (try clear c102); (try clear c104); (try clear hcz103); (try clear hcz105); (try clear hcz11); (try clear hcz22); (try clear hcz24); (try clear hcz28); (try clear hcz31); (try clear hcz34); (try clear hcz36); (try clear hcz42); (try clear hcz66); (try clear hcz77); (try clear hcz85); (try clear hcz88); (try clear hcz8); (try clear hcz91); (try clear hcz95); (try clear hfz103); (try clear hfz105); (try clear hfz11); (try clear hfz22); (try clear hfz24); (try clear hfz28); (try clear hfz31); (try clear hfz34); (try clear hfz36); (try clear hfz42); (try clear hfz66); (try clear hfz77); (try clear hfz85); (try clear hfz88); (try clear hfz8); (try clear hfz91); (try clear hfz95); (try clear hx544_0); (try clear hx544_1); (try clear hx545_0); (try clear hx545_1); (try clear hx546_0); (try clear hx547_0); (try clear hx547_1); (try clear hx548_0); (try clear hx548_1); (try clear hx549_0); (try clear hx550_0); (try clear hx550_1); (try clear hx551_0)
          (try clear hx551_1); (try clear hx552_0); (try clear hx552_1); (try clear hx553_0); (try clear hx553_1); (try clear hx554_0); (try clear hx554_1); (try clear hx555_0); (try clear hx555_1); (try clear hx556_0); (try clear hx557_0); (try clear hx557_1); (try clear hx558_0); (try clear hx558_1); (try clear hx559_0); (try clear hx560_0); (try clear hx560_1); (try clear p2); (try clear p5); (try clear p54); (try clear p544); (try clear p545); (try clear p546); (try clear p547); (try clear p548); (try clear p549); (try clear p55); (try clear p550); (try clear p551); (try clear p552); (try clear p553); (try clear p554); (try clear p555); (try clear p556); (try clear p557); (try clear p558); (try clear p559); (try clear p560); (try clear p6); (try clear p64); (try clear q5); (try clear q54); (try clear q544); (try clear q545); (try clear q546); (try clear q547); (try clear q548); (try clear q549); (try clear q55); (try clear q550); (try clear q551); (try clear q552); (try clear q553); (try clear q554); (try clear q555); (try clear q556); (try clear q557); (try clear q558); (try clear q559); (try clear q560)
          obtain ⟨x10_8, x18_8, rfl, HA, HK8, HO_10, BK523, BK524, HB⟩ := hrel
          rcases gk with _ | k8
          · exact absurd HA.out (by simp [sawmilllaw17_CuttingParts.l5])
          have H := HA.out
          clear HA
          simp only [sawmilllaw17_CuttingParts.l5] at H
          as_aux_lemma =>
           by_cases c106 : x18_8 < (wrap64 (((rd_T69 l1 x16_6).f1) + (rd l0_3 ((rd_T69 l1 x16_6).f0))))
           rotate_left
           · rw [if_neg c106] at H
             have c106b0 : decide (x18_8 < (wrap64 (((rd_T69 l1 x16_6).f1) + (rd l0_3 ((rd_T69 l1 x16_6).f0))))) = false := decide_eq_false c106
             clear c106
             obtain ⟨c113, H⟩ := gd1 H
             have c113b0 : decide (0 ≤ x16_6) = true := decide_eq_true c113
             clear c113
             obtain ⟨c114, H⟩ := gd1 H
             have c114b0 : decide (x16_6 < (l1.length : Int)) = true := decide_eq_true c114
             clear c114
             obtain ⟨c115, H⟩ := gd1 H
             have c115b0 : decide (0 ≤ ((rd_T69 l1 x16_6).f0)) = true := decide_eq_true c115
             clear c115
             obtain ⟨c116, H⟩ := gd1 H
             have c116b0 : decide (((rd_T69 l1 x16_6).f0) < (l0_4.length : Int)) = true := decide_eq_true c116
             clear c116
             obtain ⟨c117, H⟩ := gd1 H
             have c117b0 : decide (0 ≤ ((rd_T69 l1 x16_6).f1)) = true := decide_eq_true c117
             clear c117
             obtain ⟨c118, H⟩ := gd1 H
             have c118b0 : decide (((rd_T69 l1 x16_6).f1) < ((rd_L1 l0_4 ((rd_T69 l1 x16_6).f0)).length : Int)) = true := decide_eq_true c118
             clear c118
             have H' := Aside0.mk H
             clear H
             have hnb119 := NB524_523.out
             have hnc119 := NB523_524.out
             have hcz120 := blk_cells BK524.out
             have hfz120 := blk_frozens BK524.out
             have p563 : 0 ≤ (x16_6 : Int) := da1
             have q563 : x16_6 < (l1.length : Int) := da1
             obtain ⟨ad563, e563, hx563_0, hx563_1⟩ := at_T69 HR1.out x16_6 p563 q563
             obtain rfl : ad557 = ad563 := (by injection e563)
             (try replace hx563_0 := (HB.out.cell (World.block_lt_of_cell? w _ hx563_0)).trans hx563_0)
             (try replace hx563_1 := (HB.out.cell (World.block_lt_of_cell? w _ hx563_1)).trans hx563_1)
             replace p563 := eq_true p563
             replace q563 := eq_true q563
             have p564 : 0 ≤ (((rd_T69 l1 x16_6).f0) : Int) := da1
             have q564 : ((rd_T69 l1 x16_6).f0) < (l0_4.length : Int) := da1
             obtain ⟨ad564, A564_0, c564_0, e564, hx564_0, hl564_0, hi564_0⟩ := at_L1 HR0_4.out ((rd_T69 l1 x16_6).f0) p564 q564
             cases e564
             (try replace hx564_0 := (HB.out.cell (World.block_lt_of_cell? w _ hx564_0)).trans hx564_0)
             have HR564_0 := Aside0.mk hi564_0
             have HC564_0 := Aside0.mk hl564_0
             clear hi564_0 hl564_0
             replace p564 := eq_true p564
             replace q564 := eq_true q564
             have p565 : 0 ≤ (x16_6 : Int) := da1
             have q565 : x16_6 < (l1.length : Int) := da1
             obtain ⟨ad565, e565, hx565_0, hx565_1⟩ := at_T69 HR1.out x16_6 p565 q565
             obtain rfl : ad557 = ad565 := (by injection e565)
             (try replace hx565_0 := (HB.out.cell (World.block_lt_of_cell? w _ hx565_0)).trans hx565_0)
             (try replace hx565_1 := (HB.out.cell (World.block_lt_of_cell? w _ hx565_1)).trans hx565_1)
             replace p565 := eq_true p565
             replace q565 := eq_true q565
             have p566 : 0 ≤ (((rd_T69 l1 x16_6).f1) : Int) := da1
             have q566 : ((rd_T69 l1 x16_6).f1) < ((rd_L1 l0_4 ((rd_T69 l1 x16_6).f0)).length : Int) := da1
             obtain ⟨ad566, e566, hx566_0⟩ := Kd.at_int HR564_0.out ((rd_T69 l1 x16_6).f1) p566 q566
             cases e566
             (try replace hx566_0 := (HB.out.cell (World.block_lt_of_cell? w _ hx566_0)).trans hx566_0)
             replace p566 := eq_true p566
             replace q566 := eq_true q566
             go_wp2
             repeat (go_quiet (fail); try go_wp2)
             go_roundg k8
             case measure => have := HJ2.out; have := HJ19.out; have := HJ39.out; have := HK4.out; have := HK5.out; have := HK6.out; have := HJ79.out; have := HK8.out; omega
             case rel => exact ⟨(x10_8), (wrap64 (x11_6 + (rd (rd_L1 l0_4 ((rd_T69 l1 x16_6).f0)) ((rd_T69 l1 x16_6).f1)))), (wrap64 (x16_6 + 1)), rs1, rs1, H', ⟨by have := HJ2.out; have := HJ19.out; have := HJ39.out; have := HK4.out; have := HK5.out; have := HK6.out; have := HJ79.out; have := HK8.out; omega⟩, ⟨by (with_reducible repeat (first | apply Kd.R_alloc | apply Kd.R_drewN | apply Kd.R_drew)); exact HO_10.out⟩, ⟨bu BK523.out⟩, ⟨bu BK524.out⟩, ⟨bl⟩⟩
           rw [if_pos c106] at H
           have c106b0 : decide (x18_8 < (wrap64 (((rd_T69 l1 x16_6).f1) + (rd l0_3 ((rd_T69 l1 x16_6).f0))))) = true := decide_eq_true c106
           clear c106
           obtain ⟨c107, H⟩ := gd1 H
           have c107b0 : decide (0 ≤ x18_8) = true := decide_eq_true c107
           clear c107
           obtain ⟨c108, H⟩ := gd1 H
           have c108b0 : decide (x18_8 < (x10_8.length : Int)) = true := decide_eq_true c108
           clear c108
           obtain ⟨y562, hy562⟩ : ∃ y_ : List Int, y_ = (x10_8.set (x18_8 : Int).toNat (wrap64 ((rd x10_8 x18_8) + 1))) := ⟨_, rfl⟩
           replace H : (sawmilllaw17_CuttingParts.l5 k8 l1 t534 y562 x11_6 x16_6 (wrap64 (((rd_T69 l1 x16_6).f1) + (rd l0_3 ((rd_T69 l1 x16_6).f0)))) (wrap64 (x18_8 + 1)) a0_0 a0_1 a0_2 l0_3 l0_4 l0_5 l0_6) = some r := by first | (rw [hy562]; with_reducible exact H) | (have H2_ := (Option.bind_some _ _).symm.trans H; rw [hy562]; with_reducible exact H2_) | (have H2_ := (Option.bind_some _ _).symm.trans H; with_reducible exact H2_) | with_reducible exact H | (rw [hy562]; exact H) | exact H
           have Ny562 := Aside0.mk hy562
           clear hy562
           have H' := Aside0.mk H
           clear H
           obtain ⟨Ao110, co110, eo110⟩ := Kd.R_slice HO_10.out
           subst eo110
           have p561 : 0 ≤ (x18_8 : Int) := da1
           have q561 : x18_8 < (x10_8.length : Int) := da1
           obtain ⟨ad561, e561, hx561_0⟩ := Kd.at_int (Kd.R_reads' HO_10.out).2.2 x18_8 p561 q561
           cases e561
           replace p561 := eq_true p561
           replace q561 := eq_true q561
           have p109 : 0 ≤ (x18_8 : Int) := da1
           have q109 : (x18_8 : Int) < ((x10_8.length : Int) : Int) := da1
           obtain ⟨go109, co109, eo109, gb109, gl109, cl109, HG109⟩ := Kd.R_form HO_10.out (by omega)
           (first | cases eo109 | (injection eo109 with ea_ en_ ec_; (first | subst ea_ | (injection ea_ with ea_; subst ea_)); subst ec_; clear en_))
           have GB109 := Aside0.mk gb109
           have GG109 := Aside0.mk HG109
           clear gb109 gl109 HG109
           (first | simp only [add_plain] at hx561_0 | skip)
           obtain ⟨hx109_0, hf109_0⟩ := Kd.R_celln 0 HO_10.out (x18_8 : Int) p109 q109
           replace p109 := eq_true p109
           replace q109 := eq_true q109
           have HP111 := Kd.R_putg HO_10.out (x18_8 : Int) (wrap64 ((rd x10_8 x18_8) + 1))
           go_wp2_with (first | ((with_reducible refine gate_store (t := 3) (p := 247) rfl ?_); (try (rw [drewN_self wr]; generalize hq_ : World.drewN wr _ = wr; have n0_ := Aside0.mk (Kd.R_at hq_ HO_10.out); have n1_ := Aside0.mk (blk_at hq_ BK523.out); have n2_ := Aside0.mk (blk_at hq_ BK524.out); have n3_ := Aside0.mk (below_at hq_ HB.out); clear hq_ HO_10 BK523 BK524 HB; have HO_10 := n0_; have BK523 := n1_; have BK524 := n2_; have HB := n3_; clear n0_ n1_ n2_ n3_; (try (have HP111 := Kd.R_putg HO_10.out (x18_8 : Int) (wrap64 ((rd x10_8 x18_8) + 1)))))); refine store_event (t := 3) (p := 247) (v := ?vo_w112) (w1 := (wr.setCell ⟨go109, (x18_8 : Int).toNat, none⟩ (.int .i64 (wrap64 ((rd x10_8 x18_8) + 1))))) ?hg ?ho ?hn ?hr ?_; (case ho => rfl); (case hg => rfl); (case hn => rfl); (case hr => first | (go_simp; done) | (go_simp; rfl)); intro w112 hw; have hg : wr.grownBy w112 (some go109) := (by rw [hw]; exact HP111.2); have hp_ : Kd.R (Kd.int .i64) 3 w112 w.heap.size (fun _ => True) (.slice (some ⟨go109, 0, none⟩) x10_8.length co110) y562 := (by rw [hw, Ny562.out]; exact HP111.1); clear HP111; have n0_ := Aside0.mk (hp_); have n1_ := Aside0.mk (blk_grown (g := 0) (o := .cells #[.int .i64 (-1), .int .i64 (-1), .int .i64 0] 97 (0, 0)) (bu BK523.out) hg (Kd.R_ne HO_10.out BK523.out (by decide))); have n2_ := Aside0.mk (blk_grown (g := gb524) (o := .cells #[.int .i64 a0_0, .int .i64 a0_1, .int .i64 a0_2, .slice (some ad559) l0_3.length c0_3, .slice A0_4 l0_4.length c0_4, .slice A0_5 l0_5.length c0_5, .slice A0_6 l0_6.length c0_6] 25 (0, 0)) (bu BK524.out) hg (Kd.R_ne HO_10.out BK524.out (by decide))); have n3_ := Aside0.mk ((by rw [hw]; exact below_set (HB.out) GB109.out : Below w.heap.size w w112)); clear HO_10; clear BK523; clear BK524; clear HB; have HO_10 := n0_; have BK523 := n1_; have BK524 := n2_; have HB := n3_; clear n0_ n1_ n2_ n3_; clear hg hw hp_))
           repeat (go_quiet (first | ((with_reducible refine gate_store (t := 3) (p := 247) rfl ?_); (try (rw [drewN_self wr]; generalize hq_ : World.drewN wr _ = wr; have n0_ := Aside0.mk (Kd.R_at hq_ HO_10.out); have n1_ := Aside0.mk (blk_at hq_ BK523.out); have n2_ := Aside0.mk (blk_at hq_ BK524.out); have n3_ := Aside0.mk (below_at hq_ HB.out); clear hq_ HO_10 BK523 BK524 HB; have HO_10 := n0_; have BK523 := n1_; have BK524 := n2_; have HB := n3_; clear n0_ n1_ n2_ n3_; (try (have HP111 := Kd.R_putg HO_10.out (x18_8 : Int) (wrap64 ((rd x10_8 x18_8) + 1)))))); refine store_event (t := 3) (p := 247) (v := ?vo_w112) (w1 := (wr.setCell ⟨go109, (x18_8 : Int).toNat, none⟩ (.int .i64 (wrap64 ((rd x10_8 x18_8) + 1))))) ?hg ?ho ?hn ?hr ?_; (case ho => rfl); (case hg => rfl); (case hn => rfl); (case hr => first | (go_simp; done) | (go_simp; rfl)); intro w112 hw; have hg : wr.grownBy w112 (some go109) := (by rw [hw]; exact HP111.2); have hp_ : Kd.R (Kd.int .i64) 3 w112 w.heap.size (fun _ => True) (.slice (some ⟨go109, 0, none⟩) x10_8.length co110) y562 := (by rw [hw, Ny562.out]; exact HP111.1); clear HP111; have n0_ := Aside0.mk (hp_); have n1_ := Aside0.mk (blk_grown (g := 0) (o := .cells #[.int .i64 (-1), .int .i64 (-1), .int .i64 0] 97 (0, 0)) (bu BK523.out) hg (Kd.R_ne HO_10.out BK523.out (by decide))); have n2_ := Aside0.mk (blk_grown (g := gb524) (o := .cells #[.int .i64 a0_0, .int .i64 a0_1, .int .i64 a0_2, .slice (some ad559) l0_3.length c0_3, .slice A0_4 l0_4.length c0_4, .slice A0_5 l0_5.length c0_5, .slice A0_6 l0_6.length c0_6] 25 (0, 0)) (bu BK524.out) hg (Kd.R_ne HO_10.out BK524.out (by decide))); have n3_ := Aside0.mk ((by rw [hw]; exact below_set (HB.out) GB109.out : Below w.heap.size w w112)); clear HO_10; clear BK523; clear BK524; clear HB; have HO_10 := n0_; have BK523 := n1_; have BK524 := n2_; have HB := n3_; clear n0_ n1_ n2_ n3_; clear hg hw hp_)); try go_wp2_with (first | ((with_reducible refine gate_store (t := 3) (p := 247) rfl ?_); (try (rw [drewN_self wr]; generalize hq_ : World.drewN wr _ = wr; have n0_ := Aside0.mk (Kd.R_at hq_ HO_10.out); have n1_ := Aside0.mk (blk_at hq_ BK523.out); have n2_ := Aside0.mk (blk_at hq_ BK524.out); have n3_ := Aside0.mk (below_at hq_ HB.out); clear hq_ HO_10 BK523 BK524 HB; have HO_10 := n0_; have BK523 := n1_; have BK524 := n2_; have HB := n3_; clear n0_ n1_ n2_ n3_; (try (have HP111 := Kd.R_putg HO_10.out (x18_8 : Int) (wrap64 ((rd x10_8 x18_8) + 1)))))); refine store_event (t := 3) (p := 247) (v := ?vo_w112) (w1 := (wr.setCell ⟨go109, (x18_8 : Int).toNat, none⟩ (.int .i64 (wrap64 ((rd x10_8 x18_8) + 1))))) ?hg ?ho ?hn ?hr ?_; (case ho => rfl); (case hg => rfl); (case hn => rfl); (case hr => first | (go_simp; done) | (go_simp; rfl)); intro w112 hw; have hg : wr.grownBy w112 (some go109) := (by rw [hw]; exact HP111.2); have hp_ : Kd.R (Kd.int .i64) 3 w112 w.heap.size (fun _ => True) (.slice (some ⟨go109, 0, none⟩) x10_8.length co110) y562 := (by rw [hw, Ny562.out]; exact HP111.1); clear HP111; have n0_ := Aside0.mk (hp_); have n1_ := Aside0.mk (blk_grown (g := 0) (o := .cells #[.int .i64 (-1), .int .i64 (-1), .int .i64 0] 97 (0, 0)) (bu BK523.out) hg (Kd.R_ne HO_10.out BK523.out (by decide))); have n2_ := Aside0.mk (blk_grown (g := gb524) (o := .cells #[.int .i64 a0_0, .int .i64 a0_1, .int .i64 a0_2, .slice (some ad559) l0_3.length c0_3, .slice A0_4 l0_4.length c0_4, .slice A0_5 l0_5.length c0_5, .slice A0_6 l0_6.length c0_6] 25 (0, 0)) (bu BK524.out) hg (Kd.R_ne HO_10.out BK524.out (by decide))); have n3_ := Aside0.mk ((by rw [hw]; exact below_set (HB.out) GB109.out : Below w.heap.size w w112)); clear HO_10; clear BK523; clear BK524; clear HB; have HO_10 := n0_; have BK523 := n1_; have BK524 := n2_; have HB := n3_; clear n0_ n1_ n2_ n3_; clear hg hw hp_)))
           go_roundg k8
           case measure => have := HJ2.out; have := HJ19.out; have := HJ39.out; have := HK4.out; have := HK5.out; have := HK6.out; have := HJ79.out; have := HK8.out; omega
           case rel => exact ⟨(y562), (wrap64 (x18_8 + 1)), rs1, H', ⟨by have := HJ2.out; have := HJ19.out; have := HJ39.out; have := HK4.out; have := HK5.out; have := HK6.out; have := HJ79.out; have := HK8.out; omega⟩, ⟨by (with_reducible repeat (first | apply Kd.R_alloc | apply Kd.R_drewN | apply Kd.R_drew)); exact HO_10.out⟩, ⟨bu BK523.out⟩, ⟨bu BK524.out⟩, ⟨bl⟩⟩
end Go.Proofs.YtoaicheopcojoaaDoor.P
