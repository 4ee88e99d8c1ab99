import Derived.Test.YtoaicheopcojoaaDoorF22d
import Derived.Test.YtoaicheopcojoaaDoorSq
import Derived.Test.YtoaicheopcojoaaDoorF20
import Derived.Test.YtoaicheopcojoaaDoorF54
namespace Go.Proofs.YtoaicheopcojoaaDoor.P
open Go.RowKit Go.Proofs.YtoaicheopcojoaaDoorW.PrintWords Go.Proofs.YtoaicheopcojoaaDoorW.PrintLast Go.Proofs.YtoaicheopcojoaaDoorW.PrintMore
attribute [local go_sem] max2_int min2_int max_two min_two max_three min_three max_four min_four   -- for this text's walks alone
set_option linter.unusedVariables false
set_option linter.unusedSimpArgs false
theorem L22_0 {p_ : Prop} (k_ : p_ := by
  go_wp2
  repeat (go_quiet (fail); try go_wp2)
  go_ret3
  exact ⟨_, _, fe1, by first | exact Kd.R_nil _ _ _ _ _ | exact Kd.N_nil _ _ _ _ _ | exact Kd.V_nil _ _ _ _ _ | exact Kd.Q_nil _ _ _ _ _ | exact Kd.S_nil _ _ _ _ _, by first | exact Kd.R_nil _ _ _ _ _ | exact Kd.N_nil _ _ _ _ _ | exact Kd.V_nil _ _ _ _ _ | exact Kd.Q_nil _ _ _ _ _ | exact Kd.S_nil _ _ _ _ _, bl⟩) : p_ := k_
theorem L22_1 {p_ : Prop} (k_ : p_ := by
  go_wp2
  repeat (go_quiet (fail); try go_wp2)
  go_meet
  case rel => exact ⟨_, (true), rs1, H', ⟨by have := HK1.out; have := HJ9.out; have := HJ22.out; first | omega | exact Nat.le_refl _⟩, ⟨by (with_reducible repeat (first | apply Kd.R_alloc | apply Kd.R_drewN | apply Kd.R_drew)); exact HO_4.out⟩, ⟨by (with_reducible repeat (first | apply Kd.R_alloc | apply Kd.R_drewN | apply Kd.R_drew)); exact HO_5.out⟩, ⟨bu BK272.out⟩, ⟨bu BK278.out⟩, ⟨bl⟩⟩) : p_ := k_
set_option maxHeartbeats 8000000 in
set_option maxRecDepth 100000 in
theorem sawmillref17_Cuts.calls (k : Nat) (a0_0 : Int) (a0_1 : Int) (a0_2 : Int) (A0_3 : Option Addr) (c0_3 : Nat) (l0_3 : List Int) (A0_4 : Option Addr) (c0_4 : Nat) (l0_4 : List (List Int)) (A0_5 : Option Addr) (c0_5 : Nat) (l0_5 : List Int) (A0_6 : Option Addr) (c0_6 : Nat) (l0_6 : List Int) (A1 : Option Addr) (c1 : Nat) (l1 : List (S69)) (r1 : List (S49)) (r2 : List (S49)) (r3 : Int) (w : World) (hr0_3 : Kd.C (Kd.int .i64) w A0_3 l0_3.length l0_3) (hc0_3 : l0_3.length ≤ c0_3) (hr0_4 : Kd.C (Kd.slice 3 (Kd.int .i64)) w A0_4 l0_4.length l0_4) (hc0_4 : l0_4.length ≤ c0_4) (hr0_5 : Kd.C (Kd.int .i64) w A0_5 l0_5.length l0_5) (hc0_5 : l0_5.length ≤ c0_5) (hr0_6 : Kd.C (Kd.int .i64) w A0_6 l0_6.length l0_6) (hc0_6 : l0_6.length ≤ c0_6) (hr1 : Kd.C k69 w A1 l1.length l1) (hc1 : l1.length ≤ c1) (h : sawmillref17_Cuts.f k a0_0 a0_1 a0_2 l0_3 l0_4 l0_5 l0_6 l1 = some (r1, r2, r3)) :
    Calls Tryd.prog 22 #[.agg #[.int .i64 a0_0, .int .i64 a0_1, .int .i64 a0_2, .slice A0_3 l0_3.length c0_3, .slice A0_4 l0_4.length c0_4, .slice A0_5 l0_5.length c0_5, .slice A0_6 l0_6.length c0_6], .slice A1 l1.length c1] w fun e w' => ∃ v0_ v1_ : Value, e = .returned (.tuple #[v0_, v1_, .int .i64 r3]) ∧ Kd.R k49 49 w' w.heap.size (fun k_ => some k_ ≠ (v1_ : Value).ownBlock) v0_ r1 ∧ Kd.R k49 49 w' w.heap.size (fun k_ => some k_ ≠ (v0_ : Value).ownBlock) v1_ r2 ∧ Below w.heap.size w w' := by
 have hu25 := Tryd.underlying25
 have hu69 := Tryd.underlying69
 have HR0_3 := Aside0.mk hr0_3
 have HC0_3 := Aside0.mk hc0_3
 clear hr0_3 hc0_3
 have HR0_4 := Aside0.mk hr0_4
 have HC0_4 := Aside0.mk hc0_4
 clear hr0_4 hc0_4
 have HR0_5 := Aside0.mk hr0_5
 have HC0_5 := Aside0.mk hc0_5
 clear hr0_5 hc0_5
 have HR0_6 := Aside0.mk hr0_6
 have HC0_6 := Aside0.mk hc0_6
 clear hr0_6 hc0_6
 have HR1 := Aside0.mk hr1
 have HC1 := Aside0.mk hc1
 clear hr1 hc1
 have HB := Aside0.mk (Below.refl w.heap.size w)
 have H : ((sawmillref17_Check.f k a0_0 a0_1 a0_2 l0_3 l0_4 l0_5 l0_6).bind fun t273 => (if t273 = 0 then (sawmillref17_Cuts.l0 k l1 ([] : List (S49)) ([] : List (S49)) 0 0 a0_0 a0_1 a0_2 l0_3 l0_4 l0_5 l0_6) else (some (([] : List (S49)), ([] : List (S49)), t273)))) = some (r1, r2, r3) := h
 clear h
 replace H := Option.bind_eq_some_iff.mp H
 obtain ⟨t273, A30, H⟩ := H
 replace H : (if t273 = 0 then (sawmillref17_Cuts.l0 k l1 ([] : List (S49)) ([] : List (S49)) 0 0 a0_0 a0_1 a0_2 l0_3 l0_4 l0_5 l0_6) else (some (([] : List (S49)), ([] : List (S49)), t273))) = some (r1, r2, r3) := H
 have A3 := Aside0.mk A30
 clear A30
 by_cases c4 : t273 = 0
 rotate_left
 · rw [if_neg c4] at H
   have c4b0 : (t273 == 0) = false := beq_eq_false_iff_ne.mpr c4
   have c4b1 : (t273 != 0) = true := bne_iff_ne.mpr c4
   simp only [Option.some.injEq, Prod.mk.injEq] at H
   obtain ⟨rfl, rfl, rfl⟩ := H
   go_enter Tryd.func22, Tryd.ntmps22
   go_wp2_with (first | ((with_reducible refine gate_dst (N := 2) rfl ?_); (try (refine gate_guard (by rfl) ?_; dsimp only)); refine bx1 (N := 2) #[.int .i64 a0_0, .int .i64 a0_1, .int .i64 a0_2, .slice A0_3 l0_3.length c0_3, .slice A0_4 l0_4.length c0_4, .slice A0_5 l0_5.length c0_5, .slice A0_6 l0_6.length c0_6] 25 ?_; intro gb272 hg w102 hbox hb; have n0_ := Aside0.mk (below_step bl hb); have n1_ := Aside0.mk (hbox); have n2_ := Aside0.mk ((gs1 : w.heap.size ≤ gb272)); have n3_ := Aside0.mk ((gs1 : w.heap.size ≤ gb272)); clear HB; have HB := n0_; have BK272 := n1_; have GW272 := n2_; have GE272 := n3_; clear n0_ n1_ n2_ n3_; clear hb hbox hg; have hcz103 := blk_cells BK272.out; have hfz103 := blk_frozens BK272.out) | (go_at_call 20; (with_reducible refine (sawmillref17_Check.calls k a0_0 a0_1 a0_2 _ _ l0_3 _ _ l0_4 _ _ l0_5 _ _ l0_6 t273 _ ?side1 ?side2 ?side3 ?side4 ?side5 ?side6 ?side7 ?side8 A3.out).mono ?_); (case side1 => exact cu1 (Kd.C_below HR0_3.out HB.out)); (case side2 => exact HC0_3.out); (case side3 => exact cu1 (Kd.C_below HR0_4.out HB.out)); (case side4 => exact HC0_4.out); (case side5 => exact cu1 (Kd.C_below HR0_5.out HB.out)); (case side6 => exact HC0_5.out); (case side7 => exact cu1 (Kd.C_below HR0_6.out HB.out)); (case side8 => exact HC0_6.out); rintro e w104 ⟨rfl, hb⟩; have n0_ := Aside0.mk (blk_below (by first | (with_reducible exact BK272.out) | (with_reducible exact blk_drewN BK272.out _) | exact bu BK272.out) hb); have n1_ := Aside0.mk (below_step bl hb); clear BK272; clear HB; have BK272 := n0_; have HB := n1_; clear n0_ n1_; (try clear hb); (try clear hb2); (try clear hk); (try clear hi)))
   repeat (go_quiet (first | ((with_reducible refine gate_dst (N := 2) rfl ?_); (try (refine gate_guard (by rfl) ?_; dsimp only)); refine bx1 (N := 2) #[.int .i64 a0_0, .int .i64 a0_1, .int .i64 a0_2, .slice A0_3 l0_3.length c0_3, .slice A0_4 l0_4.length c0_4, .slice A0_5 l0_5.length c0_5, .slice A0_6 l0_6.length c0_6] 25 ?_; intro gb272 hg w102 hbox hb; have n0_ := Aside0.mk (below_step bl hb); have n1_ := Aside0.mk (hbox); have n2_ := Aside0.mk ((gs1 : w.heap.size ≤ gb272)); have n3_ := Aside0.mk ((gs1 : w.heap.size ≤ gb272)); clear HB; have HB := n0_; have BK272 := n1_; have GW272 := n2_; have GE272 := n3_; clear n0_ n1_ n2_ n3_; clear hb hbox hg; have hcz103 := blk_cells BK272.out; have hfz103 := blk_frozens BK272.out) | (go_at_call 20; (with_reducible refine (sawmillref17_Check.calls k a0_0 a0_1 a0_2 _ _ l0_3 _ _ l0_4 _ _ l0_5 _ _ l0_6 t273 _ ?side1 ?side2 ?side3 ?side4 ?side5 ?side6 ?side7 ?side8 A3.out).mono ?_); (case side1 => exact cu1 (Kd.C_below HR0_3.out HB.out)); (case side2 => exact HC0_3.out); (case side3 => exact cu1 (Kd.C_below HR0_4.out HB.out)); (case side4 => exact HC0_4.out); (case side5 => exact cu1 (Kd.C_below HR0_5.out HB.out)); (case side6 => exact HC0_5.out); (case side7 => exact cu1 (Kd.C_below HR0_6.out HB.out)); (case side8 => exact HC0_6.out); rintro e w104 ⟨rfl, hb⟩; have n0_ := Aside0.mk (blk_below (by first | (with_reducible exact BK272.out) | (with_reducible exact blk_drewN BK272.out _) | exact bu BK272.out) hb); have n1_ := Aside0.mk (below_step bl hb); clear BK272; clear HB; have BK272 := n0_; have HB := n1_; clear n0_ n1_; (try clear hb); (try clear hb2); (try clear hk); (try clear hi))); try go_wp2_with (first | ((with_reducible refine gate_dst (N := 2) rfl ?_); (try (refine gate_guard (by rfl) ?_; dsimp only)); refine bx1 (N := 2) #[.int .i64 a0_0, .int .i64 a0_1, .int .i64 a0_2, .slice A0_3 l0_3.length c0_3, .slice A0_4 l0_4.length c0_4, .slice A0_5 l0_5.length c0_5, .slice A0_6 l0_6.length c0_6] 25 ?_; intro gb272 hg w102 hbox hb; have n0_ := Aside0.mk (below_step bl hb); have n1_ := Aside0.mk (hbox); have n2_ := Aside0.mk ((gs1 : w.heap.size ≤ gb272)); have n3_ := Aside0.mk ((gs1 : w.heap.size ≤ gb272)); clear HB; have HB := n0_; have BK272 := n1_; have GW272 := n2_; have GE272 := n3_; clear n0_ n1_ n2_ n3_; clear hb hbox hg; have hcz103 := blk_cells BK272.out; have hfz103 := blk_frozens BK272.out) | (go_at_call 20; (with_reducible refine (sawmillref17_Check.calls k a0_0 a0_1 a0_2 _ _ l0_3 _ _ l0_4 _ _ l0_5 _ _ l0_6 t273 _ ?side1 ?side2 ?side3 ?side4 ?side5 ?side6 ?side7 ?side8 A3.out).mono ?_); (case side1 => exact cu1 (Kd.C_below HR0_3.out HB.out)); (case side2 => exact HC0_3.out); (case side3 => exact cu1 (Kd.C_below HR0_4.out HB.out)); (case side4 => exact HC0_4.out); (case side5 => exact cu1 (Kd.C_below HR0_5.out HB.out)); (case side6 => exact HC0_5.out); (case side7 => exact cu1 (Kd.C_below HR0_6.out HB.out)); (case side8 => exact HC0_6.out); rintro e w104 ⟨rfl, hb⟩; have n0_ := Aside0.mk (blk_below (by first | (with_reducible exact BK272.out) | (with_reducible exact blk_drewN BK272.out _) | exact bu BK272.out) hb); have n1_ := Aside0.mk (below_step bl hb); clear BK272; clear HB; have BK272 := n0_; have HB := n1_; clear n0_ n1_; (try clear hb); (try clear hb2); (try clear hk); (try clear hi))))
   go_ret3
   exact ⟨_, _, fe1, by first | exact Kd.R_nil _ _ _ _ _ | exact Kd.N_nil _ _ _ _ _ | exact Kd.V_nil _ _ _ _ _ | exact Kd.Q_nil _ _ _ _ _ | exact Kd.S_nil _ _ _ _ _, by first | exact Kd.R_nil _ _ _ _ _ | exact Kd.N_nil _ _ _ _ _ | exact Kd.V_nil _ _ _ _ _ | exact Kd.Q_nil _ _ _ _ _ | exact Kd.S_nil _ _ _ _ _, bl⟩
 rw [if_pos c4] at H
 have c4b0 : (t273 == 0) = true := beq_iff_eq.mpr c4
 have c4b1 : (t273 != 0) = false := bne_eq_false_iff_eq.mpr c4
 clear c4
 have H' := Aside0.mk H
 clear H
 go_enter Tryd.func22, Tryd.ntmps22
 go_wp2_with (first | ((with_reducible refine gate_dst (N := 2) rfl ?_); (try (refine gate_guard (by rfl) ?_; dsimp only)); refine bx1 (N := 2) #[.int .i64 a0_0, .int .i64 a0_1, .int .i64 a0_2, .slice A0_3 l0_3.length c0_3, .slice A0_4 l0_4.length c0_4, .slice A0_5 l0_5.length c0_5, .slice A0_6 l0_6.length c0_6] 25 ?_; intro gb272 hg w5 hbox hb; have n0_ := Aside0.mk (below_step bl hb); have n1_ := Aside0.mk (hbox); have n2_ := Aside0.mk ((gs1 : w.heap.size ≤ gb272)); have n3_ := Aside0.mk ((gs1 : w.heap.size ≤ gb272)); clear HB; have HB := n0_; have BK272 := n1_; have GW272 := n2_; have GE272 := n3_; clear n0_ n1_ n2_ n3_; clear hb hbox hg; have hcz6 := blk_cells BK272.out; have hfz6 := blk_frozens BK272.out) | (go_at_call 20; (with_reducible refine (sawmillref17_Check.calls k a0_0 a0_1 a0_2 _ _ l0_3 _ _ l0_4 _ _ l0_5 _ _ l0_6 t273 _ ?side1 ?side2 ?side3 ?side4 ?side5 ?side6 ?side7 ?side8 A3.out).mono ?_); (case side1 => exact cu1 (Kd.C_below HR0_3.out HB.out)); (case side2 => exact HC0_3.out); (case side3 => exact cu1 (Kd.C_below HR0_4.out HB.out)); (case side4 => exact HC0_4.out); (case side5 => exact cu1 (Kd.C_below HR0_5.out HB.out)); (case side6 => exact HC0_5.out); (case side7 => exact cu1 (Kd.C_below HR0_6.out HB.out)); (case side8 => exact HC0_6.out); rintro e w7 ⟨rfl, hb⟩; have n0_ := Aside0.mk (blk_below (by first | (with_reducible exact BK272.out) | (with_reducible exact blk_drewN BK272.out _) | exact bu BK272.out) hb); have n1_ := Aside0.mk (below_step bl hb); clear BK272; clear HB; have BK272 := n0_; have HB := n1_; clear n0_ n1_; (try clear hb); (try clear hb2); (try clear hk); (try clear hi)))
 repeat (go_quiet (first | ((with_reducible refine gate_dst (N := 2) rfl ?_); (try (refine gate_guard (by rfl) ?_; dsimp only)); refine bx1 (N := 2) #[.int .i64 a0_0, .int .i64 a0_1, .int .i64 a0_2, .slice A0_3 l0_3.length c0_3, .slice A0_4 l0_4.length c0_4, .slice A0_5 l0_5.length c0_5, .slice A0_6 l0_6.length c0_6] 25 ?_; intro gb272 hg w5 hbox hb; have n0_ := Aside0.mk (below_step bl hb); have n1_ := Aside0.mk (hbox); have n2_ := Aside0.mk ((gs1 : w.heap.size ≤ gb272)); have n3_ := Aside0.mk ((gs1 : w.heap.size ≤ gb272)); clear HB; have HB := n0_; have BK272 := n1_; have GW272 := n2_; have GE272 := n3_; clear n0_ n1_ n2_ n3_; clear hb hbox hg; have hcz6 := blk_cells BK272.out; have hfz6 := blk_frozens BK272.out) | (go_at_call 20; (with_reducible refine (sawmillref17_Check.calls k a0_0 a0_1 a0_2 _ _ l0_3 _ _ l0_4 _ _ l0_5 _ _ l0_6 t273 _ ?side1 ?side2 ?side3 ?side4 ?side5 ?side6 ?side7 ?side8 A3.out).mono ?_); (case side1 => exact cu1 (Kd.C_below HR0_3.out HB.out)); (case side2 => exact HC0_3.out); (case side3 => exact cu1 (Kd.C_below HR0_4.out HB.out)); (case side4 => exact HC0_4.out); (case side5 => exact cu1 (Kd.C_below HR0_5.out HB.out)); (case side6 => exact HC0_5.out); (case side7 => exact cu1 (Kd.C_below HR0_6.out HB.out)); (case side8 => exact HC0_6.out); rintro e w7 ⟨rfl, hb⟩; have n0_ := Aside0.mk (blk_below (by first | (with_reducible exact BK272.out) | (with_reducible exact blk_drewN BK272.out _) | exact bu BK272.out) hb); have n1_ := Aside0.mk (below_step bl hb); clear BK272; clear HB; have BK272 := n0_; have HB := n1_; clear n0_ n1_; (try clear hb); (try clear hb2); (try clear hk); (try clear hi))); try go_wp2_with (first | ((with_reducible refine gate_dst (N := 2) rfl ?_); (try (refine gate_guard (by rfl) ?_; dsimp only)); refine bx1 (N := 2) #[.int .i64 a0_0, .int .i64 a0_1, .int .i64 a0_2, .slice A0_3 l0_3.length c0_3, .slice A0_4 l0_4.length c0_4, .slice A0_5 l0_5.length c0_5, .slice A0_6 l0_6.length c0_6] 25 ?_; intro gb272 hg w5 hbox hb; have n0_ := Aside0.mk (below_step bl hb); have n1_ := Aside0.mk (hbox); have n2_ := Aside0.mk ((gs1 : w.heap.size ≤ gb272)); have n3_ := Aside0.mk ((gs1 : w.heap.size ≤ gb272)); clear HB; have HB := n0_; have BK272 := n1_; have GW272 := n2_; have GE272 := n3_; clear n0_ n1_ n2_ n3_; clear hb hbox hg; have hcz6 := blk_cells BK272.out; have hfz6 := blk_frozens BK272.out) | (go_at_call 20; (with_reducible refine (sawmillref17_Check.calls k a0_0 a0_1 a0_2 _ _ l0_3 _ _ l0_4 _ _ l0_5 _ _ l0_6 t273 _ ?side1 ?side2 ?side3 ?side4 ?side5 ?side6 ?side7 ?side8 A3.out).mono ?_); (case side1 => exact cu1 (Kd.C_below HR0_3.out HB.out)); (case side2 => exact HC0_3.out); (case side3 => exact cu1 (Kd.C_below HR0_4.out HB.out)); (case side4 => exact HC0_4.out); (case side5 => exact cu1 (Kd.C_below HR0_5.out HB.out)); (case side6 => exact HC0_5.out); (case side7 => exact cu1 (Kd.C_below HR0_6.out HB.out)); (case side8 => exact HC0_6.out); rintro e w7 ⟨rfl, hb⟩; have n0_ := Aside0.mk (blk_below (by first | (with_reducible exact BK272.out) | (with_reducible exact blk_drewN BK272.out _) | exact bu BK272.out) hb); have n1_ := Aside0.mk (below_step bl hb); clear BK272; clear HB; have BK272 := n0_; have HB := n1_; clear n0_ n1_; (try clear hb); (try clear hb2); (try clear hk); (try clear hi))))
 go_loopg [4, 5, 8, 9] k (fun kq v4 v5 v8 v9 w' => ∃ (x4_1 : List (S49)) (x5_1 : List (S49)) (x8_1 : Int) (x9_1 : Int), v8 = .int .i64 x8_1 ∧ v9 = .int .i64 x9_1 ∧ Aside0 (sawmillref17_Cuts.l0 kq l1 x4_1 x5_1 x8_1 x9_1 a0_0 a0_1 a0_2 l0_3 l0_4 l0_5 l0_6 = some (r1, r2, r3)) ∧ Aside0 (kq ≤ k) ∧ Aside0 (Kd.R k49 49 w' w.heap.size (fun k_ => some k_ ≠ (v5 : Value).ownBlock) v4 x4_1) ∧ Aside0 (Kd.R k49 49 w' w.heap.size (fun k_ => some k_ ≠ (v4 : Value).ownBlock) v5 x5_1) ∧ Aside0 (w'.heap[gb272]? = some (.cells #[.int .i64 a0_0, .int .i64 a0_1, .int .i64 a0_2, (.slice A0_3 l0_3.length c0_3), (.slice A0_4 l0_4.length c0_4), (.slice A0_5 l0_5.length c0_5), (.slice A0_6 l0_6.length c0_6)] 25 (0, 0))) ∧ Aside0 (Below w.heap.size w w'))
 case atStart => exact ⟨(([] : List (S49))), (([] : List (S49))), (0), (0), rs1, rs1, H', ⟨Nat.le_refl _⟩, ⟨by first | exact Kd.R_nil _ _ _ _ _ | exact Kd.N_nil _ _ _ _ _ | exact Kd.V_nil _ _ _ _ _ | exact Kd.Q_nil _ _ _ _ _ | exact Kd.S_nil _ _ _ _ _⟩, ⟨by first | exact Kd.R_nil _ _ _ _ _ | exact Kd.N_nil _ _ _ _ _ | exact Kd.V_nil _ _ _ _ _ | exact Kd.Q_nil _ _ _ _ _ | exact Kd.S_nil _ _ _ _ _⟩, ⟨bu BK272.out⟩, ⟨bl⟩⟩
 clear H'; (try clear c1); (try clear c2); (try clear p2); (try clear c4); (try clear c4b0); (try clear c4b1); (try clear hcz6); (try clear hfz6)
 obtain ⟨x4_1, x5_1, x8_1, x9_1, rfl, rfl, HA, HK1, HO_4, HO_5, BK272, HB⟩ := hrel
 rcases gk with _ | k1
 · exact absurd HA.out (by simp [sawmillref17_Cuts.l0])
 have H := HA.out
 clear HA
 simp only [sawmillref17_Cuts.l0] at H
 by_cases c8 : x9_1 < (l1.length : Int)
 rotate_left
 · rw [if_neg c8] at H
   have c8b0 : decide (x9_1 < (l1.length : Int)) = false := decide_eq_false c8
   clear c8
   by_cases c97 : x8_1 ≥ 0
   rotate_left
   · rw [if_neg c97] at H
     have c97b0 : decide (0 ≤ x8_1) = false := decide_eq_false c97
     clear c97
     simp only [Option.some.injEq, Prod.mk.injEq] at H
     obtain ⟨rfl, rfl, rfl⟩ := H
     go_wp2
     repeat (go_quiet (fail); try go_wp2)
     go_ret3
     exact ⟨_, _, fe1, by (with_reducible repeat (first | apply Kd.R_alloc | apply Kd.R_drewN | apply Kd.R_drew)); exact HO_4.out, by (with_reducible repeat (first | apply Kd.R_alloc | apply Kd.R_drewN | apply Kd.R_drew)); exact HO_5.out, bl⟩
   rw [if_pos c97] at H
   have c97b0 : decide (0 ≤ x8_1) = true := decide_eq_true c97
   clear c97
   replace H := Option.bind_eq_some_iff.mp H
   obtain ⟨t274, A980, H⟩ := H
   replace H : (some (x4_1, t274, 0)) = some (r1, r2, r3) := H
   have A98 := Aside0.mk A980
   clear A980
   simp only [Option.some.injEq, Prod.mk.injEq] at H
   obtain ⟨rfl, rfl, rfl⟩ := H
   have hcz99 := blk_cells BK272.out
   have hfz99 := blk_frozens BK272.out
   obtain ⟨Ao100, co100, eo100⟩ := Kd.R_slice HO_5.out
   subst eo100
   go_wp2_with (first | (go_at_call 54; (with_reducible refine (sawmillref17_add.calls (fun k_ => some k_ = (.slice Ao100 x5_1.length co100 : Value).ownBlock) (.slice Ao100 x5_1.length co100) x5_1 x8_1 a0_0 t274 w _ ?side1 ?side2 A98.out).mono ?_); (case side1 => repeat (first | (with_reducible first | exact HB.out | apply below_alloc | apply pw_below_drewN | apply below_drew1 | refine below_set ?_ GE272.out) | exact HB.out)); (case side2 => exact Kd.R_tight rfl HO_5.out); rintro e w101 ⟨v275, rfl, ho0, hb, hkp⟩; have n0_ := Aside0.mk (Kd.R_mono (ok' := fun k_ => some k_ ≠ (v275 : Value).ownBlock) (Kd.R_keptB (HO_4.out) hkp (fun k_ hk_ hs_ => (hk_) hs_)) (fun k_ hk_ => fun e_ => Or.elim (ho0.1 k_ e_.symm) (fun hs_ => hk_.2.1 hs_) (fun hn_ => Nat.not_le.2 hk_.2.2 hn_))); have n1_ := Aside0.mk (blk_kept (by first | (with_reducible exact BK272.out) | (with_reducible exact blk_drewN BK272.out _) | exact bu BK272.out) hkp (fun hs_ => (fun e_ => (Kd.R_ne HO_5.out BK272.out (by decide)) e_) hs_)); have n2_ := Aside0.mk (Kd.R_mono (ok' := fun k_ => some k_ ≠ (u4 : Value).ownBlock) ho0 (fun k_ hk_ => Or.elim hk_ (fun hs_ => fun e_ => (((HO_4.out).1 k_ e_.symm)) hs_) (fun hn_ => (Kd.fresh' (Kd.R_lt (ru HO_4.out)) k_ hn_)))); have n3_ := Aside0.mk (hb); clear HO_4; clear BK272; clear HB; clear HO_5; have HO_4 := n0_; have BK272 := n1_; have HO276 := n2_; have HB := n3_; clear n0_ n1_ n2_ n3_; (try clear hb); (try clear hkp); (try clear ho0)))
   repeat (go_quiet (first | (go_at_call 54; (with_reducible refine (sawmillref17_add.calls (fun k_ => some k_ = (.slice Ao100 x5_1.length co100 : Value).ownBlock) (.slice Ao100 x5_1.length co100) x5_1 x8_1 a0_0 t274 w _ ?side1 ?side2 A98.out).mono ?_); (case side1 => repeat (first | (with_reducible first | exact HB.out | apply below_alloc | apply pw_below_drewN | apply below_drew1 | refine below_set ?_ GE272.out) | exact HB.out)); (case side2 => exact Kd.R_tight rfl HO_5.out); rintro e w101 ⟨v275, rfl, ho0, hb, hkp⟩; have n0_ := Aside0.mk (Kd.R_mono (ok' := fun k_ => some k_ ≠ (v275 : Value).ownBlock) (Kd.R_keptB (HO_4.out) hkp (fun k_ hk_ hs_ => (hk_) hs_)) (fun k_ hk_ => fun e_ => Or.elim (ho0.1 k_ e_.symm) (fun hs_ => hk_.2.1 hs_) (fun hn_ => Nat.not_le.2 hk_.2.2 hn_))); have n1_ := Aside0.mk (blk_kept (by first | (with_reducible exact BK272.out) | (with_reducible exact blk_drewN BK272.out _) | exact bu BK272.out) hkp (fun hs_ => (fun e_ => (Kd.R_ne HO_5.out BK272.out (by decide)) e_) hs_)); have n2_ := Aside0.mk (Kd.R_mono (ok' := fun k_ => some k_ ≠ (u4 : Value).ownBlock) ho0 (fun k_ hk_ => Or.elim hk_ (fun hs_ => fun e_ => (((HO_4.out).1 k_ e_.symm)) hs_) (fun hn_ => (Kd.fresh' (Kd.R_lt (ru HO_4.out)) k_ hn_)))); have n3_ := Aside0.mk (hb); clear HO_4; clear BK272; clear HB; clear HO_5; have HO_4 := n0_; have BK272 := n1_; have HO276 := n2_; have HB := n3_; clear n0_ n1_ n2_ n3_; (try clear hb); (try clear hkp); (try clear ho0))); try go_wp2_with (first | (go_at_call 54; (with_reducible refine (sawmillref17_add.calls (fun k_ => some k_ = (.slice Ao100 x5_1.length co100 : Value).ownBlock) (.slice Ao100 x5_1.length co100) x5_1 x8_1 a0_0 t274 w _ ?side1 ?side2 A98.out).mono ?_); (case side1 => repeat (first | (with_reducible first | exact HB.out | apply below_alloc | apply pw_below_drewN | apply below_drew1 | refine below_set ?_ GE272.out) | exact HB.out)); (case side2 => exact Kd.R_tight rfl HO_5.out); rintro e w101 ⟨v275, rfl, ho0, hb, hkp⟩; have n0_ := Aside0.mk (Kd.R_mono (ok' := fun k_ => some k_ ≠ (v275 : Value).ownBlock) (Kd.R_keptB (HO_4.out) hkp (fun k_ hk_ hs_ => (hk_) hs_)) (fun k_ hk_ => fun e_ => Or.elim (ho0.1 k_ e_.symm) (fun hs_ => hk_.2.1 hs_) (fun hn_ => Nat.not_le.2 hk_.2.2 hn_))); have n1_ := Aside0.mk (blk_kept (by first | (with_reducible exact BK272.out) | (with_reducible exact blk_drewN BK272.out _) | exact bu BK272.out) hkp (fun hs_ => (fun e_ => (Kd.R_ne HO_5.out BK272.out (by decide)) e_) hs_)); have n2_ := Aside0.mk (Kd.R_mono (ok' := fun k_ => some k_ ≠ (u4 : Value).ownBlock) ho0 (fun k_ hk_ => Or.elim hk_ (fun hs_ => fun e_ => (((HO_4.out).1 k_ e_.symm)) hs_) (fun hn_ => (Kd.fresh' (Kd.R_lt (ru HO_4.out)) k_ hn_)))); have n3_ := Aside0.mk (hb); clear HO_4; clear BK272; clear HB; clear HO_5; have HO_4 := n0_; have BK272 := n1_; have HO276 := n2_; have HB := n3_; clear n0_ n1_ n2_ n3_; (try clear hb); (try clear hkp); (try clear ho0))))
   go_ret3
   exact ⟨_, _, fe1, by (with_reducible repeat (first | apply Kd.R_alloc | apply Kd.R_drewN | apply Kd.R_drew)); exact HO_4.out, by (with_reducible repeat (first | apply Kd.R_alloc | apply Kd.R_drewN | apply Kd.R_drew)); exact HO276.out, bl⟩
 rw [if_pos c8] at H
 have c8b0 : decide (x9_1 < (l1.length : Int)) = true := decide_eq_true c8
 clear c8
 obtain ⟨c9, H⟩ := gd1 H
 have c9b0 : decide (0 ≤ x9_1) = true := decide_eq_true c9
 clear c9
 have HC10 := Aside0.mk H
 clear H
 have p277 : 0 ≤ (x9_1 : Int) := da1
 have q277 : x9_1 < (l1.length : Int) := da1
 obtain ⟨ad277, e277, hx277_0, hx277_1⟩ := at_T69 HR1.out x9_1 p277 q277
 cases e277
 (try replace hx277_0 := (HB.out.cell (World.block_lt_of_cell? w _ hx277_0)).trans hx277_0)
 (try replace hx277_1 := (HB.out.cell (World.block_lt_of_cell? w _ hx277_1)).trans hx277_1)
 replace p277 := eq_true p277
 replace q277 := eq_true q277
 go_upto_region 9 with (first | ((with_reducible refine gate_dst (N := 10) rfl ?_); (try (refine gate_guard (by rfl) ?_; dsimp only)); refine bx1 (N := 10) #[.int .i64 0, .int .i64 0] 69 ?_; intro gb278 hg w11 hbox hb; have n0_ := Aside0.mk (Kd.R_below (ru HO_4.out) hb); have n1_ := Aside0.mk (Kd.R_below (ru HO_5.out) hb); have n2_ := Aside0.mk (blk_below (bu BK272.out) hb); have n3_ := Aside0.mk (below_step bl hb); have n4_ := Aside0.mk (hbox); have n5_ := Aside0.mk ((gs1 : w.heap.size ≤ gb278)); have n6_ := Aside0.mk ((gs1 : w.heap.size ≤ gb278)); have n7_ := Aside0.mk ((nl1 BK272 : gb272 ≠ gb278)); have n8_ := Aside0.mk ((ng1 BK272 : gb278 ≠ gb272)); clear HO_4; clear HO_5; clear BK272; clear HB; have HO_4 := n0_; have HO_5 := n1_; have BK272 := n2_; have HB := n3_; have BK278 := n4_; have GW278 := n5_; have GE278 := n6_; have NB272_278 := n7_; have NB278_272 := n8_; clear n0_ n1_ n2_ n3_ n4_ n5_ n6_ n7_ n8_; clear hb hbox hg; have hnb12 := NB278_272.out; have hnc12 := NB272_278.out; have hcz13 := blk_cells BK278.out; have hfz13 := blk_frozens BK278.out))
 repeat (go_quiet (first | ((with_reducible refine gate_dst (N := 10) rfl ?_); (try (refine gate_guard (by rfl) ?_; dsimp only)); refine bx1 (N := 10) #[.int .i64 0, .int .i64 0] 69 ?_; intro gb278 hg w11 hbox hb; have n0_ := Aside0.mk (Kd.R_below (ru HO_4.out) hb); have n1_ := Aside0.mk (Kd.R_below (ru HO_5.out) hb); have n2_ := Aside0.mk (blk_below (bu BK272.out) hb); have n3_ := Aside0.mk (below_step bl hb); have n4_ := Aside0.mk (hbox); have n5_ := Aside0.mk ((gs1 : w.heap.size ≤ gb278)); have n6_ := Aside0.mk ((gs1 : w.heap.size ≤ gb278)); have n7_ := Aside0.mk ((nl1 BK272 : gb272 ≠ gb278)); have n8_ := Aside0.mk ((ng1 BK272 : gb278 ≠ gb272)); clear HO_4; clear HO_5; clear BK272; clear HB; have HO_4 := n0_; have HO_5 := n1_; have BK272 := n2_; have HB := n3_; have BK278 := n4_; have GW278 := n5_; have GE278 := n6_; have NB272_278 := n7_; have NB278_272 := n8_; clear n0_ n1_ n2_ n3_ n4_ n5_ n6_ n7_ n8_; clear hb hbox hg; have hnb12 := NB278_272.out; have hnc12 := NB272_278.out; have hcz13 := blk_cells BK278.out; have hfz13 := blk_frozens BK278.out)); go_upto_region 9 with (first | ((with_reducible refine gate_dst (N := 10) rfl ?_); (try (refine gate_guard (by rfl) ?_; dsimp only)); refine bx1 (N := 10) #[.int .i64 0, .int .i64 0] 69 ?_; intro gb278 hg w11 hbox hb; have n0_ := Aside0.mk (Kd.R_below (ru HO_4.out) hb); have n1_ := Aside0.mk (Kd.R_below (ru HO_5.out) hb); have n2_ := Aside0.mk (blk_below (bu BK272.out) hb); have n3_ := Aside0.mk (below_step bl hb); have n4_ := Aside0.mk (hbox); have n5_ := Aside0.mk ((gs1 : w.heap.size ≤ gb278)); have n6_ := Aside0.mk ((gs1 : w.heap.size ≤ gb278)); have n7_ := Aside0.mk ((nl1 BK272 : gb272 ≠ gb278)); have n8_ := Aside0.mk ((ng1 BK272 : gb278 ≠ gb272)); clear HO_4; clear HO_5; clear BK272; clear HB; have HO_4 := n0_; have HO_5 := n1_; have BK272 := n2_; have HB := n3_; have BK278 := n4_; have GW278 := n5_; have GE278 := n6_; have NB272_278 := n7_; have NB278_272 := n8_; clear n0_ n1_ n2_ n3_ n4_ n5_ n6_ n7_ n8_; clear hb hbox hg; have hnb12 := NB278_272.out; have hnc12 := NB272_278.out; have hcz13 := blk_cells BK278.out; have hfz13 := blk_frozens BK278.out)))
 (try simp only [Act.put, List.setIfInBounds_toArray, List.set_cons_zero, List.set_cons_succ])
 go_cut [39] (fun v39 wc => ∃ (kq : Nat) (x39_9 : Bool), v39 = .bool x39_9 ∧ Aside0 (sawmillref17_Cuts.j1 kq l1 x4_1 x5_1 x8_1 x9_1 x39_9 a0_0 a0_1 a0_2 l0_3 l0_4 l0_5 l0_6 ((rd_T69 l1 x9_1).f0) ((rd_T69 l1 x9_1).f1) = some (r1, r2, r3)) ∧ Aside0 (kq ≤ k1) ∧ Aside0 (Kd.R k49 49 wc w.heap.size (fun k_ => some k_ ≠ (u5 : Value).ownBlock) u4 x4_1) ∧ Aside0 (Kd.R k49 49 wc w.heap.size (fun k_ => some k_ ≠ (u4 : Value).ownBlock) u5 x5_1) ∧ Aside0 (wc.heap[gb272]? = some (.cells #[.int .i64 a0_0, .int .i64 a0_1, .int .i64 a0_2, (.slice A0_3 l0_3.length c0_3), (.slice A0_4 l0_4.length c0_4), (.slice A0_5 l0_5.length c0_5), (.slice A0_6 l0_6.length c0_6)] 25 (0, 0))) ∧ Aside0 (wc.heap[gb278]? = some (.cells #[.int .i64 ((rd_T69 l1 x9_1).f0), .int .i64 ((rd_T69 l1 x9_1).f1)] 69 (0, 0))) ∧ Aside0 (Below w.heap.size w wc))
 case first =>
  have H := HC10.out
  clear HC10
  by_cases c14 : ((rd_T69 l1 x9_1).f0) < 0
  · rw [if_pos c14] at H
    have c14b0 : decide (((rd_T69 l1 x9_1).f0) < 0) = true := decide_eq_true c14
    clear c14
    (first | rw [c14b0] | (simp only [i64_w, i32_w]; rw [c14b0]) | skip)
    have H' := Aside0.mk H
    clear H
    have hnb15 := NB278_272.out
    have hnc15 := NB272_278.out
    have hcz16_0 : w11.cell? ⟨gb278, 0, none⟩ = some (.int .i64 0) := (blk_cell BK278.out 0).trans rfl
    have hcz16_1 : w11.cell? ⟨gb278, 1, none⟩ = some (.int .i64 0) := (blk_cell BK278.out 1).trans rfl
    have hfz16_0 := blk_frozen BK278.out 0
    have hfz16_1 := blk_frozen BK278.out 1
    go_wp2
    repeat (go_quiet (fail); try go_wp2)
    go_meet
    case rel => exact ⟨_, (true), rs1, H', ⟨by have := HK1.out; first | omega | exact Nat.le_refl _⟩, ⟨by (with_reducible repeat (first | apply Kd.R_alloc | apply Kd.R_drewN | apply Kd.R_drew)); exact Kd.R_mono (Kd.R_far (p := ⟨gb278, 1, none⟩) (Kd.R_far (p := ⟨gb278, 0, none⟩) (Kd.R_types HO_4.out BK278.out (by decide)) (fun _ hk => hk.2) (.int .i64 ((rd_T69 l1 x9_1).f0))) (fun _ hk => hk.2) (.int .i64 ((rd_T69 l1 x9_1).f1))) (fun _ hk => hk.1)⟩, ⟨by (with_reducible repeat (first | apply Kd.R_alloc | apply Kd.R_drewN | apply Kd.R_drew)); exact Kd.R_mono (Kd.R_far (p := ⟨gb278, 1, none⟩) (Kd.R_far (p := ⟨gb278, 0, none⟩) (Kd.R_types HO_5.out BK278.out (by decide)) (fun _ hk => hk.2) (.int .i64 ((rd_T69 l1 x9_1).f0))) (fun _ hk => hk.2) (.int .i64 ((rd_T69 l1 x9_1).f1))) (fun _ hk => hk.1)⟩, ⟨by (with_reducible repeat (first | refine blk_drewN ?_ _ | refine blk_drew ?_ | refine blk_alloc ?_ _)); refine blk_far ?_ NB272_278.out _; (with_reducible repeat (first | refine blk_drewN ?_ _ | refine blk_drew ?_ | refine blk_alloc ?_ _)); refine blk_far ?_ NB272_278.out _; (with_reducible repeat (first | refine blk_drewN ?_ _ | refine blk_drew ?_ | refine blk_alloc ?_ _)); exact BK272.out⟩, ⟨by (with_reducible repeat (first | refine blk_drewN ?_ _ | refine blk_drew ?_ | refine blk_alloc ?_ _)); refine blk_put (cs := #[.int .i64 ((rd_T69 l1 x9_1).f0), .int .i64 0]) ?_ 1 _ rfl; (with_reducible repeat (first | refine blk_drewN ?_ _ | refine blk_drew ?_ | refine blk_alloc ?_ _)); refine blk_put (cs := #[.int .i64 0, .int .i64 0]) ?_ 0 _ rfl; (with_reducible repeat (first | refine blk_drewN ?_ _ | refine blk_drew ?_ | refine blk_alloc ?_ _)); exact BK278.out⟩, ⟨bl⟩⟩
  rw [if_neg c14] at H
  have c14b0 : decide (((rd_T69 l1 x9_1).f0) < 0) = false := decide_eq_false c14
  clear c14
  (first | rw [c14b0] | (simp only [i64_w, i32_w]; rw [c14b0]) | skip)
  have H' := Aside0.mk H
  clear H
  have hnb17 := NB278_272.out
  have hnc17 := NB272_278.out
  have hcz18_0 : w11.cell? ⟨gb278, 0, none⟩ = some (.int .i64 0) := (blk_cell BK278.out 0).trans rfl
  have hcz18_1 : w11.cell? ⟨gb278, 1, none⟩ = some (.int .i64 0) := (blk_cell BK278.out 1).trans rfl
  have hfz18_0 := blk_frozen BK278.out 0
  have hfz18_1 := blk_frozen BK278.out 1
  have hcz19 := blk_cells BK272.out
  have hfz19 := blk_frozens BK272.out
  go_wp2
  repeat (go_quiet (fail); try go_wp2)
  go_meet
  case rel => exact ⟨_, (decide (((rd_T69 l1 x9_1).f0) ≥ (l0_3.length : Int))), rs1, H', ⟨by have := HK1.out; first | omega | exact Nat.le_refl _⟩, ⟨by (with_reducible repeat (first | apply Kd.R_alloc | apply Kd.R_drewN | apply Kd.R_drew)); exact Kd.R_mono (Kd.R_far (p := ⟨gb278, 1, none⟩) (Kd.R_far (p := ⟨gb278, 0, none⟩) (Kd.R_types HO_4.out BK278.out (by decide)) (fun _ hk => hk.2) (.int .i64 ((rd_T69 l1 x9_1).f0))) (fun _ hk => hk.2) (.int .i64 ((rd_T69 l1 x9_1).f1))) (fun _ hk => hk.1)⟩, ⟨by (with_reducible repeat (first | apply Kd.R_alloc | apply Kd.R_drewN | apply Kd.R_drew)); exact Kd.R_mono (Kd.R_far (p := ⟨gb278, 1, none⟩) (Kd.R_far (p := ⟨gb278, 0, none⟩) (Kd.R_types HO_5.out BK278.out (by decide)) (fun _ hk => hk.2) (.int .i64 ((rd_T69 l1 x9_1).f0))) (fun _ hk => hk.2) (.int .i64 ((rd_T69 l1 x9_1).f1))) (fun _ hk => hk.1)⟩, ⟨by (with_reducible repeat (first | refine blk_drewN ?_ _ | refine blk_drew ?_ | refine blk_alloc ?_ _)); refine blk_far ?_ NB272_278.out _; (with_reducible repeat (first | refine blk_drewN ?_ _ | refine blk_drew ?_ | refine blk_alloc ?_ _)); refine blk_far ?_ NB272_278.out _; (with_reducible repeat (first | refine blk_drewN ?_ _ | refine blk_drew ?_ | refine blk_alloc ?_ _)); exact BK272.out⟩, ⟨by (with_reducible repeat (first | refine blk_drewN ?_ _ | refine blk_drew ?_ | refine blk_alloc ?_ _)); refine blk_put (cs := #[.int .i64 ((rd_T69 l1 x9_1).f0), .int .i64 0]) ?_ 1 _ rfl; (with_reducible repeat (first | refine blk_drewN ?_ _ | refine blk_drew ?_ | refine blk_alloc ?_ _)); refine blk_put (cs := #[.int .i64 0, .int .i64 0]) ?_ 0 _ rfl; (with_reducible repeat (first | refine blk_drewN ?_ _ | refine blk_drew ?_ | refine blk_alloc ?_ _)); exact BK278.out⟩, ⟨bl⟩⟩
 clear HC10; (try clear c1); (try clear c2); (try clear p2); (try clear q2); (try clear hx2); (try clear c4); (try clear c4b0); (try clear c4b1); (try clear c8); (try clear c8b0); (try clear c9); (try clear c9b0); (try clear c12); (try clear c14); (try clear c14b0); (try clear c15); (try clear c17); (try clear hcz13); (try clear hcz16); (try clear hcz18); (try clear hcz19); (try clear hcz6); (try clear hfz13); (try clear hfz16); (try clear hfz18); (try clear hfz19); (try clear hfz6); (try clear hx277_0); (try clear hx277_1); (try clear p2); (try clear p277); (try clear q277)
 obtain ⟨kq, x39_9, rfl, HA, HJ9, HO_4, HO_5, BK272, BK278, HB⟩ := hcut
 rcases kq with _ | kj9
 · exact absurd HA.out (by simp [sawmillref17_Cuts.j1])
 have H := HA.out
 clear HA
 simp only [sawmillref17_Cuts.j1] at H
 by_cases c20 : x39_9 = true
 · subst c20
   have H1 : (some (([] : List (S49)), ([] : List (S49)), 9)) = some (r1, r2, r3) := by rw [if_pos rfl] at H; exact H
   clear H
   have H := H1
   clear H1
   simp only [Option.some.injEq, Prod.mk.injEq] at H
   obtain ⟨rfl, rfl, rfl⟩ := H
   exact L22_0
 replace c20 := Bool.eq_false_iff.mpr c20
 subst c20
 have H1 : (if 0 ≤ ((rd_T69 l1 x9_1).f0) then (if ((rd_T69 l1 x9_1).f0) < (l0_3.length : Int) then (if ((rd_T69 l1 x9_1).f1) < 0 then (sawmillref17_Cuts.j2 kj9 l1 x4_1 x5_1 x8_1 x9_1 (rd l0_3 ((rd_T69 l1 x9_1).f0)) true a0_0 a0_1 a0_2 l0_3 l0_4 l0_5 l0_6 ((rd_T69 l1 x9_1).f0) ((rd_T69 l1 x9_1).f1)) else (sawmillref17_Cuts.j2 kj9 l1 x4_1 x5_1 x8_1 x9_1 (rd l0_3 ((rd_T69 l1 x9_1).f0)) (decide (((rd_T69 l1 x9_1).f1) > (wrap64 (a0_0 - (rd l0_3 ((rd_T69 l1 x9_1).f0)))))) a0_0 a0_1 a0_2 l0_3 l0_4 l0_5 l0_6 ((rd_T69 l1 x9_1).f0) ((rd_T69 l1 x9_1).f1))) else (none)) else (none)) = some (r1, r2, r3) := by rw [if_neg (show ¬ (false = true) by decide)] at H; exact H
 clear H
 have H := H1
 clear H1
 obtain ⟨c21, H⟩ := gd1 H
 have c21b0 : decide (0 ≤ ((rd_T69 l1 x9_1).f0)) = true := decide_eq_true c21
 clear c21
 obtain ⟨c22, H⟩ := gd1 H
 have c22b0 : decide (((rd_T69 l1 x9_1).f0) < (l0_3.length : Int)) = true := decide_eq_true c22
 clear c22
 have HC23 := Aside0.mk H
 clear H
 have hnb24 := NB272_278.out
 have hnc24 := NB278_272.out
 have hcz25 := blk_cells BK272.out
 have hfz25 := blk_frozens BK272.out
 have hcz26_0 : wc.cell? ⟨gb278, 0, none⟩ = some (.int .i64 ((rd_T69 l1 x9_1).f0)) := (blk_cell BK278.out 0).trans rfl
 have hcz26_1 : wc.cell? ⟨gb278, 1, none⟩ = some (.int .i64 ((rd_T69 l1 x9_1).f1)) := (blk_cell BK278.out 1).trans rfl
 have hfz26_0 := blk_frozen BK278.out 0
 have hfz26_1 := blk_frozen BK278.out 1
 have p279 : 0 ≤ (((rd_T69 l1 x9_1).f0) : Int) := da1
 have q279 : ((rd_T69 l1 x9_1).f0) < (l0_3.length : Int) := da1
 obtain ⟨ad279, e279, hx279_0⟩ := Kd.at_int HR0_3.out ((rd_T69 l1 x9_1).f0) p279 q279
 cases e279
 (try replace hx279_0 := (HB.out.cell (World.block_lt_of_cell? w _ hx279_0)).trans hx279_0)
 replace p279 := eq_true p279
 replace q279 := eq_true q279
 go_upto_region 12 with (fail)
 repeat (go_quiet (fail); go_upto_region 12 with (fail))
 go_cut [57] (fun v57 wc => ∃ (kq : Nat) (x57_22 : Bool), v57 = .bool x57_22 ∧ Aside0 (sawmillref17_Cuts.j2 kq l1 x4_1 x5_1 x8_1 x9_1 (rd l0_3 ((rd_T69 l1 x9_1).f0)) x57_22 a0_0 a0_1 a0_2 l0_3 l0_4 l0_5 l0_6 ((rd_T69 l1 x9_1).f0) ((rd_T69 l1 x9_1).f1) = some (r1, r2, r3)) ∧ Aside0 (kq ≤ kj9) ∧ Aside0 (Kd.R k49 49 wc w.heap.size (fun k_ => some k_ ≠ (u5 : Value).ownBlock) u4 x4_1) ∧ Aside0 (Kd.R k49 49 wc w.heap.size (fun k_ => some k_ ≠ (u4 : Value).ownBlock) u5 x5_1) ∧ Aside0 (wc.heap[gb272]? = some (.cells #[.int .i64 a0_0, .int .i64 a0_1, .int .i64 a0_2, (.slice (some ad279) l0_3.length c0_3), (.slice A0_4 l0_4.length c0_4), (.slice A0_5 l0_5.length c0_5), (.slice A0_6 l0_6.length c0_6)] 25 (0, 0))) ∧ Aside0 (wc.heap[gb278]? = some (.cells #[.int .i64 ((rd_T69 l1 x9_1).f0), .int .i64 ((rd_T69 l1 x9_1).f1)] 69 (0, 0))) ∧ Aside0 (Below w.heap.size w wc))
 case first =>
  have H := HC23.out
  clear HC23
  by_cases c27 : ((rd_T69 l1 x9_1).f1) < 0
  · rw [if_pos c27] at H
    have c27b0 : decide (((rd_T69 l1 x9_1).f1) < 0) = true := decide_eq_true c27
    clear c27
    (first | rw [c27b0] | (simp only [i64_w, i32_w]; rw [c27b0]) | skip)
    have H' := Aside0.mk H
    clear H
    have hnb28 := NB278_272.out
    have hnc28 := NB272_278.out
    have hcz29_0 : wc.cell? ⟨gb278, 0, none⟩ = some (.int .i64 ((rd_T69 l1 x9_1).f0)) := (blk_cell BK278.out 0).trans rfl
    have hcz29_1 : wc.cell? ⟨gb278, 1, none⟩ = some (.int .i64 ((rd_T69 l1 x9_1).f1)) := (blk_cell BK278.out 1).trans rfl
    have hfz29_0 := blk_frozen BK278.out 0
    have hfz29_1 := blk_frozen BK278.out 1
    go_wp2
    repeat (go_quiet (fail); try go_wp2)
    go_meet
    case rel => exact ⟨_, (true), rs1, H', ⟨by have := HK1.out; have := HJ9.out; first | omega | exact Nat.le_refl _⟩, ⟨by (with_reducible repeat (first | apply Kd.R_alloc | apply Kd.R_drewN | apply Kd.R_drew)); exact HO_4.out⟩, ⟨by (with_reducible repeat (first | apply Kd.R_alloc | apply Kd.R_drewN | apply Kd.R_drew)); exact HO_5.out⟩, ⟨bu BK272.out⟩, ⟨bu BK278.out⟩, ⟨bl⟩⟩
  rw [if_neg c27] at H
  have c27b0 : decide (((rd_T69 l1 x9_1).f1) < 0) = false := decide_eq_false c27
  clear c27
  (first | rw [c27b0] | (simp only [i64_w, i32_w]; rw [c27b0]) | skip)
  have H' := Aside0.mk H
  clear H
  have hnb30 := NB278_272.out
  have hnc30 := NB272_278.out
  have hcz31_0 : wc.cell? ⟨gb278, 0, none⟩ = some (.int .i64 ((rd_T69 l1 x9_1).f0)) := (blk_cell BK278.out 0).trans rfl
  have hcz31_1 : wc.cell? ⟨gb278, 1, none⟩ = some (.int .i64 ((rd_T69 l1 x9_1).f1)) := (blk_cell BK278.out 1).trans rfl
  have hfz31_0 := blk_frozen BK278.out 0
  have hfz31_1 := blk_frozen BK278.out 1
  have hcz32 := blk_cells BK272.out
  have hfz32 := blk_frozens BK272.out
  go_wp2
  repeat (go_quiet (fail); try go_wp2)
  go_meet
  case rel => exact ⟨_, (decide (((rd_T69 l1 x9_1).f1) > (wrap64 (a0_0 - (rd l0_3 ((rd_T69 l1 x9_1).f0)))))), rs1, H', ⟨by have := HK1.out; have := HJ9.out; first | omega | exact Nat.le_refl _⟩, ⟨by (with_reducible repeat (first | apply Kd.R_alloc | apply Kd.R_drewN | apply Kd.R_drew)); exact HO_4.out⟩, ⟨by (with_reducible repeat (first | apply Kd.R_alloc | apply Kd.R_drewN | apply Kd.R_drew)); exact HO_5.out⟩, ⟨bu BK272.out⟩, ⟨bu BK278.out⟩, ⟨bl⟩⟩
 clear HC23; (try clear c1); (try clear c2); (try clear p2); (try clear q2); (try clear hx2); (try clear c3); (try clear c4); (try clear c4b0); (try clear c4b1); (try clear p6); (try clear c8); (try clear c8b0); (try clear c9); (try clear c9b0); (try clear c12); (try clear c14); (try clear c14b0); (try clear c15); (try clear c17); (try clear c20); (try clear c21); (try clear c21b0); (try clear c22); (try clear c22b0); (try clear c24); (try clear c27); (try clear c27b0); (try clear p27); (try clear q27); (try clear hx27); (try clear c28); (try clear c30); (try clear hcz13); (try clear hcz16); (try clear hcz18); (try clear hcz19); (try clear hcz25); (try clear hcz26); (try clear hcz29); (try clear hcz31); (try clear hcz32); (try clear hcz6); (try clear hfz13); (try clear hfz16); (try clear hfz18); (try clear hfz19); (try clear hfz25); (try clear hfz26); (try clear hfz29); (try clear hfz31); (try clear hfz32); (try clear hfz6); (try clear hx277_0); (try clear hx277_1); (try clear hx279_0); (try clear p2); (try clear p277); (try clear p279); (try clear q2); (try clear q277); (try clear q279)
 obtain ⟨kq, x57_22, rfl, HA, HJ22, HO_4, HO_5, BK272, BK278, HB⟩ := hcut
 rcases kq with _ | kj22
 · exact absurd HA.out (by simp [sawmillref17_Cuts.j2])
 have H := HA.out
 clear HA
 simp only [sawmillref17_Cuts.j2] at H
 by_cases c33 : x57_22 = true
 · subst c33
   have H1 : (some (([] : List (S49)), ([] : List (S49)), 20)) = some (r1, r2, r3) := by rw [if_pos rfl] at H; exact H
   clear H
   have H := H1
   clear H1
   simp only [Option.some.injEq, Prod.mk.injEq] at H
   obtain ⟨rfl, rfl, rfl⟩ := H
   exact L22_0
 replace c33 := Bool.eq_false_iff.mpr c33
 subst c33
 have H1 : (if x8_1 < 0 then (sawmillref17_Cuts.j3 kj22 l1 x4_1 x5_1 x8_1 x9_1 (rd l0_3 ((rd_T69 l1 x9_1).f0)) (wrap64 ((wrap64 (((rd_T69 l1 x9_1).f1) - a0_1)) - x8_1)) true a0_0 a0_1 a0_2 l0_3 l0_4 l0_5 l0_6 ((rd_T69 l1 x9_1).f0) ((rd_T69 l1 x9_1).f1)) else (if ((rd_T69 l1 x9_1).f1) = x8_1 then (sawmillref17_Cuts.j3 kj22 l1 x4_1 x5_1 x8_1 x9_1 (rd l0_3 ((rd_T69 l1 x9_1).f0)) (wrap64 ((wrap64 (((rd_T69 l1 x9_1).f1) - a0_1)) - x8_1)) false a0_0 a0_1 a0_2 l0_3 l0_4 l0_5 l0_6 ((rd_T69 l1 x9_1).f0) ((rd_T69 l1 x9_1).f1)) else (if (wrap64 ((wrap64 (((rd_T69 l1 x9_1).f1) - a0_1)) - x8_1)) < 1 then (sawmillref17_Cuts.j3 kj22 l1 x4_1 x5_1 x8_1 x9_1 (rd l0_3 ((rd_T69 l1 x9_1).f0)) (wrap64 ((wrap64 (((rd_T69 l1 x9_1).f1) - a0_1)) - x8_1)) true a0_0 a0_1 a0_2 l0_3 l0_4 l0_5 l0_6 ((rd_T69 l1 x9_1).f0) ((rd_T69 l1 x9_1).f1)) else (if a0_2 = 0 then (none) else (sawmillref17_Cuts.j3 kj22 l1 x4_1 x5_1 x8_1 x9_1 (rd l0_3 ((rd_T69 l1 x9_1).f0)) (wrap64 ((wrap64 (((rd_T69 l1 x9_1).f1) - a0_1)) - x8_1)) ((Int.tmod (wrap64 ((wrap64 (((rd_T69 l1 x9_1).f1) - a0_1)) - x8_1)) a0_2) != 0) a0_0 a0_1 a0_2 l0_3 l0_4 l0_5 l0_6 ((rd_T69 l1 x9_1).f0) ((rd_T69 l1 x9_1).f1)))))) = some (r1, r2, r3) := by rw [if_neg (show ¬ (false = true) by decide)] at H; exact H
 clear H
 have H := H1
 clear H1
 have HC34 := Aside0.mk H
 clear H
 have hnb35 := NB278_272.out
 have hnc35 := NB272_278.out
 have hcz36_0 : wc.cell? ⟨gb278, 0, none⟩ = some (.int .i64 ((rd_T69 l1 x9_1).f0)) := (blk_cell BK278.out 0).trans rfl
 have hcz36_1 : wc.cell? ⟨gb278, 1, none⟩ = some (.int .i64 ((rd_T69 l1 x9_1).f1)) := (blk_cell BK278.out 1).trans rfl
 have hfz36_0 := blk_frozen BK278.out 0
 have hfz36_1 := blk_frozen BK278.out 1
 have hcz37 := blk_cells BK272.out
 have hfz37 := blk_frozens BK272.out
 go_upto_region 15 with (fail)
 repeat (go_quiet (fail); go_upto_region 15 with (fail))
 go_cut [83] (fun v83 wc => ∃ (kq : Nat) (x83_33 : Bool), v83 = .bool x83_33 ∧ Aside0 (sawmillref17_Cuts.j3 kq l1 x4_1 x5_1 x8_1 x9_1 (rd l0_3 ((rd_T69 l1 x9_1).f0)) (wrap64 ((wrap64 (((rd_T69 l1 x9_1).f1) - a0_1)) - x8_1)) x83_33 a0_0 a0_1 a0_2 l0_3 l0_4 l0_5 l0_6 ((rd_T69 l1 x9_1).f0) ((rd_T69 l1 x9_1).f1) = some (r1, r2, r3)) ∧ Aside0 (kq ≤ kj22) ∧ Aside0 (Kd.R k49 49 wc w.heap.size (fun k_ => some k_ ≠ (u5 : Value).ownBlock) u4 x4_1) ∧ Aside0 (Kd.R k49 49 wc w.heap.size (fun k_ => some k_ ≠ (u4 : Value).ownBlock) u5 x5_1) ∧ Aside0 (wc.heap[gb272]? = some (.cells #[.int .i64 a0_0, .int .i64 a0_1, .int .i64 a0_2, (.slice (some ad279) l0_3.length c0_3), (.slice A0_4 l0_4.length c0_4), (.slice A0_5 l0_5.length c0_5), (.slice A0_6 l0_6.length c0_6)] 25 (0, 0))) ∧ Aside0 (wc.heap[gb278]? = some (.cells #[.int .i64 ((rd_T69 l1 x9_1).f0), .int .i64 ((rd_T69 l1 x9_1).f1)] 69 (0, 0))) ∧ Aside0 (Below w.heap.size w wc))
 case first =>
  have H := HC34.out
  clear HC34
  by_cases c38 : x8_1 < 0
  · rw [if_pos c38] at H
    have c38b0 : decide (x8_1 < 0) = true := decide_eq_true c38
    clear c38
    (first | rw [c38b0] | (simp only [i64_w, i32_w]; rw [c38b0]) | skip)
    have H' := Aside0.mk H
    clear H
    exact L22_1
  rw [if_neg c38] at H
  have c38b0 : decide (x8_1 < 0) = false := decide_eq_false c38
  clear c38
  (first | rw [c38b0] | (simp only [i64_w, i32_w]; rw [c38b0]) | skip)
  by_cases c39 : ((rd_T69 l1 x9_1).f1) = x8_1
  · rw [if_pos c39] at H
    have c39b0 : (((rd_T69 l1 x9_1).f1) == x8_1) = true := beq_iff_eq.mpr c39
    have c39b1 : (((rd_T69 l1 x9_1).f1) != x8_1) = false := bne_eq_false_iff_eq.mpr c39
    clear c39
    have H' := Aside0.mk H
    clear H
    have hnb40 := NB278_272.out
    have hnc40 := NB272_278.out
    have hcz41_0 : wc.cell? ⟨gb278, 0, none⟩ = some (.int .i64 ((rd_T69 l1 x9_1).f0)) := (blk_cell BK278.out 0).trans rfl
    have hcz41_1 : wc.cell? ⟨gb278, 1, none⟩ = some (.int .i64 ((rd_T69 l1 x9_1).f1)) := (blk_cell BK278.out 1).trans rfl
    have hfz41_0 := blk_frozen BK278.out 0
    have hfz41_1 := blk_frozen BK278.out 1
    go_wp2
    repeat (go_quiet (fail); try go_wp2)
    go_meet
    case rel => exact ⟨_, (false), rs1, H', ⟨by have := HK1.out; have := HJ9.out; have := HJ22.out; first | omega | exact Nat.le_refl _⟩, ⟨by (with_reducible repeat (first | apply Kd.R_alloc | apply Kd.R_drewN | apply Kd.R_drew)); exact HO_4.out⟩, ⟨by (with_reducible repeat (first | apply Kd.R_alloc | apply Kd.R_drewN | apply Kd.R_drew)); exact HO_5.out⟩, ⟨bu BK272.out⟩, ⟨bu BK278.out⟩, ⟨bl⟩⟩
  rw [if_neg c39] at H
  have c39b0 : (((rd_T69 l1 x9_1).f1) == x8_1) = false := beq_eq_false_iff_ne.mpr c39
  have c39b1 : (((rd_T69 l1 x9_1).f1) != x8_1) = true := bne_iff_ne.mpr c39
  by_cases c42 : (wrap64 ((wrap64 (((rd_T69 l1 x9_1).f1) - a0_1)) - x8_1)) < 1
  · rw [if_pos c42] at H
    have c42b0 : decide ((wrap64 ((wrap64 (((rd_T69 l1 x9_1).f1) - a0_1)) - x8_1)) < 1) = true := decide_eq_true c42
    clear c42
    have H' := Aside0.mk H
    clear H
    have hnb43 := NB278_272.out
    have hnc43 := NB272_278.out
    have hcz44_0 : wc.cell? ⟨gb278, 0, none⟩ = some (.int .i64 ((rd_T69 l1 x9_1).f0)) := (blk_cell BK278.out 0).trans rfl
    have hcz44_1 : wc.cell? ⟨gb278, 1, none⟩ = some (.int .i64 ((rd_T69 l1 x9_1).f1)) := (blk_cell BK278.out 1).trans rfl
    have hfz44_0 := blk_frozen BK278.out 0
    have hfz44_1 := blk_frozen BK278.out 1
    exact L22_1
  rw [if_neg c42] at H
  have c42b0 : decide ((wrap64 ((wrap64 (((rd_T69 l1 x9_1).f1) - a0_1)) - x8_1)) < 1) = false := decide_eq_false c42
  clear c42
  by_cases c45 : a0_2 = 0
  · rw [if_pos c45] at H
    exact absurd H (by simp)
  rw [if_neg c45] at H
  have c45b0 : (a0_2 == 0) = false := beq_eq_false_iff_ne.mpr c45
  have c45b1 : (a0_2 != 0) = true := bne_iff_ne.mpr c45
  have H' := Aside0.mk H
  clear H
  have hnb46 := NB278_272.out
  have hnc46 := NB272_278.out
  have hcz47_0 : wc.cell? ⟨gb278, 0, none⟩ = some (.int .i64 ((rd_T69 l1 x9_1).f0)) := (blk_cell BK278.out 0).trans rfl
  have hcz47_1 : wc.cell? ⟨gb278, 1, none⟩ = some (.int .i64 ((rd_T69 l1 x9_1).f1)) := (blk_cell BK278.out 1).trans rfl
  have hfz47_0 := blk_frozen BK278.out 0
  have hfz47_1 := blk_frozen BK278.out 1
  have hcz48 := blk_cells BK272.out
  have hfz48 := blk_frozens BK272.out
  go_wp2
  repeat (go_quiet (fail); try go_wp2)
  go_meet
  case rel => exact ⟨_, (((Int.tmod (wrap64 ((wrap64 (((rd_T69 l1 x9_1).f1) - a0_1)) - x8_1)) a0_2) != 0)), rs1, H', ⟨by have := HK1.out; have := HJ9.out; have := HJ22.out; first | omega | exact Nat.le_refl _⟩, ⟨by (with_reducible repeat (first | apply Kd.R_alloc | apply Kd.R_drewN | apply Kd.R_drew)); exact HO_4.out⟩, ⟨by (with_reducible repeat (first | apply Kd.R_alloc | apply Kd.R_drewN | apply Kd.R_drew)); exact HO_5.out⟩, ⟨bu BK272.out⟩, ⟨bu BK278.out⟩, ⟨bl⟩⟩
 clear HC34; (try clear c1); (try clear c2); (try clear p2); (try clear q2); (try clear hx2); (try clear c3); (try clear c4); (try clear c4b0); (try clear c4b1); (try clear p6); (try clear c8); (try clear c8b0); (try clear c9); (try clear c9b0); (try clear c12); (try clear c14); (try clear c14b0); (try clear c15); (try clear c17); (try clear c20); (try clear c21); (try clear c21b0); (try clear c22); (try clear c22b0); (try clear c24); (try clear c27); (try clear c27b0); (try clear p27); (try clear q27); (try clear hx27); (try clear c28); (try clear c30); (try clear c33); (try clear c35); (try clear c38); (try clear c38b0); (try clear c39); (try clear c39b0); (try clear c39b1); (try clear c40); (try clear c42); (try clear c42b0); (try clear c43); (try clear c45); (try clear c45b0); (try clear c45b1); (try clear c46); (try clear hcz13); (try clear hcz16); (try clear hcz18); (try clear hcz19); (try clear hcz25); (try clear hcz26); (try clear hcz29); (try clear hcz31); (try clear hcz32); (try clear hcz36); (try clear hcz37); (try clear hcz41); (try clear hcz44); (try clear hcz47); (try clear hcz48); (try clear hcz6); (try clear hfz13); (try clear hfz16); (try clear hfz18); (try clear hfz19); (try clear hfz25); (try clear hfz26); (try clear hfz29); (try clear hfz31); (try clear hfz32); (try clear hfz36); (try clear hfz37); (try clear hfz41); (try clear hfz44); (try clear hfz47); (try clear hfz48); (try clear hfz6); (try clear hx277_0); (try clear hx277_1); (try clear hx279_0); (try clear p2); (try clear p27); (try clear p277); (try clear p279); (try clear p6); (try clear q2); (try clear q27); (try clear q277); (try clear q279)
 obtain ⟨kq, x83_33, rfl, HA, HJ33, HO_4, HO_5, BK272, BK278, HB⟩ := hcut
 rcases kq with _ | kj33
 · exact absurd HA.out (by simp [sawmillref17_Cuts.j3])
 have H := HA.out
 clear HA
 simp only [sawmillref17_Cuts.j3] at H
 by_cases c49 : x83_33 = true
 · subst c49
   have H1 : (some (([] : List (S49)), ([] : List (S49)), 11)) = some (r1, r2, r3) := by rw [if_pos rfl] at H; exact H
   clear H
   have H := H1
   clear H1
   simp only [Option.some.injEq, Prod.mk.injEq] at H
   obtain ⟨rfl, rfl, rfl⟩ := H
   exact L22_0
 replace c49 := Bool.eq_false_iff.mpr c49
 subst c49
 have H1 : (if 0 ≤ ((rd_T69 l1 x9_1).f0) then (if ((rd_T69 l1 x9_1).f0) < (l0_4.length : Int) then (if 0 ≤ ((rd_T69 l1 x9_1).f1) then (if ((rd_T69 l1 x9_1).f1) < ((rd_L1 l0_4 ((rd_T69 l1 x9_1).f0)).length : Int) then (if (rd (rd_L1 l0_4 ((rd_T69 l1 x9_1).f0)) ((rd_T69 l1 x9_1).f1)) < 0 then (some (([] : List (S49)), ([] : List (S49)), 14)) else (if ((rd_T69 l1 x9_1).f1) > x8_1 then ((sawmillref17_add.f x5_1 x8_1 (wrap64 (x8_1 + (wrap64 ((wrap64 (((rd_T69 l1 x9_1).f1) - a0_1)) - x8_1))))).bind fun t282 => ((sawmillref17_add.f x4_1 (wrap64 (x8_1 + (wrap64 ((wrap64 (((rd_T69 l1 x9_1).f1) - a0_1)) - x8_1)))) ((rd_T69 l1 x9_1).f1)).bind fun t285 => (if (wrap64 (((rd_T69 l1 x9_1).f1) + (rd l0_3 ((rd_T69 l1 x9_1).f0)))) = a0_0 then (sawmillref17_Cuts.l0 kj33 l1 t285 t282 (-1) (wrap64 (x9_1 + 1)) a0_0 a0_1 a0_2 l0_3 l0_4 l0_5 l0_6) else ((sawmillref17_add.f t285 (wrap64 (((rd_T69 l1 x9_1).f1) + (rd l0_3 ((rd_T69 l1 x9_1).f0)))) (mn (wrap64 ((wrap64 (((rd_T69 l1 x9_1).f1) + (rd l0_3 ((rd_T69 l1 x9_1).f0)))) + a0_1)) a0_0)).bind fun t288 => (sawmillref17_Cuts.l0 kj33 l1 t288 t282 (mn (wrap64 ((wrap64 (((rd_T69 l1 x9_1).f1) + (rd l0_3 ((rd_T69 l1 x9_1).f0)))) + a0_1)) a0_0) (wrap64 (x9_1 + 1)) a0_0 a0_1 a0_2 l0_3 l0_4 l0_5 l0_6))))) else (if (wrap64 (((rd_T69 l1 x9_1).f1) + (rd l0_3 ((rd_T69 l1 x9_1).f0)))) = a0_0 then (sawmillref17_Cuts.l0 kj33 l1 x4_1 x5_1 (-1) (wrap64 (x9_1 + 1)) a0_0 a0_1 a0_2 l0_3 l0_4 l0_5 l0_6) else ((sawmillref17_add.f x4_1 (wrap64 (((rd_T69 l1 x9_1).f1) + (rd l0_3 ((rd_T69 l1 x9_1).f0)))) (mn (wrap64 ((wrap64 (((rd_T69 l1 x9_1).f1) + (rd l0_3 ((rd_T69 l1 x9_1).f0)))) + a0_1)) a0_0)).bind fun t291 => (sawmillref17_Cuts.l0 kj33 l1 t291 x5_1 (mn (wrap64 ((wrap64 (((rd_T69 l1 x9_1).f1) + (rd l0_3 ((rd_T69 l1 x9_1).f0)))) + a0_1)) a0_0) (wrap64 (x9_1 + 1)) a0_0 a0_1 a0_2 l0_3 l0_4 l0_5 l0_6))))) else (none)) else (none)) else (none)) else (none)) = some (r1, r2, r3) := by rw [if_neg (show ¬ (false = true) by decide)] at H; exact H
 clear H
 have H := H1
 clear H1
 obtain ⟨c50, H⟩ := gd1 H
 have c50b0 : decide (0 ≤ ((rd_T69 l1 x9_1).f0)) = true := decide_eq_true c50
 clear c50
 obtain ⟨c51, H⟩ := gd1 H
 have c51b0 : decide (((rd_T69 l1 x9_1).f0) < (l0_4.length : Int)) = true := decide_eq_true c51
 clear c51
 obtain ⟨c52, H⟩ := gd1 H
 have c52b0 : decide (0 ≤ ((rd_T69 l1 x9_1).f1)) = true := decide_eq_true c52
 clear c52
 obtain ⟨c53, H⟩ := gd1 H
 have c53b0 : decide (((rd_T69 l1 x9_1).f1) < ((rd_L1 l0_4 ((rd_T69 l1 x9_1).f0)).length : Int)) = true := decide_eq_true c53
 clear c53
 by_cases c54 : (rd (rd_L1 l0_4 ((rd_T69 l1 x9_1).f0)) ((rd_T69 l1 x9_1).f1)) < 0
 · rw [if_pos c54] at H
   have c54b0 : decide ((rd (rd_L1 l0_4 ((rd_T69 l1 x9_1).f0)) ((rd_T69 l1 x9_1).f1)) < 0) = true := decide_eq_true c54
   clear c54
   simp only [Option.some.injEq, Prod.mk.injEq] at H
   obtain ⟨rfl, rfl, rfl⟩ := H
   have hnb55 := NB272_278.out
   have hnc55 := NB278_272.out
   have hcz56 := blk_cells BK272.out
   have hfz56 := blk_frozens BK272.out
   have hcz57_0 : wc.cell? ⟨gb278, 0, none⟩ = some (.int .i64 ((rd_T69 l1 x9_1).f0)) := (blk_cell BK278.out 0).trans rfl
   have hcz57_1 : wc.cell? ⟨gb278, 1, none⟩ = some (.int .i64 ((rd_T69 l1 x9_1).f1)) := (blk_cell BK278.out 1).trans rfl
   have hfz57_0 := blk_frozen BK278.out 0
   have hfz57_1 := blk_frozen BK278.out 1
   have p280 : 0 ≤ (((rd_T69 l1 x9_1).f0) : Int) := da1
   have q280 : ((rd_T69 l1 x9_1).f0) < (l0_4.length : Int) := da1
   obtain ⟨ad280, A280_0, c280_0, e280, hx280_0, hl280_0, hi280_0⟩ := at_L1 HR0_4.out ((rd_T69 l1 x9_1).f0) p280 q280
   cases e280
   (try replace hx280_0 := (HB.out.cell (World.block_lt_of_cell? w _ hx280_0)).trans hx280_0)
   have HR280_0 := Aside0.mk hi280_0
   have HC280_0 := Aside0.mk hl280_0
   clear hi280_0 hl280_0
   replace p280 := eq_true p280
   replace q280 := eq_true q280
   have p281 : 0 ≤ (((rd_T69 l1 x9_1).f1) : Int) := da1
   have q281 : ((rd_T69 l1 x9_1).f1) < ((rd_L1 l0_4 ((rd_T69 l1 x9_1).f0)).length : Int) := da1
   obtain ⟨ad281, e281, hx281_0⟩ := Kd.at_int HR280_0.out ((rd_T69 l1 x9_1).f1) p281 q281
   cases e281
   (try replace hx281_0 := (HB.out.cell (World.block_lt_of_cell? w _ hx281_0)).trans hx281_0)
   replace p281 := eq_true p281
   replace q281 := eq_true q281
   exact L22_0
 rw [if_neg c54] at H
 have c54b0 : decide ((rd (rd_L1 l0_4 ((rd_T69 l1 x9_1).f0)) ((rd_T69 l1 x9_1).f1)) < 0) = false := decide_eq_false c54
 clear c54
 by_cases c58 : ((rd_T69 l1 x9_1).f1) > x8_1
 rotate_left
 · rw [if_neg c58] at H
   have c58b0 : decide (x8_1 < ((rd_T69 l1 x9_1).f1)) = false := decide_eq_false c58
   clear c58
   by_cases c86 : (wrap64 (((rd_T69 l1 x9_1).f1) + (rd l0_3 ((rd_T69 l1 x9_1).f0)))) = a0_0
   · rw [if_pos c86] at H
     have c86b0 : ((wrap64 (((rd_T69 l1 x9_1).f1) + (rd l0_3 ((rd_T69 l1 x9_1).f0)))) == a0_0) = true := beq_iff_eq.mpr c86
     have c86b1 : ((wrap64 (((rd_T69 l1 x9_1).f1) + (rd l0_3 ((rd_T69 l1 x9_1).f0)))) != a0_0) = false := bne_eq_false_iff_eq.mpr c86
     clear c86
     have H' := Aside0.mk H
     clear H
     have hnb87 := NB272_278.out
     have hnc87 := NB278_272.out
     have hcz88 := blk_cells BK272.out
     have hfz88 := blk_frozens BK272.out
     have hcz89_0 : wc.cell? ⟨gb278, 0, none⟩ = some (.int .i64 ((rd_T69 l1 x9_1).f0)) := (blk_cell BK278.out 0).trans rfl
     have hcz89_1 : wc.cell? ⟨gb278, 1, none⟩ = some (.int .i64 ((rd_T69 l1 x9_1).f1)) := (blk_cell BK278.out 1).trans rfl
     have hfz89_0 := blk_frozen BK278.out 0
     have hfz89_1 := blk_frozen BK278.out 1
     have p280 : 0 ≤ (((rd_T69 l1 x9_1).f0) : Int) := da1
     have q280 : ((rd_T69 l1 x9_1).f0) < (l0_4.length : Int) := da1
     obtain ⟨ad280, A280_0, c280_0, e280, hx280_0, hl280_0, hi280_0⟩ := at_L1 HR0_4.out ((rd_T69 l1 x9_1).f0) p280 q280
     cases e280
     (try replace hx280_0 := (HB.out.cell (World.block_lt_of_cell? w _ hx280_0)).trans hx280_0)
     have HR280_0 := Aside0.mk hi280_0
     have HC280_0 := Aside0.mk hl280_0
     clear hi280_0 hl280_0
     replace p280 := eq_true p280
     replace q280 := eq_true q280
     have p281 : 0 ≤ (((rd_T69 l1 x9_1).f1) : Int) := da1
     have q281 : ((rd_T69 l1 x9_1).f1) < ((rd_L1 l0_4 ((rd_T69 l1 x9_1).f0)).length : Int) := da1
     obtain ⟨ad281, e281, hx281_0⟩ := Kd.at_int HR280_0.out ((rd_T69 l1 x9_1).f1) p281 q281
     cases e281
     (try replace hx281_0 := (HB.out.cell (World.block_lt_of_cell? w _ hx281_0)).trans hx281_0)
     replace p281 := eq_true p281
     replace q281 := eq_true q281
     go_wp2
     repeat (go_quiet (fail); try go_wp2)
     go_roundg kj33
     case measure => have := HK1.out; have := HJ9.out; have := HJ22.out; have := HJ33.out; omega
     case rel => exact ⟨(x4_1), (x5_1), ((-1)), (wrap64 (x9_1 + 1)), rs1, rs1, H', ⟨by have := HK1.out; have := HJ9.out; have := HJ22.out; have := HJ33.out; omega⟩, ⟨by (with_reducible repeat (first | apply Kd.R_alloc | apply Kd.R_drewN | apply Kd.R_drew)); exact HO_4.out⟩, ⟨by (with_reducible repeat (first | apply Kd.R_alloc | apply Kd.R_drewN | apply Kd.R_drew)); exact HO_5.out⟩, ⟨bu BK272.out⟩, ⟨bl⟩⟩
   rw [if_neg c86] at H
   have c86b0 : ((wrap64 (((rd_T69 l1 x9_1).f1) + (rd l0_3 ((rd_T69 l1 x9_1).f0)))) == a0_0) = false := beq_eq_false_iff_ne.mpr c86
   have c86b1 : ((wrap64 (((rd_T69 l1 x9_1).f1) + (rd l0_3 ((rd_T69 l1 x9_1).f0)))) != a0_0) = true := bne_iff_ne.mpr c86
   obtain ⟨ji90, hji90⟩ : ∃ j_ : Int, (mn (wrap64 ((wrap64 (((rd_T69 l1 x9_1).f1) + (rd l0_3 ((rd_T69 l1 x9_1).f0)))) + a0_1)) a0_0) = j_ := ⟨_, rfl⟩
   replace H : ((sawmillref17_add.f x4_1 (wrap64 (((rd_T69 l1 x9_1).f1) + (rd l0_3 ((rd_T69 l1 x9_1).f0)))) (ji90)).bind fun t291 => (sawmillref17_Cuts.l0 kj33 l1 t291 x5_1 ji90 (wrap64 (x9_1 + 1)) a0_0 a0_1 a0_2 l0_3 l0_4 l0_5 l0_6)) = some (r1, r2, r3) := by first | (rw [hji90] at H; exact H) | (simp only [hji90] at H ⊢; exact H)
   have hji90_ : (if a0_0 < (wrap64 ((wrap64 (((rd_T69 l1 x9_1).f1) + (rd l0_3 ((rd_T69 l1 x9_1).f0)))) + a0_1)) then a0_0 else (wrap64 ((wrap64 (((rd_T69 l1 x9_1).f1) + (rd l0_3 ((rd_T69 l1 x9_1).f0)))) + a0_1))) = ji90 := hji90
   replace H := Option.bind_eq_some_iff.mp H
   obtain ⟨t291, A910, H⟩ := H
   replace H : (sawmillref17_Cuts.l0 kj33 l1 t291 x5_1 ji90 (wrap64 (x9_1 + 1)) a0_0 a0_1 a0_2 l0_3 l0_4 l0_5 l0_6) = some (r1, r2, r3) := H
   have A91 := Aside0.mk A910
   clear A910
   have H' := Aside0.mk H
   clear H
   have hnb92 := NB272_278.out
   have hnc92 := NB278_272.out
   have hcz93 := blk_cells BK272.out
   have hfz93 := blk_frozens BK272.out
   have hcz94_0 : wc.cell? ⟨gb278, 0, none⟩ = some (.int .i64 ((rd_T69 l1 x9_1).f0)) := (blk_cell BK278.out 0).trans rfl
   have hcz94_1 : wc.cell? ⟨gb278, 1, none⟩ = some (.int .i64 ((rd_T69 l1 x9_1).f1)) := (blk_cell BK278.out 1).trans rfl
   have hfz94_0 := blk_frozen BK278.out 0
   have hfz94_1 := blk_frozen BK278.out 1
   have p280 : 0 ≤ (((rd_T69 l1 x9_1).f0) : Int) := da1
   have q280 : ((rd_T69 l1 x9_1).f0) < (l0_4.length : Int) := da1
   obtain ⟨ad280, A280_0, c280_0, e280, hx280_0, hl280_0, hi280_0⟩ := at_L1 HR0_4.out ((rd_T69 l1 x9_1).f0) p280 q280
   cases e280
   (try replace hx280_0 := (HB.out.cell (World.block_lt_of_cell? w _ hx280_0)).trans hx280_0)
   have HR280_0 := Aside0.mk hi280_0
   have HC280_0 := Aside0.mk hl280_0
   clear hi280_0 hl280_0
   replace p280 := eq_true p280
   replace q280 := eq_true q280
   have p281 : 0 ≤ (((rd_T69 l1 x9_1).f1) : Int) := da1
   have q281 : ((rd_T69 l1 x9_1).f1) < ((rd_L1 l0_4 ((rd_T69 l1 x9_1).f0)).length : Int) := da1
   obtain ⟨ad281, e281, hx281_0⟩ := Kd.at_int HR280_0.out ((rd_T69 l1 x9_1).f1) p281 q281
   cases e281
   (try replace hx281_0 := (HB.out.cell (World.block_lt_of_cell? w _ hx281_0)).trans hx281_0)
   replace p281 := eq_true p281
   replace q281 := eq_true q281
   obtain ⟨Ao95, co95, eo95⟩ := Kd.R_slice HO_4.out
   subst eo95
   go_wp2_with (first | (go_at_call 54; (with_reducible refine (sawmillref17_add.calls (fun k_ => some k_ = (.slice Ao95 x4_1.length co95 : Value).ownBlock) (.slice Ao95 x4_1.length co95) x4_1 (wrap64 (((rd_T69 l1 x9_1).f1) + (rd l0_3 ((rd_T69 l1 x9_1).f0)))) ji90 t291 w _ ?side1 ?side2 A91.out).mono ?_); (case side1 => repeat (first | (with_reducible first | exact HB.out | apply below_alloc | apply pw_below_drewN | apply below_drew1 | refine below_set ?_ GE272.out | refine below_set ?_ GE278.out) | exact HB.out)); (case side2 => exact Kd.R_tight rfl HO_4.out); rintro e w96 ⟨v292, rfl, ho0, hb, hkp⟩; have n0_ := Aside0.mk (Kd.R_mono (ok' := fun k_ => some k_ ≠ (v292 : Value).ownBlock) (Kd.R_keptB (HO_5.out) hkp (fun k_ hk_ hs_ => (hk_) hs_)) (fun k_ hk_ => fun e_ => Or.elim (ho0.1 k_ e_.symm) (fun hs_ => hk_.2.1 hs_) (fun hn_ => Nat.not_le.2 hk_.2.2 hn_))); have n1_ := Aside0.mk (blk_kept (by first | (with_reducible exact BK272.out) | (with_reducible exact blk_drewN BK272.out _) | exact bu BK272.out) hkp (fun hs_ => (fun e_ => (Kd.R_ne HO_4.out BK272.out (by decide)) e_) hs_)); have n2_ := Aside0.mk (blk_kept (by first | (with_reducible exact BK278.out) | (with_reducible exact blk_drewN BK278.out _) | exact bu BK278.out) hkp (fun hs_ => (fun e_ => (Kd.R_ne HO_4.out BK278.out (by decide)) e_) hs_)); have n3_ := Aside0.mk (Kd.R_mono (ok' := fun k_ => some k_ ≠ (u5 : Value).ownBlock) ho0 (fun k_ hk_ => Or.elim hk_ (fun hs_ => fun e_ => (((HO_5.out).1 k_ e_.symm)) hs_) (fun hn_ => (Kd.fresh' (Kd.R_lt (ru HO_5.out)) k_ hn_)))); have n4_ := Aside0.mk (hb); clear HO_5; clear BK272; clear BK278; clear HB; clear HO_4; have HO_5 := n0_; have BK272 := n1_; have BK278 := n2_; have HO293 := n3_; have HB := n4_; clear n0_ n1_ n2_ n3_ n4_; (try clear hb); (try clear hkp); (try clear ho0)))
   repeat (go_quiet (first | (go_at_call 54; (with_reducible refine (sawmillref17_add.calls (fun k_ => some k_ = (.slice Ao95 x4_1.length co95 : Value).ownBlock) (.slice Ao95 x4_1.length co95) x4_1 (wrap64 (((rd_T69 l1 x9_1).f1) + (rd l0_3 ((rd_T69 l1 x9_1).f0)))) ji90 t291 w _ ?side1 ?side2 A91.out).mono ?_); (case side1 => repeat (first | (with_reducible first | exact HB.out | apply below_alloc | apply pw_below_drewN | apply below_drew1 | refine below_set ?_ GE272.out | refine below_set ?_ GE278.out) | exact HB.out)); (case side2 => exact Kd.R_tight rfl HO_4.out); rintro e w96 ⟨v292, rfl, ho0, hb, hkp⟩; have n0_ := Aside0.mk (Kd.R_mono (ok' := fun k_ => some k_ ≠ (v292 : Value).ownBlock) (Kd.R_keptB (HO_5.out) hkp (fun k_ hk_ hs_ => (hk_) hs_)) (fun k_ hk_ => fun e_ => Or.elim (ho0.1 k_ e_.symm) (fun hs_ => hk_.2.1 hs_) (fun hn_ => Nat.not_le.2 hk_.2.2 hn_))); have n1_ := Aside0.mk (blk_kept (by first | (with_reducible exact BK272.out) | (with_reducible exact blk_drewN BK272.out _) | exact bu BK272.out) hkp (fun hs_ => (fun e_ => (Kd.R_ne HO_4.out BK272.out (by decide)) e_) hs_)); have n2_ := Aside0.mk (blk_kept (by first | (with_reducible exact BK278.out) | (with_reducible exact blk_drewN BK278.out _) | exact bu BK278.out) hkp (fun hs_ => (fun e_ => (Kd.R_ne HO_4.out BK278.out (by decide)) e_) hs_)); have n3_ := Aside0.mk (Kd.R_mono (ok' := fun k_ => some k_ ≠ (u5 : Value).ownBlock) ho0 (fun k_ hk_ => Or.elim hk_ (fun hs_ => fun e_ => (((HO_5.out).1 k_ e_.symm)) hs_) (fun hn_ => (Kd.fresh' (Kd.R_lt (ru HO_5.out)) k_ hn_)))); have n4_ := Aside0.mk (hb); clear HO_5; clear BK272; clear BK278; clear HB; clear HO_4; have HO_5 := n0_; have BK272 := n1_; have BK278 := n2_; have HO293 := n3_; have HB := n4_; clear n0_ n1_ n2_ n3_ n4_; (try clear hb); (try clear hkp); (try clear ho0))); try go_wp2_with (first | (go_at_call 54; (with_reducible refine (sawmillref17_add.calls (fun k_ => some k_ = (.slice Ao95 x4_1.length co95 : Value).ownBlock) (.slice Ao95 x4_1.length co95) x4_1 (wrap64 (((rd_T69 l1 x9_1).f1) + (rd l0_3 ((rd_T69 l1 x9_1).f0)))) ji90 t291 w _ ?side1 ?side2 A91.out).mono ?_); (case side1 => repeat (first | (with_reducible first | exact HB.out | apply below_alloc | apply pw_below_drewN | apply below_drew1 | refine below_set ?_ GE272.out | refine below_set ?_ GE278.out) | exact HB.out)); (case side2 => exact Kd.R_tight rfl HO_4.out); rintro e w96 ⟨v292, rfl, ho0, hb, hkp⟩; have n0_ := Aside0.mk (Kd.R_mono (ok' := fun k_ => some k_ ≠ (v292 : Value).ownBlock) (Kd.R_keptB (HO_5.out) hkp (fun k_ hk_ hs_ => (hk_) hs_)) (fun k_ hk_ => fun e_ => Or.elim (ho0.1 k_ e_.symm) (fun hs_ => hk_.2.1 hs_) (fun hn_ => Nat.not_le.2 hk_.2.2 hn_))); have n1_ := Aside0.mk (blk_kept (by first | (with_reducible exact BK272.out) | (with_reducible exact blk_drewN BK272.out _) | exact bu BK272.out) hkp (fun hs_ => (fun e_ => (Kd.R_ne HO_4.out BK272.out (by decide)) e_) hs_)); have n2_ := Aside0.mk (blk_kept (by first | (with_reducible exact BK278.out) | (with_reducible exact blk_drewN BK278.out _) | exact bu BK278.out) hkp (fun hs_ => (fun e_ => (Kd.R_ne HO_4.out BK278.out (by decide)) e_) hs_)); have n3_ := Aside0.mk (Kd.R_mono (ok' := fun k_ => some k_ ≠ (u5 : Value).ownBlock) ho0 (fun k_ hk_ => Or.elim hk_ (fun hs_ => fun e_ => (((HO_5.out).1 k_ e_.symm)) hs_) (fun hn_ => (Kd.fresh' (Kd.R_lt (ru HO_5.out)) k_ hn_)))); have n4_ := Aside0.mk (hb); clear HO_5; clear BK272; clear BK278; clear HB; clear HO_4; have HO_5 := n0_; have BK272 := n1_; have BK278 := n2_; have HO293 := n3_; have HB := n4_; clear n0_ n1_ n2_ n3_ n4_; (try clear hb); (try clear hkp); (try clear ho0))))
   go_roundg kj33
   case measure => have := HK1.out; have := HJ9.out; have := HJ22.out; have := HJ33.out; omega
   case rel => exact ⟨(t291), (x5_1), (ji90), (wrap64 (x9_1 + 1)), (by first | rfl | (simp; done) | (simp only [← hji90] <;> (first | rfl | simp)) | (simp [*]; done)), rs1, H', ⟨by have := HK1.out; have := HJ9.out; have := HJ22.out; have := HJ33.out; omega⟩, ⟨by (with_reducible repeat (first | apply Kd.R_alloc | apply Kd.R_drewN | apply Kd.R_drew)); exact HO293.out⟩, ⟨by (with_reducible repeat (first | apply Kd.R_alloc | apply Kd.R_drewN | apply Kd.R_drew)); exact HO_5.out⟩, ⟨bu BK272.out⟩, ⟨bl⟩⟩
 rw [if_pos c58] at H
 have c58b0 : decide (x8_1 < ((rd_T69 l1 x9_1).f1)) = true := decide_eq_true c58
 clear c58
 replace H := Option.bind_eq_some_iff.mp H
 obtain ⟨t282, A590, H⟩ := H
 replace H : ((sawmillref17_add.f x4_1 (wrap64 (x8_1 + (wrap64 ((wrap64 (((rd_T69 l1 x9_1).f1) - a0_1)) - x8_1)))) ((rd_T69 l1 x9_1).f1)).bind fun t285 => (if (wrap64 (((rd_T69 l1 x9_1).f1) + (rd l0_3 ((rd_T69 l1 x9_1).f0)))) = a0_0 then (sawmillref17_Cuts.l0 kj33 l1 t285 t282 (-1) (wrap64 (x9_1 + 1)) a0_0 a0_1 a0_2 l0_3 l0_4 l0_5 l0_6) else ((sawmillref17_add.f t285 (wrap64 (((rd_T69 l1 x9_1).f1) + (rd l0_3 ((rd_T69 l1 x9_1).f0)))) (mn (wrap64 ((wrap64 (((rd_T69 l1 x9_1).f1) + (rd l0_3 ((rd_T69 l1 x9_1).f0)))) + a0_1)) a0_0)).bind fun t288 => (sawmillref17_Cuts.l0 kj33 l1 t288 t282 (mn (wrap64 ((wrap64 (((rd_T69 l1 x9_1).f1) + (rd l0_3 ((rd_T69 l1 x9_1).f0)))) + a0_1)) a0_0) (wrap64 (x9_1 + 1)) a0_0 a0_1 a0_2 l0_3 l0_4 l0_5 l0_6)))) = some (r1, r2, r3) := H
 have A59 := Aside0.mk A590
 clear A590
 replace H := Option.bind_eq_some_iff.mp H
 obtain ⟨t285, A600, H⟩ := H
 replace H : (if (wrap64 (((rd_T69 l1 x9_1).f1) + (rd l0_3 ((rd_T69 l1 x9_1).f0)))) = a0_0 then (sawmillref17_Cuts.l0 kj33 l1 t285 t282 (-1) (wrap64 (x9_1 + 1)) a0_0 a0_1 a0_2 l0_3 l0_4 l0_5 l0_6) else ((sawmillref17_add.f t285 (wrap64 (((rd_T69 l1 x9_1).f1) + (rd l0_3 ((rd_T69 l1 x9_1).f0)))) (mn (wrap64 ((wrap64 (((rd_T69 l1 x9_1).f1) + (rd l0_3 ((rd_T69 l1 x9_1).f0)))) + a0_1)) a0_0)).bind fun t288 => (sawmillref17_Cuts.l0 kj33 l1 t288 t282 (mn (wrap64 ((wrap64 (((rd_T69 l1 x9_1).f1) + (rd l0_3 ((rd_T69 l1 x9_1).f0)))) + a0_1)) a0_0) (wrap64 (x9_1 + 1)) a0_0 a0_1 a0_2 l0_3 l0_4 l0_5 l0_6))) = some (r1, r2, r3) := H
 have A60 := Aside0.mk A600
 clear A600
 by_cases c61 : (wrap64 (((rd_T69 l1 x9_1).f1) + (rd l0_3 ((rd_T69 l1 x9_1).f0)))) = a0_0
 · rw [if_pos c61] at H
   have c61b0 : ((wrap64 (((rd_T69 l1 x9_1).f1) + (rd l0_3 ((rd_T69 l1 x9_1).f0)))) == a0_0) = true := beq_iff_eq.mpr c61
   have c61b1 : ((wrap64 (((rd_T69 l1 x9_1).f1) + (rd l0_3 ((rd_T69 l1 x9_1).f0)))) != a0_0) = false := bne_eq_false_iff_eq.mpr c61
   clear c61
   have H' := Aside0.mk H
   clear H
   have hnb62 := NB272_278.out
   have hnc62 := NB278_272.out
   have hcz63 := blk_cells BK272.out
   have hfz63 := blk_frozens BK272.out
   have hcz64_0 : wc.cell? ⟨gb278, 0, none⟩ = some (.int .i64 ((rd_T69 l1 x9_1).f0)) := (blk_cell BK278.out 0).trans rfl
   have hcz64_1 : wc.cell? ⟨gb278, 1, none⟩ = some (.int .i64 ((rd_T69 l1 x9_1).f1)) := (blk_cell BK278.out 1).trans rfl
   have hfz64_0 := blk_frozen BK278.out 0
   have hfz64_1 := blk_frozen BK278.out 1
   have p280 : 0 ≤ (((rd_T69 l1 x9_1).f0) : Int) := da1
   have q280 : ((rd_T69 l1 x9_1).f0) < (l0_4.length : Int) := da1
   obtain ⟨ad280, A280_0, c280_0, e280, hx280_0, hl280_0, hi280_0⟩ := at_L1 HR0_4.out ((rd_T69 l1 x9_1).f0) p280 q280
   cases e280
   (try replace hx280_0 := (HB.out.cell (World.block_lt_of_cell? w _ hx280_0)).trans hx280_0)
   have HR280_0 := Aside0.mk hi280_0
   have HC280_0 := Aside0.mk hl280_0
   clear hi280_0 hl280_0
   replace p280 := eq_true p280
   replace q280 := eq_true q280
   have p281 : 0 ≤ (((rd_T69 l1 x9_1).f1) : Int) := da1
   have q281 : ((rd_T69 l1 x9_1).f1) < ((rd_L1 l0_4 ((rd_T69 l1 x9_1).f0)).length : Int) := da1
   obtain ⟨ad281, e281, hx281_0⟩ := Kd.at_int HR280_0.out ((rd_T69 l1 x9_1).f1) p281 q281
   cases e281
   (try replace hx281_0 := (HB.out.cell (World.block_lt_of_cell? w _ hx281_0)).trans hx281_0)
   replace p281 := eq_true p281
   replace q281 := eq_true q281
   obtain ⟨Ao65, co65, eo65⟩ := Kd.R_slice HO_5.out
   subst eo65
   go_wp2_with (first | (go_at_call 54; (with_reducible refine (sawmillref17_add.calls (fun k_ => some k_ = (.slice Ao65 x5_1.length co65 : Value).ownBlock) (.slice Ao65 x5_1.length co65) x5_1 x8_1 (wrap64 (x8_1 + (wrap64 ((wrap64 (((rd_T69 l1 x9_1).f1) - a0_1)) - x8_1)))) t282 w _ ?side1 ?side2 A59.out).mono ?_); (case side1 => repeat (first | (with_reducible first | exact HB.out | apply below_alloc | apply pw_below_drewN | apply below_drew1 | refine below_set ?_ GE272.out | refine below_set ?_ GE278.out) | exact HB.out)); (case side2 => exact Kd.R_tight rfl HO_5.out); rintro e w66 ⟨v283, rfl, ho0, hb, hkp⟩; have n0_ := Aside0.mk (Kd.R_mono (ok' := fun k_ => some k_ ≠ (v283 : Value).ownBlock) (Kd.R_keptB (HO_4.out) hkp (fun k_ hk_ hs_ => (hk_) hs_)) (fun k_ hk_ => fun e_ => Or.elim (ho0.1 k_ e_.symm) (fun hs_ => hk_.2.1 hs_) (fun hn_ => Nat.not_le.2 hk_.2.2 hn_))); have n1_ := Aside0.mk (blk_kept (by first | (with_reducible exact BK272.out) | (with_reducible exact blk_drewN BK272.out _) | exact bu BK272.out) hkp (fun hs_ => (fun e_ => (Kd.R_ne HO_5.out BK272.out (by decide)) e_) hs_)); have n2_ := Aside0.mk (blk_kept (by first | (with_reducible exact BK278.out) | (with_reducible exact blk_drewN BK278.out _) | exact bu BK278.out) hkp (fun hs_ => (fun e_ => (Kd.R_ne HO_5.out BK278.out (by decide)) e_) hs_)); have n3_ := Aside0.mk (Kd.R_mono (ok' := fun k_ => some k_ ≠ (u4 : Value).ownBlock) ho0 (fun k_ hk_ => Or.elim hk_ (fun hs_ => fun e_ => (((HO_4.out).1 k_ e_.symm)) hs_) (fun hn_ => (Kd.fresh' (Kd.R_lt (ru HO_4.out)) k_ hn_)))); have n4_ := Aside0.mk (hb); clear HO_4; clear BK272; clear BK278; clear HB; clear HO_5; have HO_4 := n0_; have BK272 := n1_; have BK278 := n2_; have HO284 := n3_; have HB := n4_; clear n0_ n1_ n2_ n3_ n4_; (try clear hb); (try clear hkp); (try clear ho0); have hcz67 := blk_cells BK278.out; have hfz67 := blk_frozens BK278.out; obtain ⟨Ao68, co68, eo68⟩ := Kd.R_slice HO_4.out; subst eo68) | (go_at_call 54; (with_reducible refine (sawmillref17_add.calls (fun k_ => some k_ = (.slice Ao68 x4_1.length co68 : Value).ownBlock) (.slice Ao68 x4_1.length co68) x4_1 (wrap64 (x8_1 + (wrap64 ((wrap64 (((rd_T69 l1 x9_1).f1) - a0_1)) - x8_1)))) ((rd_T69 l1 x9_1).f1) t285 w _ ?side1 ?side2 A60.out).mono ?_); (case side1 => repeat (first | (with_reducible first | exact HB.out | apply below_alloc | apply pw_below_drewN | apply below_drew1 | refine below_set ?_ GE272.out | refine below_set ?_ GE278.out) | exact HB.out)); (case side2 => exact Kd.R_tight rfl HO_4.out); rintro e w69 ⟨v286, rfl, ho0, hb, hkp⟩; have n0_ := Aside0.mk (blk_kept (by first | (with_reducible exact BK272.out) | (with_reducible exact blk_drewN BK272.out _) | exact bu BK272.out) hkp (fun hs_ => (fun e_ => (Kd.R_ne HO_4.out BK272.out (by decide)) e_) hs_)); have n1_ := Aside0.mk (blk_kept (by first | (with_reducible exact BK278.out) | (with_reducible exact blk_drewN BK278.out _) | exact bu BK278.out) hkp (fun hs_ => (fun e_ => (Kd.R_ne HO_4.out BK278.out (by decide)) e_) hs_)); have n2_ := Aside0.mk (Kd.R_mono (ok' := fun k_ => some k_ ≠ (v286 : Value).ownBlock) (Kd.R_keptB (HO284.out) hkp (fun k_ hk_ hs_ => (hk_) hs_)) (fun k_ hk_ => fun e_ => Or.elim (ho0.1 k_ e_.symm) (fun hs_ => hk_.2.1 hs_) (fun hn_ => Nat.not_le.2 hk_.2.2 hn_))); have n3_ := Aside0.mk (Kd.R_mono (ok' := fun k_ => some k_ ≠ (v283 : Value).ownBlock) ho0 (fun k_ hk_ => Or.elim hk_ (fun hs_ => fun e_ => (((HO284.out).1 k_ e_.symm)) hs_) (fun hn_ => (Kd.fresh' (Kd.R_lt (ru HO284.out)) k_ hn_)))); have n4_ := Aside0.mk (hb); clear BK272; clear BK278; clear HO284; clear HB; clear HO_4; have BK272 := n0_; have BK278 := n1_; have HO284 := n2_; have HO287 := n3_; have HB := n4_; clear n0_ n1_ n2_ n3_ n4_; (try clear hb); (try clear hkp); (try clear ho0); have hcz70 := blk_cells BK278.out; have hfz70 := blk_frozens BK278.out; have hcz71 := blk_cells BK272.out; have hfz71 := blk_frozens BK272.out))
   repeat (go_quiet (first | (go_at_call 54; (with_reducible refine (sawmillref17_add.calls (fun k_ => some k_ = (.slice Ao65 x5_1.length co65 : Value).ownBlock) (.slice Ao65 x5_1.length co65) x5_1 x8_1 (wrap64 (x8_1 + (wrap64 ((wrap64 (((rd_T69 l1 x9_1).f1) - a0_1)) - x8_1)))) t282 w _ ?side1 ?side2 A59.out).mono ?_); (case side1 => repeat (first | (with_reducible first | exact HB.out | apply below_alloc | apply pw_below_drewN | apply below_drew1 | refine below_set ?_ GE272.out | refine below_set ?_ GE278.out) | exact HB.out)); (case side2 => exact Kd.R_tight rfl HO_5.out); rintro e w66 ⟨v283, rfl, ho0, hb, hkp⟩; have n0_ := Aside0.mk (Kd.R_mono (ok' := fun k_ => some k_ ≠ (v283 : Value).ownBlock) (Kd.R_keptB (HO_4.out) hkp (fun k_ hk_ hs_ => (hk_) hs_)) (fun k_ hk_ => fun e_ => Or.elim (ho0.1 k_ e_.symm) (fun hs_ => hk_.2.1 hs_) (fun hn_ => Nat.not_le.2 hk_.2.2 hn_))); have n1_ := Aside0.mk (blk_kept (by first | (with_reducible exact BK272.out) | (with_reducible exact blk_drewN BK272.out _) | exact bu BK272.out) hkp (fun hs_ => (fun e_ => (Kd.R_ne HO_5.out BK272.out (by decide)) e_) hs_)); have n2_ := Aside0.mk (blk_kept (by first | (with_reducible exact BK278.out) | (with_reducible exact blk_drewN BK278.out _) | exact bu BK278.out) hkp (fun hs_ => (fun e_ => (Kd.R_ne HO_5.out BK278.out (by decide)) e_) hs_)); have n3_ := Aside0.mk (Kd.R_mono (ok' := fun k_ => some k_ ≠ (u4 : Value).ownBlock) ho0 (fun k_ hk_ => Or.elim hk_ (fun hs_ => fun e_ => (((HO_4.out).1 k_ e_.symm)) hs_) (fun hn_ => (Kd.fresh' (Kd.R_lt (ru HO_4.out)) k_ hn_)))); have n4_ := Aside0.mk (hb); clear HO_4; clear BK272; clear BK278; clear HB; clear HO_5; have HO_4 := n0_; have BK272 := n1_; have BK278 := n2_; have HO284 := n3_; have HB := n4_; clear n0_ n1_ n2_ n3_ n4_; (try clear hb); (try clear hkp); (try clear ho0); have hcz67 := blk_cells BK278.out; have hfz67 := blk_frozens BK278.out; obtain ⟨Ao68, co68, eo68⟩ := Kd.R_slice HO_4.out; subst eo68) | (go_at_call 54; (with_reducible refine (sawmillref17_add.calls (fun k_ => some k_ = (.slice Ao68 x4_1.length co68 : Value).ownBlock) (.slice Ao68 x4_1.length co68) x4_1 (wrap64 (x8_1 + (wrap64 ((wrap64 (((rd_T69 l1 x9_1).f1) - a0_1)) - x8_1)))) ((rd_T69 l1 x9_1).f1) t285 w _ ?side1 ?side2 A60.out).mono ?_); (case side1 => repeat (first | (with_reducible first | exact HB.out | apply below_alloc | apply pw_below_drewN | apply below_drew1 | refine below_set ?_ GE272.out | refine below_set ?_ GE278.out) | exact HB.out)); (case side2 => exact Kd.R_tight rfl HO_4.out); rintro e w69 ⟨v286, rfl, ho0, hb, hkp⟩; have n0_ := Aside0.mk (blk_kept (by first | (with_reducible exact BK272.out) | (with_reducible exact blk_drewN BK272.out _) | exact bu BK272.out) hkp (fun hs_ => (fun e_ => (Kd.R_ne HO_4.out BK272.out (by decide)) e_) hs_)); have n1_ := Aside0.mk (blk_kept (by first | (with_reducible exact BK278.out) | (with_reducible exact blk_drewN BK278.out _) | exact bu BK278.out) hkp (fun hs_ => (fun e_ => (Kd.R_ne HO_4.out BK278.out (by decide)) e_) hs_)); have n2_ := Aside0.mk (Kd.R_mono (ok' := fun k_ => some k_ ≠ (v286 : Value).ownBlock) (Kd.R_keptB (HO284.out) hkp (fun k_ hk_ hs_ => (hk_) hs_)) (fun k_ hk_ => fun e_ => Or.elim (ho0.1 k_ e_.symm) (fun hs_ => hk_.2.1 hs_) (fun hn_ => Nat.not_le.2 hk_.2.2 hn_))); have n3_ := Aside0.mk (Kd.R_mono (ok' := fun k_ => some k_ ≠ (v283 : Value).ownBlock) ho0 (fun k_ hk_ => Or.elim hk_ (fun hs_ => fun e_ => (((HO284.out).1 k_ e_.symm)) hs_) (fun hn_ => (Kd.fresh' (Kd.R_lt (ru HO284.out)) k_ hn_)))); have n4_ := Aside0.mk (hb); clear BK272; clear BK278; clear HO284; clear HB; clear HO_4; have BK272 := n0_; have BK278 := n1_; have HO284 := n2_; have HO287 := n3_; have HB := n4_; clear n0_ n1_ n2_ n3_ n4_; (try clear hb); (try clear hkp); (try clear ho0); have hcz70 := blk_cells BK278.out; have hfz70 := blk_frozens BK278.out; have hcz71 := blk_cells BK272.out; have hfz71 := blk_frozens BK272.out)); try go_wp2_with (first | (go_at_call 54; (with_reducible refine (sawmillref17_add.calls (fun k_ => some k_ = (.slice Ao65 x5_1.length co65 : Value).ownBlock) (.slice Ao65 x5_1.length co65) x5_1 x8_1 (wrap64 (x8_1 + (wrap64 ((wrap64 (((rd_T69 l1 x9_1).f1) - a0_1)) - x8_1)))) t282 w _ ?side1 ?side2 A59.out).mono ?_); (case side1 => repeat (first | (with_reducible first | exact HB.out | apply below_alloc | apply pw_below_drewN | apply below_drew1 | refine below_set ?_ GE272.out | refine below_set ?_ GE278.out) | exact HB.out)); (case side2 => exact Kd.R_tight rfl HO_5.out); rintro e w66 ⟨v283, rfl, ho0, hb, hkp⟩; have n0_ := Aside0.mk (Kd.R_mono (ok' := fun k_ => some k_ ≠ (v283 : Value).ownBlock) (Kd.R_keptB (HO_4.out) hkp (fun k_ hk_ hs_ => (hk_) hs_)) (fun k_ hk_ => fun e_ => Or.elim (ho0.1 k_ e_.symm) (fun hs_ => hk_.2.1 hs_) (fun hn_ => Nat.not_le.2 hk_.2.2 hn_))); have n1_ := Aside0.mk (blk_kept (by first | (with_reducible exact BK272.out) | (with_reducible exact blk_drewN BK272.out _) | exact bu BK272.out) hkp (fun hs_ => (fun e_ => (Kd.R_ne HO_5.out BK272.out (by decide)) e_) hs_)); have n2_ := Aside0.mk (blk_kept (by first | (with_reducible exact BK278.out) | (with_reducible exact blk_drewN BK278.out _) | exact bu BK278.out) hkp (fun hs_ => (fun e_ => (Kd.R_ne HO_5.out BK278.out (by decide)) e_) hs_)); have n3_ := Aside0.mk (Kd.R_mono (ok' := fun k_ => some k_ ≠ (u4 : Value).ownBlock) ho0 (fun k_ hk_ => Or.elim hk_ (fun hs_ => fun e_ => (((HO_4.out).1 k_ e_.symm)) hs_) (fun hn_ => (Kd.fresh' (Kd.R_lt (ru HO_4.out)) k_ hn_)))); have n4_ := Aside0.mk (hb); clear HO_4; clear BK272; clear BK278; clear HB; clear HO_5; have HO_4 := n0_; have BK272 := n1_; have BK278 := n2_; have HO284 := n3_; have HB := n4_; clear n0_ n1_ n2_ n3_ n4_; (try clear hb); (try clear hkp); (try clear ho0); have hcz67 := blk_cells BK278.out; have hfz67 := blk_frozens BK278.out; obtain ⟨Ao68, co68, eo68⟩ := Kd.R_slice HO_4.out; subst eo68) | (go_at_call 54; (with_reducible refine (sawmillref17_add.calls (fun k_ => some k_ = (.slice Ao68 x4_1.length co68 : Value).ownBlock) (.slice Ao68 x4_1.length co68) x4_1 (wrap64 (x8_1 + (wrap64 ((wrap64 (((rd_T69 l1 x9_1).f1) - a0_1)) - x8_1)))) ((rd_T69 l1 x9_1).f1) t285 w _ ?side1 ?side2 A60.out).mono ?_); (case side1 => repeat (first | (with_reducible first | exact HB.out | apply below_alloc | apply pw_below_drewN | apply below_drew1 | refine below_set ?_ GE272.out | refine below_set ?_ GE278.out) | exact HB.out)); (case side2 => exact Kd.R_tight rfl HO_4.out); rintro e w69 ⟨v286, rfl, ho0, hb, hkp⟩; have n0_ := Aside0.mk (blk_kept (by first | (with_reducible exact BK272.out) | (with_reducible exact blk_drewN BK272.out _) | exact bu BK272.out) hkp (fun hs_ => (fun e_ => (Kd.R_ne HO_4.out BK272.out (by decide)) e_) hs_)); have n1_ := Aside0.mk (blk_kept (by first | (with_reducible exact BK278.out) | (with_reducible exact blk_drewN BK278.out _) | exact bu BK278.out) hkp (fun hs_ => (fun e_ => (Kd.R_ne HO_4.out BK278.out (by decide)) e_) hs_)); have n2_ := Aside0.mk (Kd.R_mono (ok' := fun k_ => some k_ ≠ (v286 : Value).ownBlock) (Kd.R_keptB (HO284.out) hkp (fun k_ hk_ hs_ => (hk_) hs_)) (fun k_ hk_ => fun e_ => Or.elim (ho0.1 k_ e_.symm) (fun hs_ => hk_.2.1 hs_) (fun hn_ => Nat.not_le.2 hk_.2.2 hn_))); have n3_ := Aside0.mk (Kd.R_mono (ok' := fun k_ => some k_ ≠ (v283 : Value).ownBlock) ho0 (fun k_ hk_ => Or.elim hk_ (fun hs_ => fun e_ => (((HO284.out).1 k_ e_.symm)) hs_) (fun hn_ => (Kd.fresh' (Kd.R_lt (ru HO284.out)) k_ hn_)))); have n4_ := Aside0.mk (hb); clear BK272; clear BK278; clear HO284; clear HB; clear HO_4; have BK272 := n0_; have BK278 := n1_; have HO284 := n2_; have HO287 := n3_; have HB := n4_; clear n0_ n1_ n2_ n3_ n4_; (try clear hb); (try clear hkp); (try clear ho0); have hcz70 := blk_cells BK278.out; have hfz70 := blk_frozens BK278.out; have hcz71 := blk_cells BK272.out; have hfz71 := blk_frozens BK272.out)))
   go_roundg kj33
   case measure => have := HK1.out; have := HJ9.out; have := HJ22.out; have := HJ33.out; omega
   case rel => exact ⟨(t285), (t282), ((-1)), (wrap64 (x9_1 + 1)), rs1, rs1, H', ⟨by have := HK1.out; have := HJ9.out; have := HJ22.out; have := HJ33.out; omega⟩, ⟨by (with_reducible repeat (first | apply Kd.R_alloc | apply Kd.R_drewN | apply Kd.R_drew)); exact HO287.out⟩, ⟨by (with_reducible repeat (first | apply Kd.R_alloc | apply Kd.R_drewN | apply Kd.R_drew)); exact HO284.out⟩, ⟨bu BK272.out⟩, ⟨bl⟩⟩
 rw [if_neg c61] at H
 have c61b0 : ((wrap64 (((rd_T69 l1 x9_1).f1) + (rd l0_3 ((rd_T69 l1 x9_1).f0)))) == a0_0) = false := beq_eq_false_iff_ne.mpr c61
 have c61b1 : ((wrap64 (((rd_T69 l1 x9_1).f1) + (rd l0_3 ((rd_T69 l1 x9_1).f0)))) != a0_0) = true := bne_iff_ne.mpr c61
 obtain ⟨ji72, hji72⟩ : ∃ j_ : Int, (mn (wrap64 ((wrap64 (((rd_T69 l1 x9_1).f1) + (rd l0_3 ((rd_T69 l1 x9_1).f0)))) + a0_1)) a0_0) = j_ := ⟨_, rfl⟩
 replace H : ((sawmillref17_add.f t285 (wrap64 (((rd_T69 l1 x9_1).f1) + (rd l0_3 ((rd_T69 l1 x9_1).f0)))) (ji72)).bind fun t288 => (sawmillref17_Cuts.l0 kj33 l1 t288 t282 ji72 (wrap64 (x9_1 + 1)) a0_0 a0_1 a0_2 l0_3 l0_4 l0_5 l0_6)) = some (r1, r2, r3) := by first | (rw [hji72] at H; exact H) | (simp only [hji72] at H ⊢; exact H)
 (try rw [hji72] at A59)
 (try rw [hji72] at A60)
 have hji72_ : (if a0_0 < (wrap64 ((wrap64 (((rd_T69 l1 x9_1).f1) + (rd l0_3 ((rd_T69 l1 x9_1).f0)))) + a0_1)) then a0_0 else (wrap64 ((wrap64 (((rd_T69 l1 x9_1).f1) + (rd l0_3 ((rd_T69 l1 x9_1).f0)))) + a0_1))) = ji72 := hji72
 replace H := Option.bind_eq_some_iff.mp H
 obtain ⟨t288, A730, H⟩ := H
 replace H : (sawmillref17_Cuts.l0 kj33 l1 t288 t282 ji72 (wrap64 (x9_1 + 1)) a0_0 a0_1 a0_2 l0_3 l0_4 l0_5 l0_6) = some (r1, r2, r3) := H
 have A73 := Aside0.mk A730
 clear A730
 have H' := Aside0.mk H
 clear H
 have hnb74 := NB272_278.out
 have hnc74 := NB278_272.out
 have hcz75 := blk_cells BK272.out
 have hfz75 := blk_frozens BK272.out
 have hcz76_0 : wc.cell? ⟨gb278, 0, none⟩ = some (.int .i64 ((rd_T69 l1 x9_1).f0)) := (blk_cell BK278.out 0).trans rfl
 have hcz76_1 : wc.cell? ⟨gb278, 1, none⟩ = some (.int .i64 ((rd_T69 l1 x9_1).f1)) := (blk_cell BK278.out 1).trans rfl
 have hfz76_0 := blk_frozen BK278.out 0
 have hfz76_1 := blk_frozen BK278.out 1
 have p280 : 0 ≤ (((rd_T69 l1 x9_1).f0) : Int) := da1
 have q280 : ((rd_T69 l1 x9_1).f0) < (l0_4.length : Int) := da1
 obtain ⟨ad280, A280_0, c280_0, e280, hx280_0, hl280_0, hi280_0⟩ := at_L1 HR0_4.out ((rd_T69 l1 x9_1).f0) p280 q280
 cases e280
 (try replace hx280_0 := (HB.out.cell (World.block_lt_of_cell? w _ hx280_0)).trans hx280_0)
 have HR280_0 := Aside0.mk hi280_0
 have HC280_0 := Aside0.mk hl280_0
 clear hi280_0 hl280_0
 replace p280 := eq_true p280
 replace q280 := eq_true q280
 have p281 : 0 ≤ (((rd_T69 l1 x9_1).f1) : Int) := da1
 have q281 : ((rd_T69 l1 x9_1).f1) < ((rd_L1 l0_4 ((rd_T69 l1 x9_1).f0)).length : Int) := da1
 obtain ⟨ad281, e281, hx281_0⟩ := Kd.at_int HR280_0.out ((rd_T69 l1 x9_1).f1) p281 q281
 cases e281
 (try replace hx281_0 := (HB.out.cell (World.block_lt_of_cell? w _ hx281_0)).trans hx281_0)
 replace p281 := eq_true p281
 replace q281 := eq_true q281
 obtain ⟨Ao77, co77, eo77⟩ := Kd.R_slice HO_5.out
 subst eo77
 go_wp2_with (first | (go_at_call 54; (with_reducible refine (sawmillref17_add.calls (fun k_ => some k_ = (.slice Ao77 x5_1.length co77 : Value).ownBlock) (.slice Ao77 x5_1.length co77) x5_1 x8_1 (wrap64 (x8_1 + (wrap64 ((wrap64 (((rd_T69 l1 x9_1).f1) - a0_1)) - x8_1)))) t282 w _ ?side1 ?side2 A59.out).mono ?_); (case side1 => repeat (first | (with_reducible first | exact HB.out | apply below_alloc | apply pw_below_drewN | apply below_drew1 | refine below_set ?_ GE272.out | refine below_set ?_ GE278.out) | exact HB.out)); (case side2 => exact Kd.R_tight rfl HO_5.out); rintro e w78 ⟨v283, rfl, ho0, hb, hkp⟩; have n0_ := Aside0.mk (Kd.R_mono (ok' := fun k_ => some k_ ≠ (v283 : Value).ownBlock) (Kd.R_keptB (HO_4.out) hkp (fun k_ hk_ hs_ => (hk_) hs_)) (fun k_ hk_ => fun e_ => Or.elim (ho0.1 k_ e_.symm) (fun hs_ => hk_.2.1 hs_) (fun hn_ => Nat.not_le.2 hk_.2.2 hn_))); have n1_ := Aside0.mk (blk_kept (by first | (with_reducible exact BK272.out) | (with_reducible exact blk_drewN BK272.out _) | exact bu BK272.out) hkp (fun hs_ => (fun e_ => (Kd.R_ne HO_5.out BK272.out (by decide)) e_) hs_)); have n2_ := Aside0.mk (blk_kept (by first | (with_reducible exact BK278.out) | (with_reducible exact blk_drewN BK278.out _) | exact bu BK278.out) hkp (fun hs_ => (fun e_ => (Kd.R_ne HO_5.out BK278.out (by decide)) e_) hs_)); have n3_ := Aside0.mk (Kd.R_mono (ok' := fun k_ => some k_ ≠ (u4 : Value).ownBlock) ho0 (fun k_ hk_ => Or.elim hk_ (fun hs_ => fun e_ => (((HO_4.out).1 k_ e_.symm)) hs_) (fun hn_ => (Kd.fresh' (Kd.R_lt (ru HO_4.out)) k_ hn_)))); have n4_ := Aside0.mk (hb); clear HO_4; clear BK272; clear BK278; clear HB; clear HO_5; have HO_4 := n0_; have BK272 := n1_; have BK278 := n2_; have HO284 := n3_; have HB := n4_; clear n0_ n1_ n2_ n3_ n4_; (try clear hb); (try clear hkp); (try clear ho0); have hcz79 := blk_cells BK278.out; have hfz79 := blk_frozens BK278.out; obtain ⟨Ao80, co80, eo80⟩ := Kd.R_slice HO_4.out; subst eo80) | (go_at_call 54; (with_reducible refine (sawmillref17_add.calls (fun k_ => some k_ = (.slice Ao80 x4_1.length co80 : Value).ownBlock) (.slice Ao80 x4_1.length co80) x4_1 (wrap64 (x8_1 + (wrap64 ((wrap64 (((rd_T69 l1 x9_1).f1) - a0_1)) - x8_1)))) ((rd_T69 l1 x9_1).f1) t285 w _ ?side1 ?side2 A60.out).mono ?_); (case side1 => repeat (first | (with_reducible first | exact HB.out | apply below_alloc | apply pw_below_drewN | apply below_drew1 | refine below_set ?_ GE272.out | refine below_set ?_ GE278.out) | exact HB.out)); (case side2 => exact Kd.R_tight rfl HO_4.out); rintro e w81 ⟨v286, rfl, ho0, hb, hkp⟩; have n0_ := Aside0.mk (blk_kept (by first | (with_reducible exact BK272.out) | (with_reducible exact blk_drewN BK272.out _) | exact bu BK272.out) hkp (fun hs_ => (fun e_ => (Kd.R_ne HO_4.out BK272.out (by decide)) e_) hs_)); have n1_ := Aside0.mk (blk_kept (by first | (with_reducible exact BK278.out) | (with_reducible exact blk_drewN BK278.out _) | exact bu BK278.out) hkp (fun hs_ => (fun e_ => (Kd.R_ne HO_4.out BK278.out (by decide)) e_) hs_)); have n2_ := Aside0.mk (Kd.R_mono (ok' := fun k_ => some k_ ≠ (v286 : Value).ownBlock) (Kd.R_keptB (HO284.out) hkp (fun k_ hk_ hs_ => (hk_) hs_)) (fun k_ hk_ => fun e_ => Or.elim (ho0.1 k_ e_.symm) (fun hs_ => hk_.2.1 hs_) (fun hn_ => Nat.not_le.2 hk_.2.2 hn_))); have n3_ := Aside0.mk (Kd.R_mono (ok' := fun k_ => some k_ ≠ (v283 : Value).ownBlock) ho0 (fun k_ hk_ => Or.elim hk_ (fun hs_ => fun e_ => (((HO284.out).1 k_ e_.symm)) hs_) (fun hn_ => (Kd.fresh' (Kd.R_lt (ru HO284.out)) k_ hn_)))); have n4_ := Aside0.mk (hb); clear BK272; clear BK278; clear HO284; clear HB; clear HO_4; have BK272 := n0_; have BK278 := n1_; have HO284 := n2_; have HO287 := n3_; have HB := n4_; clear n0_ n1_ n2_ n3_ n4_; (try clear hb); (try clear hkp); (try clear ho0); have hcz82 := blk_cells BK278.out; have hfz82 := blk_frozens BK278.out; have hcz83 := blk_cells BK272.out; have hfz83 := blk_frozens BK272.out; obtain ⟨Ao84, co84, eo84⟩ := Kd.R_slice HO287.out; subst eo84) | (go_at_call 54; (with_reducible refine (sawmillref17_add.calls (fun k_ => some k_ = (.slice Ao84 t285.length co84 : Value).ownBlock) (.slice Ao84 t285.length co84) t285 (wrap64 (((rd_T69 l1 x9_1).f1) + (rd l0_3 ((rd_T69 l1 x9_1).f0)))) ji72 t288 w _ ?side1 ?side2 A73.out).mono ?_); (case side1 => repeat (first | (with_reducible first | exact HB.out | apply below_alloc | apply pw_below_drewN | apply below_drew1 | refine below_set ?_ GE272.out | refine below_set ?_ GE278.out) | exact HB.out)); (case side2 => exact Kd.R_tight rfl HO287.out); rintro e w85 ⟨v289, rfl, ho0, hb, hkp⟩; have n0_ := Aside0.mk (blk_kept (by first | (with_reducible exact BK272.out) | (with_reducible exact blk_drewN BK272.out _) | exact bu BK272.out) hkp (fun hs_ => (fun e_ => (Kd.R_ne HO287.out BK272.out (by decide)) e_) hs_)); have n1_ := Aside0.mk (blk_kept (by first | (with_reducible exact BK278.out) | (with_reducible exact blk_drewN BK278.out _) | exact bu BK278.out) hkp (fun hs_ => (fun e_ => (Kd.R_ne HO287.out BK278.out (by decide)) e_) hs_)); have n2_ := Aside0.mk (Kd.R_mono (ok' := fun k_ => some k_ ≠ (v289 : Value).ownBlock) (Kd.R_keptB (HO284.out) hkp (fun k_ hk_ hs_ => (hk_) hs_)) (fun k_ hk_ => fun e_ => Or.elim (ho0.1 k_ e_.symm) (fun hs_ => hk_.2.1 hs_) (fun hn_ => Nat.not_le.2 hk_.2.2 hn_))); have n3_ := Aside0.mk (Kd.R_mono (ok' := fun k_ => some k_ ≠ (v283 : Value).ownBlock) ho0 (fun k_ hk_ => Or.elim hk_ (fun hs_ => fun e_ => (((HO284.out).1 k_ e_.symm)) hs_) (fun hn_ => (Kd.fresh' (Kd.R_lt (ru HO284.out)) k_ hn_)))); have n4_ := Aside0.mk (hb); clear BK272; clear BK278; clear HO284; clear HB; clear HO287; have BK272 := n0_; have BK278 := n1_; have HO284 := n2_; have HO290 := n3_; have HB := n4_; clear n0_ n1_ n2_ n3_ n4_; (try clear hb); (try clear hkp); (try clear ho0)))
 repeat (go_quiet (first | (go_at_call 54; (with_reducible refine (sawmillref17_add.calls (fun k_ => some k_ = (.slice Ao77 x5_1.length co77 : Value).ownBlock) (.slice Ao77 x5_1.length co77) x5_1 x8_1 (wrap64 (x8_1 + (wrap64 ((wrap64 (((rd_T69 l1 x9_1).f1) - a0_1)) - x8_1)))) t282 w _ ?side1 ?side2 A59.out).mono ?_); (case side1 => repeat (first | (with_reducible first | exact HB.out | apply below_alloc | apply pw_below_drewN | apply below_drew1 | refine below_set ?_ GE272.out | refine below_set ?_ GE278.out) | exact HB.out)); (case side2 => exact Kd.R_tight rfl HO_5.out); rintro e w78 ⟨v283, rfl, ho0, hb, hkp⟩; have n0_ := Aside0.mk (Kd.R_mono (ok' := fun k_ => some k_ ≠ (v283 : Value).ownBlock) (Kd.R_keptB (HO_4.out) hkp (fun k_ hk_ hs_ => (hk_) hs_)) (fun k_ hk_ => fun e_ => Or.elim (ho0.1 k_ e_.symm) (fun hs_ => hk_.2.1 hs_) (fun hn_ => Nat.not_le.2 hk_.2.2 hn_))); have n1_ := Aside0.mk (blk_kept (by first | (with_reducible exact BK272.out) | (with_reducible exact blk_drewN BK272.out _) | exact bu BK272.out) hkp (fun hs_ => (fun e_ => (Kd.R_ne HO_5.out BK272.out (by decide)) e_) hs_)); have n2_ := Aside0.mk (blk_kept (by first | (with_reducible exact BK278.out) | (with_reducible exact blk_drewN BK278.out _) | exact bu BK278.out) hkp (fun hs_ => (fun e_ => (Kd.R_ne HO_5.out BK278.out (by decide)) e_) hs_)); have n3_ := Aside0.mk (Kd.R_mono (ok' := fun k_ => some k_ ≠ (u4 : Value).ownBlock) ho0 (fun k_ hk_ => Or.elim hk_ (fun hs_ => fun e_ => (((HO_4.out).1 k_ e_.symm)) hs_) (fun hn_ => (Kd.fresh' (Kd.R_lt (ru HO_4.out)) k_ hn_)))); have n4_ := Aside0.mk (hb); clear HO_4; clear BK272; clear BK278; clear HB; clear HO_5; have HO_4 := n0_; have BK272 := n1_; have BK278 := n2_; have HO284 := n3_; have HB := n4_; clear n0_ n1_ n2_ n3_ n4_; (try clear hb); (try clear hkp); (try clear ho0); have hcz79 := blk_cells BK278.out; have hfz79 := blk_frozens BK278.out; obtain ⟨Ao80, co80, eo80⟩ := Kd.R_slice HO_4.out; subst eo80) | (go_at_call 54; (with_reducible refine (sawmillref17_add.calls (fun k_ => some k_ = (.slice Ao80 x4_1.length co80 : Value).ownBlock) (.slice Ao80 x4_1.length co80) x4_1 (wrap64 (x8_1 + (wrap64 ((wrap64 (((rd_T69 l1 x9_1).f1) - a0_1)) - x8_1)))) ((rd_T69 l1 x9_1).f1) t285 w _ ?side1 ?side2 A60.out).mono ?_); (case side1 => repeat (first | (with_reducible first | exact HB.out | apply below_alloc | apply pw_below_drewN | apply below_drew1 | refine below_set ?_ GE272.out | refine below_set ?_ GE278.out) | exact HB.out)); (case side2 => exact Kd.R_tight rfl HO_4.out); rintro e w81 ⟨v286, rfl, ho0, hb, hkp⟩; have n0_ := Aside0.mk (blk_kept (by first | (with_reducible exact BK272.out) | (with_reducible exact blk_drewN BK272.out _) | exact bu BK272.out) hkp (fun hs_ => (fun e_ => (Kd.R_ne HO_4.out BK272.out (by decide)) e_) hs_)); have n1_ := Aside0.mk (blk_kept (by first | (with_reducible exact BK278.out) | (with_reducible exact blk_drewN BK278.out _) | exact bu BK278.out) hkp (fun hs_ => (fun e_ => (Kd.R_ne HO_4.out BK278.out (by decide)) e_) hs_)); have n2_ := Aside0.mk (Kd.R_mono (ok' := fun k_ => some k_ ≠ (v286 : Value).ownBlock) (Kd.R_keptB (HO284.out) hkp (fun k_ hk_ hs_ => (hk_) hs_)) (fun k_ hk_ => fun e_ => Or.elim (ho0.1 k_ e_.symm) (fun hs_ => hk_.2.1 hs_) (fun hn_ => Nat.not_le.2 hk_.2.2 hn_))); have n3_ := Aside0.mk (Kd.R_mono (ok' := fun k_ => some k_ ≠ (v283 : Value).ownBlock) ho0 (fun k_ hk_ => Or.elim hk_ (fun hs_ => fun e_ => (((HO284.out).1 k_ e_.symm)) hs_) (fun hn_ => (Kd.fresh' (Kd.R_lt (ru HO284.out)) k_ hn_)))); have n4_ := Aside0.mk (hb); clear BK272; clear BK278; clear HO284; clear HB; clear HO_4; have BK272 := n0_; have BK278 := n1_; have HO284 := n2_; have HO287 := n3_; have HB := n4_; clear n0_ n1_ n2_ n3_ n4_; (try clear hb); (try clear hkp); (try clear ho0); have hcz82 := blk_cells BK278.out; have hfz82 := blk_frozens BK278.out; have hcz83 := blk_cells BK272.out; have hfz83 := blk_frozens BK272.out; obtain ⟨Ao84, co84, eo84⟩ := Kd.R_slice HO287.out; subst eo84) | (go_at_call 54; (with_reducible refine (sawmillref17_add.calls (fun k_ => some k_ = (.slice Ao84 t285.length co84 : Value).ownBlock) (.slice Ao84 t285.length co84) t285 (wrap64 (((rd_T69 l1 x9_1).f1) + (rd l0_3 ((rd_T69 l1 x9_1).f0)))) ji72 t288 w _ ?side1 ?side2 A73.out).mono ?_); (case side1 => repeat (first | (with_reducible first | exact HB.out | apply below_alloc | apply pw_below_drewN | apply below_drew1 | refine below_set ?_ GE272.out | refine below_set ?_ GE278.out) | exact HB.out)); (case side2 => exact Kd.R_tight rfl HO287.out); rintro e w85 ⟨v289, rfl, ho0, hb, hkp⟩; have n0_ := Aside0.mk (blk_kept (by first | (with_reducible exact BK272.out) | (with_reducible exact blk_drewN BK272.out _) | exact bu BK272.out) hkp (fun hs_ => (fun e_ => (Kd.R_ne HO287.out BK272.out (by decide)) e_) hs_)); have n1_ := Aside0.mk (blk_kept (by first | (with_reducible exact BK278.out) | (with_reducible exact blk_drewN BK278.out _) | exact bu BK278.out) hkp (fun hs_ => (fun e_ => (Kd.R_ne HO287.out BK278.out (by decide)) e_) hs_)); have n2_ := Aside0.mk (Kd.R_mono (ok' := fun k_ => some k_ ≠ (v289 : Value).ownBlock) (Kd.R_keptB (HO284.out) hkp (fun k_ hk_ hs_ => (hk_) hs_)) (fun k_ hk_ => fun e_ => Or.elim (ho0.1 k_ e_.symm) (fun hs_ => hk_.2.1 hs_) (fun hn_ => Nat.not_le.2 hk_.2.2 hn_))); have n3_ := Aside0.mk (Kd.R_mono (ok' := fun k_ => some k_ ≠ (v283 : Value).ownBlock) ho0 (fun k_ hk_ => Or.elim hk_ (fun hs_ => fun e_ => (((HO284.out).1 k_ e_.symm)) hs_) (fun hn_ => (Kd.fresh' (Kd.R_lt (ru HO284.out)) k_ hn_)))); have n4_ := Aside0.mk (hb); clear BK272; clear BK278; clear HO284; clear HB; clear HO287; have BK272 := n0_; have BK278 := n1_; have HO284 := n2_; have HO290 := n3_; have HB := n4_; clear n0_ n1_ n2_ n3_ n4_; (try clear hb); (try clear hkp); (try clear ho0))); try go_wp2_with (first | (go_at_call 54; (with_reducible refine (sawmillref17_add.calls (fun k_ => some k_ = (.slice Ao77 x5_1.length co77 : Value).ownBlock) (.slice Ao77 x5_1.length co77) x5_1 x8_1 (wrap64 (x8_1 + (wrap64 ((wrap64 (((rd_T69 l1 x9_1).f1) - a0_1)) - x8_1)))) t282 w _ ?side1 ?side2 A59.out).mono ?_); (case side1 => repeat (first | (with_reducible first | exact HB.out | apply below_alloc | apply pw_below_drewN | apply below_drew1 | refine below_set ?_ GE272.out | refine below_set ?_ GE278.out) | exact HB.out)); (case side2 => exact Kd.R_tight rfl HO_5.out); rintro e w78 ⟨v283, rfl, ho0, hb, hkp⟩; have n0_ := Aside0.mk (Kd.R_mono (ok' := fun k_ => some k_ ≠ (v283 : Value).ownBlock) (Kd.R_keptB (HO_4.out) hkp (fun k_ hk_ hs_ => (hk_) hs_)) (fun k_ hk_ => fun e_ => Or.elim (ho0.1 k_ e_.symm) (fun hs_ => hk_.2.1 hs_) (fun hn_ => Nat.not_le.2 hk_.2.2 hn_))); have n1_ := Aside0.mk (blk_kept (by first | (with_reducible exact BK272.out) | (with_reducible exact blk_drewN BK272.out _) | exact bu BK272.out) hkp (fun hs_ => (fun e_ => (Kd.R_ne HO_5.out BK272.out (by decide)) e_) hs_)); have n2_ := Aside0.mk (blk_kept (by first | (with_reducible exact BK278.out) | (with_reducible exact blk_drewN BK278.out _) | exact bu BK278.out) hkp (fun hs_ => (fun e_ => (Kd.R_ne HO_5.out BK278.out (by decide)) e_) hs_)); have n3_ := Aside0.mk (Kd.R_mono (ok' := fun k_ => some k_ ≠ (u4 : Value).ownBlock) ho0 (fun k_ hk_ => Or.elim hk_ (fun hs_ => fun e_ => (((HO_4.out).1 k_ e_.symm)) hs_) (fun hn_ => (Kd.fresh' (Kd.R_lt (ru HO_4.out)) k_ hn_)))); have n4_ := Aside0.mk (hb); clear HO_4; clear BK272; clear BK278; clear HB; clear HO_5; have HO_4 := n0_; have BK272 := n1_; have BK278 := n2_; have HO284 := n3_; have HB := n4_; clear n0_ n1_ n2_ n3_ n4_; (try clear hb); (try clear hkp); (try clear ho0); have hcz79 := blk_cells BK278.out; have hfz79 := blk_frozens BK278.out; obtain ⟨Ao80, co80, eo80⟩ := Kd.R_slice HO_4.out; subst eo80) | (go_at_call 54; (with_reducible refine (sawmillref17_add.calls (fun k_ => some k_ = (.slice Ao80 x4_1.length co80 : Value).ownBlock) (.slice Ao80 x4_1.length co80) x4_1 (wrap64 (x8_1 + (wrap64 ((wrap64 (((rd_T69 l1 x9_1).f1) - a0_1)) - x8_1)))) ((rd_T69 l1 x9_1).f1) t285 w _ ?side1 ?side2 A60.out).mono ?_); (case side1 => repeat (first | (with_reducible first | exact HB.out | apply below_alloc | apply pw_below_drewN | apply below_drew1 | refine below_set ?_ GE272.out | refine below_set ?_ GE278.out) | exact HB.out)); (case side2 => exact Kd.R_tight rfl HO_4.out); rintro e w81 ⟨v286, rfl, ho0, hb, hkp⟩; have n0_ := Aside0.mk (blk_kept (by first | (with_reducible exact BK272.out) | (with_reducible exact blk_drewN BK272.out _) | exact bu BK272.out) hkp (fun hs_ => (fun e_ => (Kd.R_ne HO_4.out BK272.out (by decide)) e_) hs_)); have n1_ := Aside0.mk (blk_kept (by first | (with_reducible exact BK278.out) | (with_reducible exact blk_drewN BK278.out _) | exact bu BK278.out) hkp (fun hs_ => (fun e_ => (Kd.R_ne HO_4.out BK278.out (by decide)) e_) hs_)); have n2_ := Aside0.mk (Kd.R_mono (ok' := fun k_ => some k_ ≠ (v286 : Value).ownBlock) (Kd.R_keptB (HO284.out) hkp (fun k_ hk_ hs_ => (hk_) hs_)) (fun k_ hk_ => fun e_ => Or.elim (ho0.1 k_ e_.symm) (fun hs_ => hk_.2.1 hs_) (fun hn_ => Nat.not_le.2 hk_.2.2 hn_))); have n3_ := Aside0.mk (Kd.R_mono (ok' := fun k_ => some k_ ≠ (v283 : Value).ownBlock) ho0 (fun k_ hk_ => Or.elim hk_ (fun hs_ => fun e_ => (((HO284.out).1 k_ e_.symm)) hs_) (fun hn_ => (Kd.fresh' (Kd.R_lt (ru HO284.out)) k_ hn_)))); have n4_ := Aside0.mk (hb); clear BK272; clear BK278; clear HO284; clear HB; clear HO_4; have BK272 := n0_; have BK278 := n1_; have HO284 := n2_; have HO287 := n3_; have HB := n4_; clear n0_ n1_ n2_ n3_ n4_; (try clear hb); (try clear hkp); (try clear ho0); have hcz82 := blk_cells BK278.out; have hfz82 := blk_frozens BK278.out; have hcz83 := blk_cells BK272.out; have hfz83 := blk_frozens BK272.out; obtain ⟨Ao84, co84, eo84⟩ := Kd.R_slice HO287.out; subst eo84) | (go_at_call 54; (with_reducible refine (sawmillref17_add.calls (fun k_ => some k_ = (.slice Ao84 t285.length co84 : Value).ownBlock) (.slice Ao84 t285.length co84) t285 (wrap64 (((rd_T69 l1 x9_1).f1) + (rd l0_3 ((rd_T69 l1 x9_1).f0)))) ji72 t288 w _ ?side1 ?side2 A73.out).mono ?_); (case side1 => repeat (first | (with_reducible first | exact HB.out | apply below_alloc | apply pw_below_drewN | apply below_drew1 | refine below_set ?_ GE272.out | refine below_set ?_ GE278.out) | exact HB.out)); (case side2 => exact Kd.R_tight rfl HO287.out); rintro e w85 ⟨v289, rfl, ho0, hb, hkp⟩; have n0_ := Aside0.mk (blk_kept (by first | (with_reducible exact BK272.out) | (with_reducible exact blk_drewN BK272.out _) | exact bu BK272.out) hkp (fun hs_ => (fun e_ => (Kd.R_ne HO287.out BK272.out (by decide)) e_) hs_)); have n1_ := Aside0.mk (blk_kept (by first | (with_reducible exact BK278.out) | (with_reducible exact blk_drewN BK278.out _) | exact bu BK278.out) hkp (fun hs_ => (fun e_ => (Kd.R_ne HO287.out BK278.out (by decide)) e_) hs_)); have n2_ := Aside0.mk (Kd.R_mono (ok' := fun k_ => some k_ ≠ (v289 : Value).ownBlock) (Kd.R_keptB (HO284.out) hkp (fun k_ hk_ hs_ => (hk_) hs_)) (fun k_ hk_ => fun e_ => Or.elim (ho0.1 k_ e_.symm) (fun hs_ => hk_.2.1 hs_) (fun hn_ => Nat.not_le.2 hk_.2.2 hn_))); have n3_ := Aside0.mk (Kd.R_mono (ok' := fun k_ => some k_ ≠ (v283 : Value).ownBlock) ho0 (fun k_ hk_ => Or.elim hk_ (fun hs_ => fun e_ => (((HO284.out).1 k_ e_.symm)) hs_) (fun hn_ => (Kd.fresh' (Kd.R_lt (ru HO284.out)) k_ hn_)))); have n4_ := Aside0.mk (hb); clear BK272; clear BK278; clear HO284; clear HB; clear HO287; have BK272 := n0_; have BK278 := n1_; have HO284 := n2_; have HO290 := n3_; have HB := n4_; clear n0_ n1_ n2_ n3_ n4_; (try clear hb); (try clear hkp); (try clear ho0))))
 go_roundg kj33
 case measure => have := HK1.out; have := HJ9.out; have := HJ22.out; have := HJ33.out; omega
 case rel => exact ⟨(t288), (t282), (ji72), (wrap64 (x9_1 + 1)), (by first | rfl | (simp; done) | (simp only [← hji72] <;> (first | rfl | simp)) | (simp [*]; done)), rs1, H', ⟨by have := HK1.out; have := HJ9.out; have := HJ22.out; have := HJ33.out; omega⟩, ⟨by (with_reducible repeat (first | apply Kd.R_alloc | apply Kd.R_drewN | apply Kd.R_drew)); exact HO290.out⟩, ⟨by (with_reducible repeat (first | apply Kd.R_alloc | apply Kd.R_drewN | apply Kd.R_drew)); exact HO284.out⟩, ⟨bu BK272.out⟩, ⟨bl⟩⟩
end Go.Proofs.YtoaicheopcojoaaDoor.P
