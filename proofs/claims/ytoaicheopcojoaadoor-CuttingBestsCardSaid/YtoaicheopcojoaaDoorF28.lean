import Derived.Test.YtoaicheopcojoaaDoorF28d
import Derived.Test.YtoaicheopcojoaaDoorF58
namespace Go.Proofs.YtoaicheopcojoaaDoor.P
open Go.RowKit Go.Proofs.YtoaicheopcojoaaDoorW.PrintWords Go.Proofs.YtoaicheopcojoaaDoorW.PrintLast Go.Proofs.YtoaicheopcojoaaDoorW.PrintMore
attribute [local go_sem] max2_int min2_int max_two min_two max_three min_three max_four min_four   -- for this text's walks alone
set_option linter.unusedVariables false
set_option linter.unusedSimpArgs false
def sawmillref17_Best.T4 : Bool × List (List Nat × List Nat) := (true, [([], []), ([0], [0]), ([1], [1]), ([], []), ([3], [3]), ([4, 2], [4]), ([2, 5, 0, 1, 2], [2]), ([5, 6, 0, 1, 2, 3, 4, 5, 6], [5])])
def sawmillref17_Best.B4 : List Nat := [0, 1, 3, 0, 8, 31, 63, 127]
theorem sawmillref17_Best.tab4 : rtab .any (opsOf Tryd.f28 4) = sawmillref17_Best.T4 := by kernel_rfl
theorem sawmillref17_Best.bits4 : waitsOk sawmillref17_Best.T4.2 sawmillref17_Best.B4 = true := by kernel_rfl
def sawmillref17_Best.T15 : Bool × List (List Nat × List Nat) := (true, [([], []), ([0], [0]), ([], []), ([2], [2]), ([], []), ([4], [4]), ([3, 5], [3, 5]), ([6], [6]), ([1, 7], [1, 7]), ([8, 0, 1, 2, 3, 4, 5, 6, 7, 8], [8])])
def sawmillref17_Best.B15 : List Nat := [0, 1, 0, 4, 0, 16, 60, 124, 255, 511]
theorem sawmillref17_Best.tab15 : rtab .any (opsOf Tryd.f28 15) = sawmillref17_Best.T15 := by kernel_rfl
theorem sawmillref17_Best.bits15 : waitsOk sawmillref17_Best.T15.2 sawmillref17_Best.B15 = true := by kernel_rfl
def sawmillref17_Best.T18 : Bool × List (List Nat × List Nat) := (true, [([], []), ([], []), ([1], [1]), ([2], [2]), ([3], [3]), ([0, 0], [0]), ([4, 5, 0, 1, 2, 3, 4, 5], [4]), ([6, 0, 1, 2, 3, 4, 5, 6], [])])
def sawmillref17_Best.B18 : List Nat := [0, 0, 2, 6, 14, 1, 63, 127]
theorem sawmillref17_Best.tab18 : rtab .any (opsOf Tryd.f28 18) = sawmillref17_Best.T18 := by kernel_rfl
theorem sawmillref17_Best.bits18 : waitsOk sawmillref17_Best.T18.2 sawmillref17_Best.B18 = true := by kernel_rfl
set_option maxHeartbeats 8000000 in
set_option maxRecDepth 100000 in
theorem sawmillref17_Best.calls (k : Nat) (a0_0 : Int) (a0_1 : Int) (a0_2 : Int) (A0_3 : Option Addr) (c0_3 : Nat) (l0_3 : List Int) (A0_4 : Option Addr) (c0_4 : Nat) (l0_4 : List (List Int)) (A0_5 : Option Addr) (c0_5 : Nat) (l0_5 : List Int) (A0_6 : Option Addr) (c0_6 : Nat) (l0_6 : List Int) (r1 : List (S69)) (r2 : Int) (r3 : Int) (w : World) (hr0_3 : Kd.C (Kd.int .i64) w A0_3 l0_3.length l0_3) (hc0_3 : l0_3.length ≤ c0_3) (hr0_4 : Kd.C (Kd.slice 3 (Kd.int .i64)) w A0_4 l0_4.length l0_4) (hc0_4 : l0_4.length ≤ c0_4) (hr0_5 : Kd.C (Kd.int .i64) w A0_5 l0_5.length l0_5) (hc0_5 : l0_5.length ≤ c0_5) (hr0_6 : Kd.C (Kd.int .i64) w A0_6 l0_6.length l0_6) (hc0_6 : l0_6.length ≤ c0_6) (h : sawmillref17_Best.f k a0_0 a0_1 a0_2 l0_3 l0_4 l0_5 l0_6 = some (r1, r2, r3)) :
    Calls Tryd.prog 28 #[.agg #[.int .i64 a0_0, .int .i64 a0_1, .int .i64 a0_2, .slice A0_3 l0_3.length c0_3, .slice A0_4 l0_4.length c0_4, .slice A0_5 l0_5.length c0_5, .slice A0_6 l0_6.length c0_6]] w fun e w' => ∃ v0_ : Value, e = .returned (.tuple #[v0_, .int .i64 r2, .int .i64 r3]) ∧ Kd.R k69 69 w' w.heap.size (fun _ => True) v0_ r1 ∧ Below w.heap.size w w' := by
 have hu25 := Tryd.underlying25
 have hu100 := Tryd.underlying100
 have hu69 := Tryd.underlying69
 have HR0_3 := Aside0.mk hr0_3
 have HC0_3 := Aside0.mk hc0_3
 clear hr0_3 hc0_3
 have HR0_4 := Aside0.mk hr0_4
 have HC0_4 := Aside0.mk hc0_4
 clear hr0_4 hc0_4
 have HR0_5 := Aside0.mk hr0_5
 have HC0_5 := Aside0.mk hc0_5
 clear hr0_5 hc0_5
 have HR0_6 := Aside0.mk hr0_6
 have HC0_6 := Aside0.mk hc0_6
 clear hr0_6 hc0_6
 have HB := Aside0.mk (Below.refl w.heap.size w)
 have H : ((sawmillref17_Check.f k a0_0 a0_1 a0_2 l0_3 l0_4 l0_5 l0_6).bind fun t371 => (if t371 = 0 then ((sawmillref17_prefix.f k l0_5).bind fun t372 => ((sawmillref17_prefix.f k l0_6).bind fun t375 => (if 0 ≤ (wrap64 (a0_0 + 1)) then (if (wrap64 (a0_0 + 1) : Int).toNat ≤ 11728124029610 then (sawmillref17_Best.l0 k t372 t375 (List.replicate (wrap64 (a0_0 + 1) : Int).toNat z100) a0_0 a0_0 a0_1 a0_2 l0_3 l0_4 l0_5 l0_6) else (none)) else (none)))) else (some (([] : List (S69)), 0, t371)))) = some (r1, r2, r3) := h
 clear h
 replace H := Option.bind_eq_some_iff.mp H
 obtain ⟨t371, A20, H⟩ := H
 replace H : (if t371 = 0 then ((sawmillref17_prefix.f k l0_5).bind fun t372 => ((sawmillref17_prefix.f k l0_6).bind fun t375 => (if 0 ≤ (wrap64 (a0_0 + 1)) then (if (wrap64 (a0_0 + 1) : Int).toNat ≤ 11728124029610 then (sawmillref17_Best.l0 k t372 t375 (List.replicate (wrap64 (a0_0 + 1) : Int).toNat z100) a0_0 a0_0 a0_1 a0_2 l0_3 l0_4 l0_5 l0_6) else (none)) else (none)))) else (some (([] : List (S69)), 0, t371))) = some (r1, r2, r3) := H
 have A2 := Aside0.mk A20
 clear A20
 by_cases c3 : t371 = 0
 rotate_left
 · rw [if_neg c3] at H
   have c3b0 : (t371 == 0) = false := beq_eq_false_iff_ne.mpr c3
   have c3b1 : (t371 != 0) = true := bne_iff_ne.mpr c3
   simp only [Option.some.injEq, Prod.mk.injEq] at H
   obtain ⟨rfl, rfl, rfl⟩ := H
   go_enter Tryd.func28, Tryd.ntmps28
   go_wp2_with (first | ((with_reducible refine gate_dst (N := 1) rfl ?_); refine bx1 (N := 1) #[.int .i64 a0_0, .int .i64 a0_1, .int .i64 a0_2, .slice A0_3 l0_3.length c0_3, .slice A0_4 l0_4.length c0_4, .slice A0_5 l0_5.length c0_5, .slice A0_6 l0_6.length c0_6] 25 ?_; intro gb370 hg w58 hbox hb; have n0_ := Aside0.mk (below_step bl hb); have n1_ := Aside0.mk (hbox); have n2_ := Aside0.mk ((gs1 : w.heap.size ≤ gb370)); have n3_ := Aside0.mk ((gs1 : w.heap.size ≤ gb370)); clear HB; have HB := n0_; have BK370 := n1_; have GW370 := n2_; have GE370 := n3_; clear n0_ n1_ n2_ n3_; clear hb hbox hg; have hcz59 := blk_cells BK370.out; have hfz59 := blk_frozens BK370.out) | ((with_reducible refine gate_callee (f := 20) rfl ?_); refine goesL_ (some 15) rfl rfl Tryd.func20 (by kernel_rfl) rfl #[.agg #[.int .i64 a0_0, .int .i64 a0_1, .int .i64 a0_2, .slice A0_3 l0_3.length c0_3, .slice A0_4 l0_4.length c0_4, .slice A0_5 l0_5.length c0_5, .slice A0_6 l0_6.length c0_6]] rfl mp1 ?_; (with_reducible refine (sawmillref17_Check.calls k a0_0 a0_1 a0_2 _ _ l0_3 _ _ l0_4 _ _ l0_5 _ _ l0_6 t371 _ ?side1 ?side2 ?side3 ?side4 ?side5 ?side6 ?side7 ?side8 A2.out).mono ?_); (case side1 => exact cu1 (Kd.C_below HR0_3.out HB.out)); (case side2 => exact HC0_3.out); (case side3 => exact cu1 (Kd.C_below HR0_4.out HB.out)); (case side4 => exact HC0_4.out); (case side5 => exact cu1 (Kd.C_below HR0_5.out HB.out)); (case side6 => exact HC0_5.out); (case side7 => exact cu1 (Kd.C_below HR0_6.out HB.out)); (case side8 => exact HC0_6.out); rintro e w60 ⟨rfl, hb⟩; refine ⟨_, rfl, ?_⟩; have n0_ := Aside0.mk (blk_below (bu BK370.out) hb); have n1_ := Aside0.mk (below_step bl hb); clear BK370; clear HB; have BK370 := n0_; have HB := n1_; clear n0_ n1_; (try clear hb); (try clear hb2); (try clear hk); (try clear hi)))
   go_ret3
   exact ⟨_, fe1, by first | exact Kd.R_nil _ _ _ _ _ | exact Kd.N_nil _ _ _ _ _ | exact Kd.V_nil _ _ _ _ _ | exact Kd.Q_nil _ _ _ _ _ | exact Kd.S_nil _ _ _ _ _, bl⟩
 rw [if_pos c3] at H
 have c3b0 : (t371 == 0) = true := beq_iff_eq.mpr c3
 have c3b1 : (t371 != 0) = false := bne_eq_false_iff_eq.mpr c3
 clear c3
 replace H := Option.bind_eq_some_iff.mp H
 obtain ⟨t372, A40, H⟩ := H
 replace H : ((sawmillref17_prefix.f k l0_6).bind fun t375 => (if 0 ≤ (wrap64 (a0_0 + 1)) then (if (wrap64 (a0_0 + 1) : Int).toNat ≤ 11728124029610 then (sawmillref17_Best.l0 k t372 t375 (List.replicate (wrap64 (a0_0 + 1) : Int).toNat z100) a0_0 a0_0 a0_1 a0_2 l0_3 l0_4 l0_5 l0_6) else (none)) else (none))) = some (r1, r2, r3) := H
 have A4 := Aside0.mk A40
 clear A40
 replace H := Option.bind_eq_some_iff.mp H
 obtain ⟨t375, A50, H⟩ := H
 replace H : (if 0 ≤ (wrap64 (a0_0 + 1)) then (if (wrap64 (a0_0 + 1) : Int).toNat ≤ 11728124029610 then (sawmillref17_Best.l0 k t372 t375 (List.replicate (wrap64 (a0_0 + 1) : Int).toNat z100) a0_0 a0_0 a0_1 a0_2 l0_3 l0_4 l0_5 l0_6) else (none)) else (none)) = some (r1, r2, r3) := H
 have A5 := Aside0.mk A50
 clear A50
 obtain ⟨ji6, hji6⟩ : ∃ j_ : Int, (wrap64 (a0_0 + 1)) = j_ := ⟨_, rfl⟩
 replace H : (if 0 ≤ (ji6) then (if (ji6 : Int).toNat ≤ 11728124029610 then (sawmillref17_Best.l0 k t372 t375 (List.replicate (ji6 : Int).toNat z100) a0_0 a0_0 a0_1 a0_2 l0_3 l0_4 l0_5 l0_6) else (none)) else (none)) = some (r1, r2, r3) := by first | (rw [hji6] at H; exact H) | (simp only [hji6] at H ⊢; exact H)
 (try rw [hji6] at A2)
 (try rw [hji6] at A4)
 (try rw [hji6] at A5)
 have hji6w : (IntKind.i64.wrap (a0_0 + 1)) = ji6 := (i64_w _).trans hji6
 obtain ⟨c7, H⟩ := gd1 H
 have c7b0 := eq_true c7
 have c7b1 : decide (0 ≤ (ji6)) = true := decide_eq_true c7
 clear c7
 obtain ⟨c8, H⟩ := gd1 H
 have c8b0 := eq_true c8
 have c8b1 : decide ((ji6 : Int).toNat ≤ 11728124029610) = true := decide_eq_true c8
 clear c8
 obtain ⟨y378, hy378⟩ : ∃ y_ : List (S100), y_ = (List.replicate (ji6 : Int).toNat z100) := ⟨_, rfl⟩
 replace H : (sawmillref17_Best.l0 k t372 t375 y378 a0_0 a0_0 a0_1 a0_2 l0_3 l0_4 l0_5 l0_6) = some (r1, r2, r3) := by first | (rw [hy378]; with_reducible exact H) | (have H2_ := (Option.bind_some _ _).symm.trans H; rw [hy378]; with_reducible exact H2_) | (have H2_ := (Option.bind_some _ _).symm.trans H; with_reducible exact H2_) | with_reducible exact H | (rw [hy378]; exact H) | exact H
 have Ny378 := Aside0.mk hy378
 clear hy378
 have H' := Aside0.mk H
 clear H
 go_enter Tryd.func28, Tryd.ntmps28
 try go_wp2_with (first | ((with_reducible refine gate_dst (N := 1) rfl ?_); refine bx1 (N := 1) #[.int .i64 a0_0, .int .i64 a0_1, .int .i64 a0_2, .slice A0_3 l0_3.length c0_3, .slice A0_4 l0_4.length c0_4, .slice A0_5 l0_5.length c0_5, .slice A0_6 l0_6.length c0_6] 25 ?_; intro gb370 hg w9 hbox hb; have n0_ := Aside0.mk (below_step bl hb); have n1_ := Aside0.mk (hbox); have n2_ := Aside0.mk ((gs1 : w.heap.size ≤ gb370)); have n3_ := Aside0.mk ((gs1 : w.heap.size ≤ gb370)); clear HB; have HB := n0_; have BK370 := n1_; have GW370 := n2_; have GE370 := n3_; clear n0_ n1_ n2_ n3_; clear hb hbox hg; have hcz10 := blk_cells BK370.out; have hfz10 := blk_frozens BK370.out) | ((with_reducible refine gate_callee (f := 20) rfl ?_); refine goesL_ (some 15) rfl rfl Tryd.func20 (by kernel_rfl) rfl #[.agg #[.int .i64 a0_0, .int .i64 a0_1, .int .i64 a0_2, .slice A0_3 l0_3.length c0_3, .slice A0_4 l0_4.length c0_4, .slice A0_5 l0_5.length c0_5, .slice A0_6 l0_6.length c0_6]] rfl mp1 ?_; (with_reducible refine (sawmillref17_Check.calls k a0_0 a0_1 a0_2 _ _ l0_3 _ _ l0_4 _ _ l0_5 _ _ l0_6 t371 _ ?side1 ?side2 ?side3 ?side4 ?side5 ?side6 ?side7 ?side8 A2.out).mono ?_); (case side1 => exact cu1 (Kd.C_below HR0_3.out HB.out)); (case side2 => exact HC0_3.out); (case side3 => exact cu1 (Kd.C_below HR0_4.out HB.out)); (case side4 => exact HC0_4.out); (case side5 => exact cu1 (Kd.C_below HR0_5.out HB.out)); (case side6 => exact HC0_5.out); (case side7 => exact cu1 (Kd.C_below HR0_6.out HB.out)); (case side8 => exact HC0_6.out); rintro e w11 ⟨rfl, hb⟩; refine ⟨_, rfl, ?_⟩; have n0_ := Aside0.mk (blk_below (bu BK370.out) hb); have n1_ := Aside0.mk (below_step bl hb); clear BK370; clear HB; have BK370 := n0_; have HB := n1_; clear n0_ n1_; (try clear hb); (try clear hb2); (try clear hk); (try clear hi)))
 have n0_ := Aside0.mk (blk_drew BK370.out)
 have n1_ := Aside0.mk (below_drew1 HB.out)
 clear BK370; clear HB
 have BK370 := n0_
 have HB := n1_
 clear n0_ n1_
 refine start_ (n := 8) (S := fun w' => w'.cell? ⟨gb370, 0, none⟩ = some (.int .i64 a0_0) ∧ w'.cell? ⟨gb370, 1, none⟩ = some (.int .i64 a0_1) ∧ w'.cell? ⟨gb370, 2, none⟩ = some (.int .i64 a0_2) ∧ w'.cell? ⟨gb370, 3, none⟩ = some (.slice A0_3 l0_3.length c0_3) ∧ w'.cell? ⟨gb370, 4, none⟩ = some (.slice A0_4 l0_4.length c0_4) ∧ w'.cell? ⟨gb370, 5, none⟩ = some (.slice A0_5 l0_5.length c0_5) ∧ w'.cell? ⟨gb370, 6, none⟩ = some (.slice A0_6 l0_6.length c0_6)) (ds := []) #[false, false, false, false, false, false, false, false] (by kernel_rfl) rfl rfl ⟨(blk_cell BK370.out 0).trans rfl, (blk_cell BK370.out 1).trans rfl, (blk_cell BK370.out 2).trans rfl, (blk_cell BK370.out 3).trans rfl, (blk_cell BK370.out 4).trans rfl, (blk_cell BK370.out 5).trans rfl, (blk_cell BK370.out 6).trans rfl⟩ (fun hHeld => ?_); refine with_tabW sawmillref17_Best.tab4 sawmillref17_Best.bits4 (fun HT_ HW_ => ?_)
 generalize w11.drew = w12 at BK370 HB hHeld ⊢
 refine pu1 0 (some 19) #[true, false, false, false, false, false, false, false] ?_
 refine pu1 3 (some 22) #[true, false, false, true, false, false, false, false] ?_
 refine ta1 1 (some 20) #[true, true, false, true, false, false, false, false] ?_
 refine ta1 4 (some 23) #[true, true, false, true, true, false, false, false] ?_
 refine one_ (i := 2) (N := some 21) #[true, true, true, true, true, false, false, false] rfl rfl (one_of HT_.out (by kernel_rfl)) (by decide) (fun K hK => ?_)
 refine goes_ Tryd.func57 (by kernel_rfl) rfl #[.slice A0_5 l0_5.length c0_5] (by rfl) rfl rfl mp1 ?_
 with_reducible refine (sawmillref17_prefix.calls k _ _ l0_5 t372 _ ?side1 ?side2 A4.out).mono ?_
 (case side1 => exact cu1 (Kd.C_below HR0_5.out HB.out))
 (case side2 => exact HC0_5.out)
 rintro e w13 ⟨v373, rfl, ho0, hb⟩
 refine ⟨_, rfl, ?_⟩
 have n0_ := Aside0.mk (Kd.R_lower ho0 (below_size bl))
 have n1_ := Aside0.mk (blk_below (bu BK370.out) hb)
 have n2_ := Aside0.mk (below_step bl hb)
 clear BK370; clear HB
 have HO374 := n0_
 have BK370 := n1_
 have HB := n2_
 clear n0_ n1_ n2_
 (try clear hb)
 (try clear hb2)
 (try clear hk)
 (try clear hi)
 (try clear ho0)
 refine hK.out _ _ ⟨(blk_cell BK370.out 0).trans rfl, (blk_cell BK370.out 1).trans rfl, (blk_cell BK370.out 2).trans rfl, (blk_cell BK370.out 3).trans rfl, (blk_cell BK370.out 4).trans rfl, (blk_cell BK370.out 5).trans rfl, (blk_cell BK370.out 6).trans rfl⟩ (fun hHeld => ?_)
 clear hK K
 refine norm_ (a' := ?_) ?_ ?_
 rotate_left
 · show Act.put _ (some 21) _ = _
   simp only [Act.put, List.setIfInBounds_toArray, List.set_cons_zero, List.set_cons_succ, i64_w, i32_w]
   rfl
 refine one_ (i := 5) (N := some 24) #[true, true, true, true, true, true, false, false] rfl rfl (one_of HT_.out (by kernel_rfl)) (by decide) (fun K hK => ?_)
 refine goes_ Tryd.func57 (by kernel_rfl) rfl #[.slice A0_6 l0_6.length c0_6] (by rfl) rfl rfl mp1 ?_
 with_reducible refine (sawmillref17_prefix.calls k _ _ l0_6 t375 _ ?side1 ?side2 A5.out).mono ?_
 (case side1 => exact cu1 (Kd.C_below HR0_6.out HB.out))
 (case side2 => exact HC0_6.out)
 rintro e w14 ⟨v376, rfl, ho0, hb⟩
 refine ⟨_, rfl, ?_⟩
 have n0_ := Aside0.mk (Kd.R_elder' (ru HO374.out) (Kd.R_base ho0) hb)
 have n1_ := Aside0.mk (Kd.R_lower (Kd.R_new' ho0 (Kd.R_lt (ru HO374.out))) (below_size bl))
 have n2_ := Aside0.mk (blk_below (bu BK370.out) hb)
 have n3_ := Aside0.mk (below_step bl hb)
 clear HO374; clear BK370; clear HB
 have HO374 := n0_
 have HO377 := n1_
 have BK370 := n2_
 have HB := n3_
 clear n0_ n1_ n2_ n3_
 (try clear hb)
 (try clear hb2)
 (try clear hk)
 (try clear hi)
 (try clear ho0)
 refine hK.out _ _ ⟨(blk_cell BK370.out 0).trans rfl, (blk_cell BK370.out 1).trans rfl, (blk_cell BK370.out 2).trans rfl, (blk_cell BK370.out 3).trans rfl, (blk_cell BK370.out 4).trans rfl, (blk_cell BK370.out 5).trans rfl, (blk_cell BK370.out 6).trans rfl⟩ (fun hHeld => ?_)
 clear hK K
 refine norm_ (a' := ?_) ?_ ?_
 rotate_left
 · show Act.put _ (some 24) _ = _
   simp only [Act.put, List.setIfInBounds_toArray, List.set_cons_zero, List.set_cons_succ, i64_w, i32_w]
   rfl
 refine pu1 6 (some 6) #[true, true, true, true, true, true, true, false] ?_
 refine pu1 7 (some 7) #[true, true, true, true, true, true, true, true] ?_
 refine done_ (done_of HT_.out (by kernel_rfl)) ?_
 have hcz15 := blk_cells BK370.out
 have hfz15 := blk_frozens BK370.out
 try go_wp2_with (first | ((with_reducible refine gate_dst (N := 28) rfl ?_); refine Kd.R_make k100 _ 100 rfl (N := 28) rfl 98 _ _ rfl ji6 rfl rfl Tryd.underlying98 (.agg #[(.int .i64 0), (.int .i64 0), (.int .i64 0)]) 24 info100 rfl (by decide) (by omega) z100 (ok := fun _ => True) (okp := fun _ => True) (k100_mkM _ _ _ z100 ) (fun _ hk => hk) trivial (da1) (Nat.le_trans (Nat.mul_le_mul_right _ (da1 : ji6.toNat ≤ 11728124029610)) (by omega)) (Below.refl _ _) (Nat.le_refl _) ?_; intro v379 w16 ho17 hb hg_ hnew_; clear hg_ hnew_; (first | rw [← Ny378.out] at ho17 | (simp only [Int.reduceToNat] at ho17; rw [← Ny378.out] at ho17)); have n0_ := Aside0.mk (Kd.R_below (ru HO374.out) hb); have n1_ := Aside0.mk (Kd.R_below (ru HO377.out) hb); have n2_ := Aside0.mk (Kd.R_lower ho17 (below_size bl)); have n3_ := Aside0.mk (blk_below (bu BK370.out) hb); have n4_ := Aside0.mk (below_step bl hb); clear HO374; clear HO377; clear BK370; clear HB; have HO374 := n0_; have HO377 := n1_; have HO380 := n2_; have BK370 := n3_; have HB := n4_; clear n0_ n1_ n2_ n3_ n4_; clear hb ho17; have hcz18 := blk_cells BK370.out; have hfz18 := blk_frozens BK370.out))
 go_loopg [9] k (fun kq v9 w' => ∃ (x8_1 : List (S100)) (x9_1 : Int), v9 = .int .i64 x9_1 ∧ Aside0 (sawmillref17_Best.l0 kq t372 t375 x8_1 x9_1 a0_0 a0_1 a0_2 l0_3 l0_4 l0_5 l0_6 = some (r1, r2, r3)) ∧ Aside0 (kq ≤ k) ∧ Aside0 (Kd.R (Kd.int .i64) 3 w' w.heap.size (fun k_ => some k_ ≠ (v376 : Value).ownBlock) v373 t372) ∧ Aside0 (Kd.R (Kd.int .i64) 3 w' w.heap.size (fun k_ => some k_ ≠ (v373 : Value).ownBlock) v376 t375) ∧ Aside0 (Kd.R k100 100 w' w.heap.size (fun _ => True) v379 x8_1) ∧ Aside0 (w'.heap[gb370]? = some (.cells #[.int .i64 a0_0, .int .i64 a0_1, .int .i64 a0_2, (.slice A0_3 l0_3.length c0_3), (.slice A0_4 l0_4.length c0_4), (.slice A0_5 l0_5.length c0_5), (.slice A0_6 l0_6.length c0_6)] 25 (0, 0))) ∧ Aside0 (Below w.heap.size w w'))
 case atStart => exact ⟨(y378), (a0_0), rs1, H', ⟨Nat.le_refl _⟩, ⟨by (with_reducible repeat (first | apply Kd.R_alloc | apply Kd.R_drewN | apply Kd.R_drew)); exact Kd.R_mono HO374.out (fun _ hk => hk.2)⟩, ⟨by (with_reducible repeat (first | apply Kd.R_alloc | apply Kd.R_drewN | apply Kd.R_drew)); exact Kd.R_mono HO377.out (fun _ hk => hk.2)⟩, ⟨by (with_reducible repeat (first | apply Kd.R_alloc | apply Kd.R_drewN | apply Kd.R_drew)); exact HO380.out⟩, ⟨bu BK370.out⟩, ⟨bl⟩⟩
 clear H'; (try clear c2); (try clear p2); (try clear c3); (try clear c3b0); (try clear c3b1); (try clear c5); (try clear p6); (try clear c7); (try clear c7b0); (try clear c7b1); (try clear c8); (try clear c8b0); (try clear c8b1); (try clear hcz10); (try clear hcz15); (try clear hcz18); (try clear hfz10); (try clear hfz15); (try clear hfz18)
 obtain ⟨x8_1, x9_1, rfl, HA, HK1, HO_6, HO_7, HO_8, BK370, HB⟩ := hrel
 rcases gk with _ | k1
 · exact absurd HA.out (by simp [sawmillref17_Best.l0])
 have H := HA.out
 clear HA
 simp only [sawmillref17_Best.l0] at H
 by_cases c19 : x9_1 ≥ 0
 · rw [if_pos c19] at H
   have c19b0 : decide (0 ≤ x9_1) = true := decide_eq_true c19
   clear c19
   replace H := Option.bind_eq_some_iff.mp H
   obtain ⟨⟨t381, t382, t383⟩, A200, H⟩ := H
   replace H : (if 0 ≤ x9_1 then (if x9_1 < (x8_1.length : Int) then (sawmillref17_Best.l0 k1 t372 t375 (x8_1.set (x9_1 : Int).toNat (⟨t381, (⟨t382, t383⟩ : S69)⟩ : S100)) (wrap64 (x9_1 - 1)) a0_0 a0_1 a0_2 l0_3 l0_4 l0_5 l0_6) else (none)) else (none)) = some (r1, r2, r3) := H
   have A20 := Aside0.mk A200
   clear A200
   obtain ⟨c21, H⟩ := gd1 H
   have c21b0 : decide (0 ≤ x9_1) = true := decide_eq_true c21
   clear c21
   obtain ⟨c22, H⟩ := gd1 H
   have c22b0 : decide (x9_1 < (x8_1.length : Int)) = true := decide_eq_true c22
   clear c22
   obtain ⟨y384, hy384⟩ : ∃ y_ : List (S100), y_ = (x8_1.set (x9_1 : Int).toNat (⟨t381, (⟨t382, t383⟩ : S69)⟩ : S100)) := ⟨_, rfl⟩
   replace H : (sawmillref17_Best.l0 k1 t372 t375 y384 (wrap64 (x9_1 - 1)) a0_0 a0_1 a0_2 l0_3 l0_4 l0_5 l0_6) = some (r1, r2, r3) := by first | (rw [hy384]; with_reducible exact H) | (have H2_ := (Option.bind_some _ _).symm.trans H; rw [hy384]; with_reducible exact H2_) | (have H2_ := (Option.bind_some _ _).symm.trans H; with_reducible exact H2_) | with_reducible exact H | (rw [hy384]; exact H) | exact H
   have Ny384 := Aside0.mk hy384
   clear hy384
   have H' := Aside0.mk H
   clear H
   have hcz24 := blk_cells BK370.out
   have hfz24 := blk_frozens BK370.out
   obtain ⟨Ao25, co25, eo25⟩ := Kd.R_slice HO_6.out
   subst eo25
   obtain ⟨Ao26, co26, eo26⟩ := Kd.R_slice HO_7.out
   subst eo26
   obtain ⟨Ao27, co27, eo27⟩ := Kd.R_slice HO_8.out
   subst eo27
   go_wp2_with (first | ((with_reducible refine gate_callee (f := 58) rfl ?_); refine goesL_ (some 42) rfl rfl Tryd.func58 (by kernel_rfl) rfl #[.agg #[.int .i64 a0_0, .int .i64 a0_1, .int .i64 a0_2, .slice A0_3 l0_3.length c0_3, .slice A0_4 l0_4.length c0_4, .slice A0_5 l0_5.length c0_5, .slice A0_6 l0_6.length c0_6], .int .i64 x9_1, .slice Ao25 t372.length co25, .slice Ao26 t375.length co26, .slice Ao27 x8_1.length co27] rfl mp1 ?_; (with_reducible refine (sawmillref17_from.calls k1 a0_0 a0_1 a0_2 _ _ l0_3 _ _ l0_4 _ _ l0_5 _ _ l0_6 x9_1 _ _ t372 _ _ t375 _ _ x8_1 t381 t382 t383 _ ?side1 ?side2 ?side3 ?side4 ?side5 ?side6 ?side7 ?side8 ?side9 ?side10 ?side11 ?side12 ?side13 ?side14 A20.out).mono ?_); (case side1 => exact cu1 (Kd.C_below HR0_3.out HB.out)); (case side2 => exact HC0_3.out); (case side3 => exact cu1 (Kd.C_below HR0_4.out HB.out)); (case side4 => exact HC0_4.out); (case side5 => exact cu1 (Kd.C_below HR0_5.out HB.out)); (case side6 => exact HC0_5.out); (case side7 => exact cu1 (Kd.C_below HR0_6.out HB.out)); (case side8 => exact HC0_6.out); (case side9 => repeat (first | exact (Kd.R_reads' HO_6.out).2.2 | (with_reducible refine Kd.C_alloc ?_ _) | (with_reducible refine Kd.C_drewN ?_ _) | (with_reducible refine Kd.C_drew ?_))); (case side10 => exact (Kd.R_reads' HO_6.out).2.1); (case side11 => repeat (first | exact (Kd.R_reads' HO_7.out).2.2 | (with_reducible refine Kd.C_alloc ?_ _) | (with_reducible refine Kd.C_drewN ?_ _) | (with_reducible refine Kd.C_drew ?_))); (case side12 => exact (Kd.R_reads' HO_7.out).2.1); (case side13 => repeat (first | exact (Kd.R_reads' HO_8.out).2.2 | (with_reducible refine Kd.C_alloc ?_ _) | (with_reducible refine Kd.C_drewN ?_ _) | (with_reducible refine Kd.C_drew ?_))); (case side14 => exact (Kd.R_reads' HO_8.out).2.1); rintro e w28 ⟨rfl, hb⟩; refine ⟨_, rfl, ?_⟩; have n0_ := Aside0.mk (Kd.R_below (ru HO_6.out) hb); have n1_ := Aside0.mk (Kd.R_below (ru HO_7.out) hb); have n2_ := Aside0.mk (Kd.R_below (ru HO_8.out) hb); have n3_ := Aside0.mk (blk_below (bu BK370.out) hb); have n4_ := Aside0.mk (below_step bl hb); clear HO_6; clear HO_7; clear HO_8; clear BK370; clear HB; have HO_6 := n0_; have HO_7 := n1_; have HO_8 := n2_; have BK370 := n3_; have HB := n4_; clear n0_ n1_ n2_ n3_ n4_; (try clear hb); (try clear hb2); (try clear hk); (try clear hi); have p23 : 0 ≤ (x9_1 : Int) := da1; have q23 : (x9_1 : Int) < ((x8_1.length : Int) : Int) := da1; obtain ⟨go23, co23, eo23, gb23, gl23, cl23, HG23⟩ := Kd.R_form HO_8.out (by omega); (first | cases eo23 | (injection eo23 with ea_ en_ ec_; (first | subst ea_ | (injection ea_ with ea_; subst ea_)); subst ec_; clear en_)); have GB23 := Aside0.mk gb23; have GG23 := Aside0.mk HG23; clear gb23 gl23 HG23; obtain ⟨ce23, hcl23, hM23, hcc23, hfr23⟩ := Kd.R_elem HO_8.out z100 (x9_1 : Int) p23 q23; obtain rfl := k100_openM hM23; have hx23_0 : w28.cell? ⟨go23, (x9_1 : Int).toNat * 3, none⟩ = some (.int .i64 ((rd_T100 x8_1 x9_1).f0)) := hcc23 0 _ rfl; have hx23_1 : w28.cell? ⟨go23, (x9_1 : Int).toNat * 3 + 1, none⟩ = some (.int .i64 ((rd_T100 x8_1 x9_1).f1.f0)) := hcc23 1 _ rfl; have hx23_2 : w28.cell? ⟨go23, (x9_1 : Int).toNat * 3 + 2, none⟩ = some (.int .i64 ((rd_T100 x8_1 x9_1).f1.f1)) := hcc23 2 _ rfl; have hf23_0 : w28.frozen? ⟨go23, (x9_1 : Int).toNat * 3, none⟩ = false := hfr23 0; have hf23_1 : w28.frozen? ⟨go23, (x9_1 : Int).toNat * 3 + 1, none⟩ = false := hfr23 1; have hf23_2 : w28.frozen? ⟨go23, (x9_1 : Int).toNat * 3 + 2, none⟩ = false := hfr23 2; clear hcl23 hcc23 hfr23 hM23; replace p23 := eq_true p23; replace q23 := eq_true q23; have HX29 := Aside0.mk (show Kd.R k100 100 w28 w.heap.size (fun _ => True) (.slice (some ⟨go23, 0, none⟩) x8_1.length co27) x8_1 from (ru HO_8.out)); obtain ⟨ce29, hcl29, hM29, hcc29, hfr29⟩ := Kd.R_elem HX29.out z100 (x9_1 : Int) (da1) (by have h_ : (x9_1 : Int) < ((x8_1.length : Int) : Int) := da1; first | exact h_ | (have e_ := (Kd.R_reads' HO_8.out).1; omega) | simpa using h_); obtain rfl := k100_openM hM29; have HP29 := Kd.R_seg HX29.out (x9_1 : Int) (da1) (by have h_ : (x9_1 : Int) < ((x8_1.length : Int) : Int) := da1; first | exact h_ | (have e_ := (Kd.R_reads' HO_8.out).1; omega) | simpa using h_) (seg := [.int .i64 t381, .int .i64 t382, .int .i64 t383]) (j := 0) hcl29 hcc29 (show 3 ≤ 3 from by decide) (x' := (⟨t381, (⟨t382, t383⟩ : S69)⟩ : S100)) (k100_mkM _ _ _ (⟨t381, (⟨t382, t383⟩ : S69)⟩ : S100) ) (fun _ hk => hk); have hx29_0 := hcc29 0 _ rfl; (try simp only [show (k100).sz = 3 from rfl, Nat.mul_one, Nat.add_zero] at hx29_0); have hf29_0 := hfr29 0; (try simp only [show (k100).sz = 3 from rfl, Nat.mul_one, Nat.add_zero] at hf29_0); have hx29_1 := hcc29 1 _ rfl; (try simp only [show (k100).sz = 3 from rfl, Nat.mul_one, Nat.add_zero] at hx29_1); have hf29_1 := hfr29 1; (try simp only [show (k100).sz = 3 from rfl, Nat.mul_one, Nat.add_zero] at hf29_1); have hx29_2 := hcc29 2 _ rfl; (try simp only [show (k100).sz = 3 from rfl, Nat.mul_one, Nat.add_zero] at hx29_2); have hf29_2 := hfr29 2; (try simp only [show (k100).sz = 3 from rfl, Nat.mul_one, Nat.add_zero] at hf29_2); clear hcl29 hcc29 hfr29 hM29) | ((with_reducible refine gate_store (t := 100) (p := 43) rfl ?_); refine store_event (t := 100) (p := 43) (v := ?vo_w30) (w1 := (((w28.setCell ⟨go23, (x9_1 : Int).toNat * 3, none⟩ (.int .i64 t381)).setCell ⟨go23, (x9_1 : Int).toNat * 3 + 1, none⟩ (.int .i64 t382)).setCell ⟨go23, (x9_1 : Int).toNat * 3 + 2, none⟩ (.int .i64 t383))) ?hg ?ho ?hn ?hr ?_; (case ho => rfl); (case hg => rfl); (case hn => rfl); (case hr => first | (go_simp; done) | (go_simp; rfl)); intro w30 hw; have hg : w28.grownBy w30 (some go23) := (by rw [hw]; exact HP29.2); have hp_ : Kd.R k100 100 w30 w.heap.size (fun _ => True) (.slice (some ⟨go23, 0, none⟩) x8_1.length co27) y384 := (by rw [hw, Ny384.out]; exact HP29.1); clear HP29; have n0_ := Aside0.mk (Kd.R_over' (v := (.slice (some ⟨go23, 0, none⟩) x8_1.length co27)) (ru HO_6.out) (Kd.R_typed HO_8.out) (by decide) hg); have n1_ := Aside0.mk (Kd.R_over' (v := (.slice (some ⟨go23, 0, none⟩) x8_1.length co27)) (ru HO_7.out) (Kd.R_typed HO_8.out) (by decide) hg); have n2_ := Aside0.mk (hp_); have n3_ := Aside0.mk (blk_grown (g := gb370) (o := .cells #[.int .i64 a0_0, .int .i64 a0_1, .int .i64 a0_2, .slice A0_3 l0_3.length c0_3, .slice A0_4 l0_4.length c0_4, .slice A0_5 l0_5.length c0_5, .slice A0_6 l0_6.length c0_6] 25 (0, 0)) (bu BK370.out) hg (Kd.R_ne HO_8.out BK370.out (by decide))); have n4_ := Aside0.mk ((by rw [hw]; exact below_set (below_set (below_set (HB.out) GB23.out) GB23.out) GB23.out : Below w.heap.size w w30)); clear HO_6; clear HO_7; clear HO_8; clear BK370; clear HB; have HO_6 := n0_; have HO_7 := n1_; have HO_8 := n2_; have BK370 := n3_; have HB := n4_; clear n0_ n1_ n2_ n3_ n4_; clear hg hw hp_))
   go_roundg k1
   case measure => have := HK1.out; omega
   case rel => exact ⟨(y384), (wrap64 (x9_1 - 1)), rs1, H', ⟨by have := HK1.out; omega⟩, ⟨by (with_reducible repeat (first | apply Kd.R_alloc | apply Kd.R_drewN | apply Kd.R_drew)); exact HO_6.out⟩, ⟨by (with_reducible repeat (first | apply Kd.R_alloc | apply Kd.R_drewN | apply Kd.R_drew)); exact HO_7.out⟩, ⟨by (with_reducible repeat (first | apply Kd.R_alloc | apply Kd.R_drewN | apply Kd.R_drew)); exact HO_8.out⟩, ⟨bu BK370.out⟩, ⟨bl⟩⟩
 rw [if_neg c19] at H
 have c19b0 : decide (0 ≤ x9_1) = false := decide_eq_false c19
 clear c19
 have H' := Aside0.mk H
 clear H
 go_wp2
 go_loopg [10, 11] k1 (fun kq v10 v11 w' => ∃ (x10_2 : List (S69)) (x11_2 : Int), v11 = .int .i64 x11_2 ∧ Aside0 (sawmillref17_Best.l1 kq x8_1 x10_2 x11_2 a0_0 a0_1 a0_2 l0_3 l0_4 l0_5 l0_6 = some (r1, r2, r3)) ∧ Aside0 (kq ≤ k1) ∧ Aside0 (Kd.R k100 100 w' w.heap.size (fun _ => True) v379 x8_1) ∧ Aside0 (Kd.R k69 69 w' w.heap.size (fun _ => True) v10 x10_2) ∧ Aside0 (w'.heap[gb370]? = some (.cells #[.int .i64 a0_0, .int .i64 a0_1, .int .i64 a0_2, (.slice A0_3 l0_3.length c0_3), (.slice A0_4 l0_4.length c0_4), (.slice A0_5 l0_5.length c0_5), (.slice A0_6 l0_6.length c0_6)] 25 (0, 0))) ∧ Aside0 (Below w.heap.size w w'))
 case atStart => exact ⟨(([] : List (S69))), (0), rs1, H', ⟨Nat.le_refl _⟩, ⟨by (with_reducible repeat (first | apply Kd.R_alloc | apply Kd.R_drewN | apply Kd.R_drew)); exact HO_8.out⟩, ⟨by first | exact Kd.R_nil _ _ _ _ _ | exact Kd.N_nil _ _ _ _ _ | exact Kd.V_nil _ _ _ _ _ | exact Kd.Q_nil _ _ _ _ _ | exact Kd.S_nil _ _ _ _ _⟩, ⟨bu BK370.out⟩, ⟨bl⟩⟩
 clear H'; (try clear c1); (try clear c2); (try clear p2); (try clear q2); (try clear hx2); (try clear hf2); (try clear c3); (try clear c3b0); (try clear c3b1); (try clear c5); (try clear p6); (try clear c7); (try clear c7b0); (try clear c7b1); (try clear c8); (try clear c8b0); (try clear c8b1); (try clear c19); (try clear c19b0); (try clear c20); (try clear c21); (try clear c21b0); (try clear c22); (try clear c22b0); (try clear c23); (try clear p23); (try clear q23); (try clear hx23); (try clear hf23); (try clear c28); (try clear c29); (try clear hx29); (try clear hf29); (try clear hcz10); (try clear hcz15); (try clear hcz18); (try clear hcz24); (try clear hfz10); (try clear hfz15); (try clear hfz18); (try clear hfz24); (try clear hx23_0); (try clear hx23_1); (try clear hx23_2); (try clear hx29_0); (try clear hx29_1); (try clear hx29_2); (try clear p2); (try clear p23); (try clear p6); (try clear q23)
 obtain ⟨x10_2, x11_2, rfl, HA, HK2, HO_8, HO_10, BK370, HB⟩ := hrel
 rcases gk with _ | k2
 · exact absurd HA.out (by simp [sawmillref17_Best.l1])
 have H := HA.out
 clear HA
 simp only [sawmillref17_Best.l1] at H
 obtain ⟨c31, H⟩ := gd1 H
 have c31b0 : decide (0 ≤ x11_2) = true := decide_eq_true c31
 clear c31
 obtain ⟨c32, H⟩ := gd1 H
 have c32b0 : decide (x11_2 < (x8_1.length : Int)) = true := decide_eq_true c32
 clear c32
 by_cases c33 : ((rd_T100 x8_1 x11_2).f1.f0) ≥ 0
 rotate_left
 · rw [if_neg c33] at H
   have c33b0 : decide (0 ≤ ((rd_T100 x8_1 x11_2).f1.f0)) = false := decide_eq_false c33
   clear c33
   obtain ⟨c55, H⟩ := gd1 H
   have c55b0 : decide (0 < (x8_1.length : Int)) = true := decide_eq_true c55
   have c55b1 : decide (0 < x8_1.length) = true := decide_eq_true (by omega)
   clear c55
   simp only [Option.some.injEq, Prod.mk.injEq] at H
   obtain ⟨rfl, rfl, rfl⟩ := H
   obtain ⟨Ao56, co56, eo56⟩ := Kd.R_slice HO_8.out
   subst eo56
   have p385 : 0 ≤ (x11_2 : Int) := da1
   have q385 : x11_2 < (x8_1.length : Int) := da1
   obtain ⟨ad385, e385, hx385_0, hx385_1, hx385_2⟩ := at_T100 (Kd.R_reads' HO_8.out).2.2 x11_2 p385 q385
   cases e385
   replace p385 := eq_true p385
   replace q385 := eq_true q385
   try go_wp2
   have n0_ := Aside0.mk (Kd.R_drew HO_8.out)
   have n1_ := Aside0.mk (Kd.R_drew HO_10.out)
   have n2_ := Aside0.mk (blk_drew BK370.out)
   have n3_ := Aside0.mk (below_drew1 HB.out)
   clear HO_8; clear HO_10; clear BK370; clear HB
   have HO_8 := n0_
   have HO_10 := n1_
   have BK370 := n2_
   have HB := n3_
   clear n0_ n1_ n2_ n3_
   have p393 : 0 ≤ (0 : Int) := (by omega)
   have q393 : 0 < (x8_1.length : Int) := da1
   obtain ⟨ad393, e393, hx393_0, hx393_1, hx393_2⟩ := at_T100 (Kd.R_reads' HO_8.out).2.2 0 p393 q393
   obtain rfl : ad385 = ad393 := (by injection e393)
   have qi393 : (0 < x8_1.length) = True := eq_true (by omega)
   (try rw [show ((0 : Int)).toNat = 0 from rfl] at hx393_0)
   (try rw [show 0 * 3 = 0 from rfl] at hx393_0)
   (try rw [Addr.add_zero'] at hx393_0)
   (try rw [show ((0 : Int)).toNat = 0 from rfl] at hx393_1)
   (try rw [show 0 * 3 = 0 from rfl] at hx393_1)
   (try rw [Addr.add_zero'] at hx393_1)
   (try rw [show ((0 : Int)).toNat = 0 from rfl] at hx393_2)
   (try rw [show 0 * 3 = 0 from rfl] at hx393_2)
   (try rw [Addr.add_zero'] at hx393_2)
   replace p393 := eq_true p393
   replace q393 := eq_true q393
   refine start_ (n := 8) (S := fun w' => w'.cell? ad385 = some (.int .i64 ((rd_T100 x8_1 0).f0)) ∧ w'.cell? ⟨ad385.block, ad385.off + 1, none⟩ = some (.int .i64 ((rd_T100 x8_1 0).f1.f0)) ∧ w'.cell? ⟨ad385.block, ad385.off + 2, none⟩ = some (.int .i64 ((rd_T100 x8_1 0).f1.f1))) (ds := []) #[false, false, false, false, false, false, false, false] (by kernel_rfl) rfl rfl ⟨hx393_0, hx393_1, hx393_2⟩ (fun hHeld => ?_); refine with_tabW sawmillref17_Best.tab18 sawmillref17_Best.bits18 (fun HT_ HW_ => ?_)
   generalize wr.drew = w57 at HO_8 HO_10 BK370 HB hx393_0 hx393_1 hx393_2 hHeld ⊢
   refine pu1 0 (some 80) #[true, false, false, false, false, false, false, false] ?_
   refine pu1 1 (some 81) #[true, true, false, false, false, false, false, false] ?_
   refine pu1 2 (some 82) #[true, true, true, false, false, false, false, false] ?_
   refine pu1 3 (some 83) #[true, true, true, true, false, false, false, false] ?_
   refine pu1 5 (some 2) #[true, true, true, true, false, true, false, false] ?_
   refine ta1 4 (some 84) #[true, true, true, true, true, true, false, false] ?_
   refine pu1 6 (some 3) #[true, true, true, true, true, true, true, false] ?_
   refine pu1 7 (some 4) #[true, true, true, true, true, true, true, true] ?_
   refine done_ (done_of HT_.out (by kernel_rfl)) ?_
   try go_wp2
   go_ret3
   exact ⟨_, by first | rfl | (simp [errW_none, errW_some] <;> rfl) | (simp only [← hji6]; first | rfl | (simp [errW_none, errW_some] <;> rfl)) | (simp [*, errW_none, errW_some] <;> rfl), by (with_reducible repeat (first | apply Kd.R_alloc | apply Kd.R_drewN | apply Kd.R_drew)); exact HO_10.out, bl⟩
 rw [if_pos c33] at H
 have c33b0 : decide (0 ≤ ((rd_T100 x8_1 x11_2).f1.f0)) = true := decide_eq_true c33
 clear c33
 obtain ⟨c34, H⟩ := gd1 H
 have LMc34 := Aside0.mk c34
 clear c34
 obtain ⟨y388, hy388⟩ : ∃ y_ : List (S69), y_ = (x10_2 ++ [(⟨(rd_T100 x8_1 x11_2).f1.f0, (rd_T100 x8_1 x11_2).f1.f1⟩ : S69)]) := ⟨_, rfl⟩
 replace H : (if 0 ≤ ((rd_T100 x8_1 x11_2).f1.f0) then (if ((rd_T100 x8_1 x11_2).f1.f0) < (l0_3.length : Int) then (if (wrap64 (((rd_T100 x8_1 x11_2).f1.f1) + (rd l0_3 ((rd_T100 x8_1 x11_2).f1.f0)))) = a0_0 then (if 0 < (x8_1.length : Int) then (some (y388, (rd_T100 x8_1 0).f0, 0)) else (none)) else (sawmillref17_Best.l1 k2 x8_1 y388 (mn (wrap64 ((wrap64 (((rd_T100 x8_1 x11_2).f1.f1) + (rd l0_3 ((rd_T100 x8_1 x11_2).f1.f0)))) + a0_1)) a0_0) a0_0 a0_1 a0_2 l0_3 l0_4 l0_5 l0_6)) else (none)) else (none)) = some (r1, r2, r3) := by first | (rw [hy388]; with_reducible exact H) | (have H2_ := (Option.bind_some _ _).symm.trans H; rw [hy388]; with_reducible exact H2_) | (have H2_ := (Option.bind_some _ _).symm.trans H; with_reducible exact H2_) | with_reducible exact H | (rw [hy388]; exact H) | exact H
 have Ny388 := Aside0.mk hy388
 clear hy388
 obtain ⟨c35, H⟩ := gd1 H
 have c35b0 : decide (0 ≤ ((rd_T100 x8_1 x11_2).f1.f0)) = true := decide_eq_true c35
 clear c35
 obtain ⟨c36, H⟩ := gd1 H
 have c36b0 : decide (((rd_T100 x8_1 x11_2).f1.f0) < (l0_3.length : Int)) = true := decide_eq_true c36
 clear c36
 by_cases c37 : (wrap64 (((rd_T100 x8_1 x11_2).f1.f1) + (rd l0_3 ((rd_T100 x8_1 x11_2).f1.f0)))) = a0_0
 rotate_left
 · rw [if_neg c37] at H
   have c37b0 : ((wrap64 (((rd_T100 x8_1 x11_2).f1.f1) + (rd l0_3 ((rd_T100 x8_1 x11_2).f1.f0)))) == a0_0) = false := beq_eq_false_iff_ne.mpr c37
   have c37b1 : ((wrap64 (((rd_T100 x8_1 x11_2).f1.f1) + (rd l0_3 ((rd_T100 x8_1 x11_2).f1.f0)))) != a0_0) = true := bne_iff_ne.mpr c37
   obtain ⟨ji47, hji47⟩ : ∃ j_ : Int, (mn (wrap64 ((wrap64 (((rd_T100 x8_1 x11_2).f1.f1) + (rd l0_3 ((rd_T100 x8_1 x11_2).f1.f0)))) + a0_1)) a0_0) = j_ := ⟨_, rfl⟩
   replace H : (sawmillref17_Best.l1 k2 x8_1 y388 ji47 a0_0 a0_1 a0_2 l0_3 l0_4 l0_5 l0_6) = some (r1, r2, r3) := by first | (rw [hji47] at H; exact H) | (simp only [hji47] at H ⊢; exact H)
   have hji47_ : (if a0_0 < (wrap64 ((wrap64 (((rd_T100 x8_1 x11_2).f1.f1) + (rd l0_3 ((rd_T100 x8_1 x11_2).f1.f0)))) + a0_1)) then a0_0 else (wrap64 ((wrap64 (((rd_T100 x8_1 x11_2).f1.f1) + (rd l0_3 ((rd_T100 x8_1 x11_2).f1.f0)))) + a0_1))) = ji47 := hji47
   have H' := Aside0.mk H
   clear H
   obtain ⟨Ao48, co48, eo48⟩ := Kd.R_slice HO_8.out
   subst eo48
   have p385 : 0 ≤ (x11_2 : Int) := da1
   have q385 : x11_2 < (x8_1.length : Int) := da1
   obtain ⟨ad385, e385, hx385_0, hx385_1, hx385_2⟩ := at_T100 (Kd.R_reads' HO_8.out).2.2 x11_2 p385 q385
   cases e385
   replace p385 := eq_true p385
   replace q385 := eq_true q385
   have p386 : 0 ≤ (x11_2 : Int) := da1
   have q386 : x11_2 < (x8_1.length : Int) := da1
   obtain ⟨ad386, e386, hx386_0, hx386_1, hx386_2⟩ := at_T100 (Kd.R_reads' HO_8.out).2.2 x11_2 p386 q386
   obtain rfl : ad385 = ad386 := (by injection e386)
   replace p386 := eq_true p386
   replace q386 := eq_true q386
   try go_wp2_with (first | ((with_reducible refine gate_dst (N := 12) rfl ?_); refine bx1 (N := 12) #[.int .i64 0, .int .i64 0] 69 ?_; intro gb387 hg w49 hbox hb; have n0_ := Aside0.mk (Kd.R_below (ru HO_8.out) hb); have n1_ := Aside0.mk (Kd.R_below (Kd.R_elderB (ru HO_10.out) gb387 (Nat.le_of_eq hg.symm)) hb); have n2_ := Aside0.mk (blk_below (bu BK370.out) hb); have n3_ := Aside0.mk (below_step bl hb); have n4_ := Aside0.mk (hbox); have n5_ := Aside0.mk ((gs1 : w.heap.size ≤ gb387)); have n6_ := Aside0.mk ((gs1 : w.heap.size ≤ gb387)); have n7_ := Aside0.mk ((nl1 BK370 : gb370 ≠ gb387)); have n8_ := Aside0.mk ((ng1 BK370 : gb387 ≠ gb370)); clear HO_8; clear HO_10; clear BK370; clear HB; have HO_8 := n0_; have HO_10 := n1_; have BK370 := n2_; have HB := n3_; have BK387 := n4_; have GW387 := n5_; have GE387 := n6_; have NB370_387 := n7_; have NB387_370 := n8_; clear n0_ n1_ n2_ n3_ n4_ n5_ n6_ n7_ n8_; clear hb hbox hg; have hnb50 := NB387_370.out; have hnc50 := NB370_387.out; have hcz51 := blk_cells BK387.out; have hfz51 := blk_frozens BK387.out) | ((with_reducible refine gate_builtin (b := .append) (xs := #[.tmp 56, .tmp 58]) rfl ?_); at_builtin; refine Kd.R_append k69 (w0 := w) w.heap.size rfl (.tmp 56) (.tmp 58) 30 69 (.agg #[(.int .i64 0), (.int .i64 0)]) 16 rfl Tryd.underlying30 info69 rfl (by decide) (by omega) u10 x10_2 (⟨(rd_T100 x8_1 x11_2).f1.f0, (rd_T100 x8_1 x11_2).f1.f1⟩ : S69) [.int .i64 ((rd_T100 x8_1 x11_2).f1.f0), .int .i64 ((rd_T100 x8_1 x11_2).f1.f1)] (fun k_ => k_ ≠ gb387) (fun _ => False) rfl (by first | (go_simp; done) | (go_simp; rfl)) ?aP (fun _ hk => hk.elim) ?aF ?aO ?aB ?aS ?aL ?_; (case aP => exact k69_mkM _ _ _ (⟨(rd_T100 x8_1 x11_2).f1.f0, (rd_T100 x8_1 x11_2).f1.f1⟩ : S69)); (case aB => exact bl); (case aF => exact (fun k_ hk => Kd.freshB (g := gb387) (o := .cells #[.int .i64 ((rd_T100 x8_1 x11_2).f1.f0), .int .i64 ((rd_T100 x8_1 x11_2).f1.f1)] 69 (0, 0)) (by (with_reducible repeat (first | refine blk_drewN ?_ _ | refine blk_drew ?_ | refine blk_alloc ?_ _)); refine blk_put (cs := #[.int .i64 ((rd_T100 x8_1 x11_2).f1.f0), .int .i64 0]) ?_ 1 _ rfl; (with_reducible repeat (first | refine blk_drewN ?_ _ | refine blk_drew ?_ | refine blk_alloc ?_ _)); refine blk_put (cs := #[.int .i64 0, .int .i64 0]) ?_ 0 _ rfl; (with_reducible repeat (first | refine blk_drewN ?_ _ | refine blk_drew ?_ | refine blk_alloc ?_ _)); exact BK387.out) k_ hk)); (case aO => exact (ru (Kd.R_mono (Kd.R_far (p := ⟨gb387, 1, none⟩) (Kd.R_far (p := ⟨gb387, 0, none⟩) (Kd.R_mono HO_10.out (fun k_ hk => (⟨hk, hk.2⟩ : _ ∧ k_ ≠ gb387))) (fun _ hk => hk.2) (.int .i64 ((rd_T100 x8_1 x11_2).f1.f0))) (fun _ hk => hk.2) (.int .i64 ((rd_T100 x8_1 x11_2).f1.f1))) (fun _ hk => hk.1.2)))); (case aS => exact (below_size bl)); (case aL => have := LMc34.out; omega); intro v389 w52 ho hb hg hat; rw [← Ny388.out] at ho; have n0_ := Aside0.mk (Kd.R_over' (ru (Kd.R_mono (Kd.R_far (p := ⟨gb387, 1, none⟩) (Kd.R_far (p := ⟨gb387, 0, none⟩) (Kd.R_types HO_8.out BK387.out (by decide)) (fun _ hk => hk.2) (.int .i64 ((rd_T100 x8_1 x11_2).f1.f0))) (fun _ hk => hk.2) (.int .i64 ((rd_T100 x8_1 x11_2).f1.f1))) (fun _ h_ => h_.1))) (Kd.R_typed (ru (Kd.R_mono (Kd.R_far (p := ⟨gb387, 1, none⟩) (Kd.R_far (p := ⟨gb387, 0, none⟩) (Kd.R_mono HO_10.out (fun k_ hk => (⟨hk, hk.2⟩ : _ ∧ k_ ≠ gb387))) (fun _ hk => hk.2) (.int .i64 ((rd_T100 x8_1 x11_2).f1.f0))) (fun _ hk => hk.2) (.int .i64 ((rd_T100 x8_1 x11_2).f1.f1))) (fun _ h_ => h_.1)))) (by decide) hg); have n1_ := Aside0.mk (blk_grown (g := gb370) (o := .cells #[.int .i64 a0_0, .int .i64 a0_1, .int .i64 a0_2, .slice A0_3 l0_3.length c0_3, .slice A0_4 l0_4.length c0_4, .slice A0_5 l0_5.length c0_5, .slice A0_6 l0_6.length c0_6] 25 (0, 0)) (by (with_reducible repeat (first | refine blk_drewN ?_ _ | refine blk_drew ?_ | refine blk_alloc ?_ _)); refine blk_far ?_ NB370_387.out _; (with_reducible repeat (first | refine blk_drewN ?_ _ | refine blk_drew ?_ | refine blk_alloc ?_ _)); refine blk_far ?_ NB370_387.out _; (with_reducible repeat (first | refine blk_drewN ?_ _ | refine blk_drew ?_ | refine blk_alloc ?_ _)); exact BK370.out) hg (Kd.R_ne HO_10.out BK370.out (by decide))); have n2_ := Aside0.mk (blk_grown (g := gb387) (o := .cells #[.int .i64 ((rd_T100 x8_1 x11_2).f1.f0), .int .i64 ((rd_T100 x8_1 x11_2).f1.f1)] 69 (0, 0)) (by (with_reducible repeat (first | refine blk_drewN ?_ _ | refine blk_drew ?_ | refine blk_alloc ?_ _)); refine blk_put (cs := #[.int .i64 ((rd_T100 x8_1 x11_2).f1.f0), .int .i64 0]) ?_ 1 _ rfl; (with_reducible repeat (first | refine blk_drewN ?_ _ | refine blk_drew ?_ | refine blk_alloc ?_ _)); refine blk_put (cs := #[.int .i64 0, .int .i64 0]) ?_ 0 _ rfl; (with_reducible repeat (first | refine blk_drewN ?_ _ | refine blk_drew ?_ | refine blk_alloc ?_ _)); exact BK387.out) hg (Kd.R_away HO_10.out (fun _ hk => hk.2))); have n3_ := Aside0.mk (hb); have n4_ := Aside0.mk (ho); clear HO_8; clear BK370; clear BK387; clear HB; clear HO_10; have HO_8 := n0_; have BK370 := n1_; have BK387 := n2_; have HB := n3_; have HO390 := n4_; clear n0_ n1_ n2_ n3_ n4_; clear ho hb hg hat))
   have n0_ := Aside0.mk (Kd.R_drew HO_8.out)
   have n1_ := Aside0.mk (Kd.R_drew HO390.out)
   have n2_ := Aside0.mk (blk_drew BK370.out)
   have n3_ := Aside0.mk (blk_drew BK387.out)
   have n4_ := Aside0.mk (below_drew1 HB.out)
   clear HO_8; clear HO390; clear BK370; clear BK387; clear HB
   have HO_8 := n0_
   have HO390 := n1_
   have BK370 := n2_
   have BK387 := n3_
   have HB := n4_
   clear n0_ n1_ n2_ n3_ n4_
   have p391 : 0 ≤ (((rd_T100 x8_1 x11_2).f1.f0) : Int) := da1
   have q391 : ((rd_T100 x8_1 x11_2).f1.f0) < (l0_3.length : Int) := da1
   obtain ⟨ad391, e391, hx391_0⟩ := Kd.at_int HR0_3.out ((rd_T100 x8_1 x11_2).f1.f0) p391 q391
   have hw391_0 := hx391_0
   cases e391
   (try replace hx391_0 := (HB.out.cell (World.block_lt_of_cell? w _ hx391_0)).trans hx391_0)
   replace p391 := eq_true p391
   replace q391 := eq_true q391
   refine start_ (n := 10) (S := fun w' => w'.cell? ⟨gb387, 0, none⟩ = some (.int .i64 ((rd_T100 x8_1 x11_2).f1.f0)) ∧ w'.cell? ⟨gb387, 1, none⟩ = some (.int .i64 ((rd_T100 x8_1 x11_2).f1.f1)) ∧ w'.cell? ⟨gb370, 0, none⟩ = some (.int .i64 a0_0) ∧ w'.cell? ⟨gb370, 1, none⟩ = some (.int .i64 a0_1) ∧ w'.cell? ⟨gb370, 2, none⟩ = some (.int .i64 a0_2) ∧ w'.cell? ⟨gb370, 3, none⟩ = some (.slice (some ad391) l0_3.length c0_3) ∧ w'.cell? ⟨gb370, 4, none⟩ = some (.slice A0_4 l0_4.length c0_4) ∧ w'.cell? ⟨gb370, 5, none⟩ = some (.slice A0_5 l0_5.length c0_5) ∧ w'.cell? ⟨gb370, 6, none⟩ = some (.slice A0_6 l0_6.length c0_6) ∧ w'.cell? (ad391.add (((rd_T100 x8_1 x11_2).f1.f0)).toNat) = some (.int .i64 (rd l0_3 ((rd_T100 x8_1 x11_2).f1.f0)))) (ds := []) #[false, false, false, false, false, false, false, false, false, false] (by kernel_rfl) rfl rfl ⟨(blk_cell BK387.out 0).trans rfl, (blk_cell BK387.out 1).trans rfl, (blk_cell BK370.out 0).trans rfl, (blk_cell BK370.out 1).trans rfl, (blk_cell BK370.out 2).trans rfl, (blk_cell BK370.out 3).trans rfl, (blk_cell BK370.out 4).trans rfl, (blk_cell BK370.out 5).trans rfl, (blk_cell BK370.out 6).trans rfl, ((HB.out.cell (World.block_lt_of_cell? w _ hw391_0)).trans hw391_0)⟩ (fun hHeld => ?_); refine with_tabW sawmillref17_Best.tab15 sawmillref17_Best.bits15 (fun HT_ HW_ => ?_)
   generalize w52.drew = w53 at HO_8 HO390 BK370 BK387 HB hx391_0 hHeld ⊢
   refine pu1 0 (some 60) #[true, false, false, false, false, false, false, false, false, false] ?_
   refine pu1 2 (some 62) #[true, false, true, false, false, false, false, false, false, false] ?_
   refine pu1 4 (some 64) #[true, false, true, false, true, false, false, false, false, false] ?_
   refine ta1 1 (some 61) #[true, true, true, false, true, false, false, false, false, false] ?_
   refine ta1 3 (some 63) #[true, true, true, true, true, false, false, false, false, false] ?_
   refine ta1 5 (some 65) #[true, true, true, true, true, true, false, false, false, false] ?_
   refine pu1 6 (some 66) #[true, true, true, true, true, true, true, false, false, false] ?_
   refine ta1 7 (some 67) #[true, true, true, true, true, true, true, true, false, false] ?_
   refine pu1 8 (some 68) #[true, true, true, true, true, true, true, true, true, false] ?_
   refine pu1 9 (some 13) #[true, true, true, true, true, true, true, true, true, true] ?_
   refine done_ (done_of HT_.out (by kernel_rfl)) ?_
   have hcz54 := blk_cells BK370.out
   have hfz54 := blk_frozens BK370.out
   try go_wp2
   go_roundg k2
   case measure => have := HK1.out; have := HK2.out; omega
   case rel => exact ⟨(y388), (ji47), (by first | rfl | (simp; done) | (simp only [← hji47] <;> (first | rfl | simp)) | (simp [*]; done)), H', ⟨by have := HK1.out; have := HK2.out; omega⟩, ⟨by (with_reducible repeat (first | apply Kd.R_alloc | apply Kd.R_drewN | apply Kd.R_drew)); exact HO_8.out⟩, ⟨by (with_reducible repeat (first | apply Kd.R_alloc | apply Kd.R_drewN | apply Kd.R_drew)); exact Kd.R_mono HO390.out (fun _ hk => trivial)⟩, ⟨bu BK370.out⟩, ⟨bl⟩⟩
 rw [if_pos c37] at H
 have c37b0 : ((wrap64 (((rd_T100 x8_1 x11_2).f1.f1) + (rd l0_3 ((rd_T100 x8_1 x11_2).f1.f0)))) == a0_0) = true := beq_iff_eq.mpr c37
 have c37b1 : ((wrap64 (((rd_T100 x8_1 x11_2).f1.f1) + (rd l0_3 ((rd_T100 x8_1 x11_2).f1.f0)))) != a0_0) = false := bne_eq_false_iff_eq.mpr c37
 clear c37
 obtain ⟨c38, H⟩ := gd1 H
 have c38b0 : decide (0 < (x8_1.length : Int)) = true := decide_eq_true c38
 have c38b1 : decide (0 < x8_1.length) = true := decide_eq_true (by omega)
 clear c38
 simp only [Option.some.injEq, Prod.mk.injEq] at H
 obtain ⟨rfl, rfl, rfl⟩ := H
 obtain ⟨Ao39, co39, eo39⟩ := Kd.R_slice HO_8.out
 subst eo39
 have p385 : 0 ≤ (x11_2 : Int) := da1
 have q385 : x11_2 < (x8_1.length : Int) := da1
 obtain ⟨ad385, e385, hx385_0, hx385_1, hx385_2⟩ := at_T100 (Kd.R_reads' HO_8.out).2.2 x11_2 p385 q385
 cases e385
 replace p385 := eq_true p385
 replace q385 := eq_true q385
 have p386 : 0 ≤ (x11_2 : Int) := da1
 have q386 : x11_2 < (x8_1.length : Int) := da1
 obtain ⟨ad386, e386, hx386_0, hx386_1, hx386_2⟩ := at_T100 (Kd.R_reads' HO_8.out).2.2 x11_2 p386 q386
 obtain rfl : ad385 = ad386 := (by injection e386)
 replace p386 := eq_true p386
 replace q386 := eq_true q386
 try go_wp2_with (first | ((with_reducible refine gate_dst (N := 12) rfl ?_); refine bx1 (N := 12) #[.int .i64 0, .int .i64 0] 69 ?_; intro gb387 hg w40 hbox hb; have n0_ := Aside0.mk (Kd.R_below (ru HO_8.out) hb); have n1_ := Aside0.mk (Kd.R_below (Kd.R_elderB (ru HO_10.out) gb387 (Nat.le_of_eq hg.symm)) hb); have n2_ := Aside0.mk (blk_below (bu BK370.out) hb); have n3_ := Aside0.mk (below_step bl hb); have n4_ := Aside0.mk (hbox); have n5_ := Aside0.mk ((gs1 : w.heap.size ≤ gb387)); have n6_ := Aside0.mk ((gs1 : w.heap.size ≤ gb387)); have n7_ := Aside0.mk ((nl1 BK370 : gb370 ≠ gb387)); have n8_ := Aside0.mk ((ng1 BK370 : gb387 ≠ gb370)); clear HO_8; clear HO_10; clear BK370; clear HB; have HO_8 := n0_; have HO_10 := n1_; have BK370 := n2_; have HB := n3_; have BK387 := n4_; have GW387 := n5_; have GE387 := n6_; have NB370_387 := n7_; have NB387_370 := n8_; clear n0_ n1_ n2_ n3_ n4_ n5_ n6_ n7_ n8_; clear hb hbox hg; have hnb41 := NB387_370.out; have hnc41 := NB370_387.out; have hcz42 := blk_cells BK387.out; have hfz42 := blk_frozens BK387.out) | ((with_reducible refine gate_builtin (b := .append) (xs := #[.tmp 56, .tmp 58]) rfl ?_); at_builtin; refine Kd.R_append k69 (w0 := w) w.heap.size rfl (.tmp 56) (.tmp 58) 30 69 (.agg #[(.int .i64 0), (.int .i64 0)]) 16 rfl Tryd.underlying30 info69 rfl (by decide) (by omega) u10 x10_2 (⟨(rd_T100 x8_1 x11_2).f1.f0, (rd_T100 x8_1 x11_2).f1.f1⟩ : S69) [.int .i64 ((rd_T100 x8_1 x11_2).f1.f0), .int .i64 ((rd_T100 x8_1 x11_2).f1.f1)] (fun k_ => k_ ≠ gb387) (fun _ => False) rfl (by first | (go_simp; done) | (go_simp; rfl)) ?aP (fun _ hk => hk.elim) ?aF ?aO ?aB ?aS ?aL ?_; (case aP => exact k69_mkM _ _ _ (⟨(rd_T100 x8_1 x11_2).f1.f0, (rd_T100 x8_1 x11_2).f1.f1⟩ : S69)); (case aB => exact bl); (case aF => exact (fun k_ hk => Kd.freshB (g := gb387) (o := .cells #[.int .i64 ((rd_T100 x8_1 x11_2).f1.f0), .int .i64 ((rd_T100 x8_1 x11_2).f1.f1)] 69 (0, 0)) (by (with_reducible repeat (first | refine blk_drewN ?_ _ | refine blk_drew ?_ | refine blk_alloc ?_ _)); refine blk_put (cs := #[.int .i64 ((rd_T100 x8_1 x11_2).f1.f0), .int .i64 0]) ?_ 1 _ rfl; (with_reducible repeat (first | refine blk_drewN ?_ _ | refine blk_drew ?_ | refine blk_alloc ?_ _)); refine blk_put (cs := #[.int .i64 0, .int .i64 0]) ?_ 0 _ rfl; (with_reducible repeat (first | refine blk_drewN ?_ _ | refine blk_drew ?_ | refine blk_alloc ?_ _)); exact BK387.out) k_ hk)); (case aO => exact (ru (Kd.R_mono (Kd.R_far (p := ⟨gb387, 1, none⟩) (Kd.R_far (p := ⟨gb387, 0, none⟩) (Kd.R_mono HO_10.out (fun k_ hk => (⟨hk, hk.2⟩ : _ ∧ k_ ≠ gb387))) (fun _ hk => hk.2) (.int .i64 ((rd_T100 x8_1 x11_2).f1.f0))) (fun _ hk => hk.2) (.int .i64 ((rd_T100 x8_1 x11_2).f1.f1))) (fun _ hk => hk.1.2)))); (case aS => exact (below_size bl)); (case aL => have := LMc34.out; omega); intro v389 w43 ho hb hg hat; rw [← Ny388.out] at ho; have n0_ := Aside0.mk (Kd.R_over' (ru (Kd.R_mono (Kd.R_far (p := ⟨gb387, 1, none⟩) (Kd.R_far (p := ⟨gb387, 0, none⟩) (Kd.R_types HO_8.out BK387.out (by decide)) (fun _ hk => hk.2) (.int .i64 ((rd_T100 x8_1 x11_2).f1.f0))) (fun _ hk => hk.2) (.int .i64 ((rd_T100 x8_1 x11_2).f1.f1))) (fun _ h_ => h_.1))) (Kd.R_typed (ru (Kd.R_mono (Kd.R_far (p := ⟨gb387, 1, none⟩) (Kd.R_far (p := ⟨gb387, 0, none⟩) (Kd.R_mono HO_10.out (fun k_ hk => (⟨hk, hk.2⟩ : _ ∧ k_ ≠ gb387))) (fun _ hk => hk.2) (.int .i64 ((rd_T100 x8_1 x11_2).f1.f0))) (fun _ hk => hk.2) (.int .i64 ((rd_T100 x8_1 x11_2).f1.f1))) (fun _ h_ => h_.1)))) (by decide) hg); have n1_ := Aside0.mk (blk_grown (g := gb370) (o := .cells #[.int .i64 a0_0, .int .i64 a0_1, .int .i64 a0_2, .slice A0_3 l0_3.length c0_3, .slice A0_4 l0_4.length c0_4, .slice A0_5 l0_5.length c0_5, .slice A0_6 l0_6.length c0_6] 25 (0, 0)) (by (with_reducible repeat (first | refine blk_drewN ?_ _ | refine blk_drew ?_ | refine blk_alloc ?_ _)); refine blk_far ?_ NB370_387.out _; (with_reducible repeat (first | refine blk_drewN ?_ _ | refine blk_drew ?_ | refine blk_alloc ?_ _)); refine blk_far ?_ NB370_387.out _; (with_reducible repeat (first | refine blk_drewN ?_ _ | refine blk_drew ?_ | refine blk_alloc ?_ _)); exact BK370.out) hg (Kd.R_ne HO_10.out BK370.out (by decide))); have n2_ := Aside0.mk (blk_grown (g := gb387) (o := .cells #[.int .i64 ((rd_T100 x8_1 x11_2).f1.f0), .int .i64 ((rd_T100 x8_1 x11_2).f1.f1)] 69 (0, 0)) (by (with_reducible repeat (first | refine blk_drewN ?_ _ | refine blk_drew ?_ | refine blk_alloc ?_ _)); refine blk_put (cs := #[.int .i64 ((rd_T100 x8_1 x11_2).f1.f0), .int .i64 0]) ?_ 1 _ rfl; (with_reducible repeat (first | refine blk_drewN ?_ _ | refine blk_drew ?_ | refine blk_alloc ?_ _)); refine blk_put (cs := #[.int .i64 0, .int .i64 0]) ?_ 0 _ rfl; (with_reducible repeat (first | refine blk_drewN ?_ _ | refine blk_drew ?_ | refine blk_alloc ?_ _)); exact BK387.out) hg (Kd.R_away HO_10.out (fun _ hk => hk.2))); have n3_ := Aside0.mk (hb); have n4_ := Aside0.mk (ho); clear HO_8; clear BK370; clear BK387; clear HB; clear HO_10; have HO_8 := n0_; have BK370 := n1_; have BK387 := n2_; have HB := n3_; have HO390 := n4_; clear n0_ n1_ n2_ n3_ n4_; clear ho hb hg hat))
 have n0_ := Aside0.mk (Kd.R_drew HO_8.out)
 have n1_ := Aside0.mk (Kd.R_drew HO390.out)
 have n2_ := Aside0.mk (blk_drew BK370.out)
 have n3_ := Aside0.mk (blk_drew BK387.out)
 have n4_ := Aside0.mk (below_drew1 HB.out)
 clear HO_8; clear HO390; clear BK370; clear BK387; clear HB
 have HO_8 := n0_
 have HO390 := n1_
 have BK370 := n2_
 have BK387 := n3_
 have HB := n4_
 clear n0_ n1_ n2_ n3_ n4_
 have p391 : 0 ≤ (((rd_T100 x8_1 x11_2).f1.f0) : Int) := da1
 have q391 : ((rd_T100 x8_1 x11_2).f1.f0) < (l0_3.length : Int) := da1
 obtain ⟨ad391, e391, hx391_0⟩ := Kd.at_int HR0_3.out ((rd_T100 x8_1 x11_2).f1.f0) p391 q391
 have hw391_0 := hx391_0
 cases e391
 (try replace hx391_0 := (HB.out.cell (World.block_lt_of_cell? w _ hx391_0)).trans hx391_0)
 replace p391 := eq_true p391
 replace q391 := eq_true q391
 refine start_ (n := 10) (S := fun w' => w'.cell? ⟨gb387, 0, none⟩ = some (.int .i64 ((rd_T100 x8_1 x11_2).f1.f0)) ∧ w'.cell? ⟨gb387, 1, none⟩ = some (.int .i64 ((rd_T100 x8_1 x11_2).f1.f1)) ∧ w'.cell? ⟨gb370, 0, none⟩ = some (.int .i64 a0_0) ∧ w'.cell? ⟨gb370, 1, none⟩ = some (.int .i64 a0_1) ∧ w'.cell? ⟨gb370, 2, none⟩ = some (.int .i64 a0_2) ∧ w'.cell? ⟨gb370, 3, none⟩ = some (.slice (some ad391) l0_3.length c0_3) ∧ w'.cell? ⟨gb370, 4, none⟩ = some (.slice A0_4 l0_4.length c0_4) ∧ w'.cell? ⟨gb370, 5, none⟩ = some (.slice A0_5 l0_5.length c0_5) ∧ w'.cell? ⟨gb370, 6, none⟩ = some (.slice A0_6 l0_6.length c0_6) ∧ w'.cell? (ad391.add (((rd_T100 x8_1 x11_2).f1.f0)).toNat) = some (.int .i64 (rd l0_3 ((rd_T100 x8_1 x11_2).f1.f0)))) (ds := []) #[false, false, false, false, false, false, false, false, false, false] (by kernel_rfl) rfl rfl ⟨(blk_cell BK387.out 0).trans rfl, (blk_cell BK387.out 1).trans rfl, (blk_cell BK370.out 0).trans rfl, (blk_cell BK370.out 1).trans rfl, (blk_cell BK370.out 2).trans rfl, (blk_cell BK370.out 3).trans rfl, (blk_cell BK370.out 4).trans rfl, (blk_cell BK370.out 5).trans rfl, (blk_cell BK370.out 6).trans rfl, ((HB.out.cell (World.block_lt_of_cell? w _ hw391_0)).trans hw391_0)⟩ (fun hHeld => ?_); refine with_tabW sawmillref17_Best.tab15 sawmillref17_Best.bits15 (fun HT_ HW_ => ?_)
 generalize w43.drew = w44 at HO_8 HO390 BK370 BK387 HB hx391_0 hHeld ⊢
 refine pu1 0 (some 60) #[true, false, false, false, false, false, false, false, false, false] ?_
 refine pu1 2 (some 62) #[true, false, true, false, false, false, false, false, false, false] ?_
 refine pu1 4 (some 64) #[true, false, true, false, true, false, false, false, false, false] ?_
 refine ta1 1 (some 61) #[true, true, true, false, true, false, false, false, false, false] ?_
 refine ta1 3 (some 63) #[true, true, true, true, true, false, false, false, false, false] ?_
 refine ta1 5 (some 65) #[true, true, true, true, true, true, false, false, false, false] ?_
 refine pu1 6 (some 66) #[true, true, true, true, true, true, true, false, false, false] ?_
 refine ta1 7 (some 67) #[true, true, true, true, true, true, true, true, false, false] ?_
 refine pu1 8 (some 68) #[true, true, true, true, true, true, true, true, true, false] ?_
 refine pu1 9 (some 13) #[true, true, true, true, true, true, true, true, true, true] ?_
 refine done_ (done_of HT_.out (by kernel_rfl)) ?_
 have hcz45 := blk_cells BK370.out
 have hfz45 := blk_frozens BK370.out
 try go_wp2
 have n0_ := Aside0.mk (Kd.R_drew HO_8.out)
 have n1_ := Aside0.mk (Kd.R_drew HO390.out)
 have n2_ := Aside0.mk (blk_drew BK370.out)
 have n3_ := Aside0.mk (blk_drew BK387.out)
 have n4_ := Aside0.mk (below_drew1 HB.out)
 clear HO_8; clear HO390; clear BK370; clear BK387; clear HB
 have HO_8 := n0_
 have HO390 := n1_
 have BK370 := n2_
 have BK387 := n3_
 have HB := n4_
 clear n0_ n1_ n2_ n3_ n4_
 have p392 : 0 ≤ (0 : Int) := (by omega)
 have q392 : 0 < (x8_1.length : Int) := da1
 obtain ⟨ad392, e392, hx392_0, hx392_1, hx392_2⟩ := at_T100 (Kd.R_reads' HO_8.out).2.2 0 p392 q392
 obtain rfl : ad385 = ad392 := (by injection e392)
 have qi392 : (0 < x8_1.length) = True := eq_true (by omega)
 (try rw [show ((0 : Int)).toNat = 0 from rfl] at hx392_0)
 (try rw [show 0 * 3 = 0 from rfl] at hx392_0)
 (try rw [Addr.add_zero'] at hx392_0)
 (try rw [show ((0 : Int)).toNat = 0 from rfl] at hx392_1)
 (try rw [show 0 * 3 = 0 from rfl] at hx392_1)
 (try rw [Addr.add_zero'] at hx392_1)
 (try rw [show ((0 : Int)).toNat = 0 from rfl] at hx392_2)
 (try rw [show 0 * 3 = 0 from rfl] at hx392_2)
 (try rw [Addr.add_zero'] at hx392_2)
 replace p392 := eq_true p392
 replace q392 := eq_true q392
 refine start_ (n := 8) (S := fun w' => w'.cell? ad385 = some (.int .i64 ((rd_T100 x8_1 0).f0)) ∧ w'.cell? ⟨ad385.block, ad385.off + 1, none⟩ = some (.int .i64 ((rd_T100 x8_1 0).f1.f0)) ∧ w'.cell? ⟨ad385.block, ad385.off + 2, none⟩ = some (.int .i64 ((rd_T100 x8_1 0).f1.f1))) (ds := []) #[false, false, false, false, false, false, false, false] (by kernel_rfl) rfl rfl ⟨hx392_0, hx392_1, hx392_2⟩ (fun hHeld => ?_); refine with_tabW sawmillref17_Best.tab18 sawmillref17_Best.bits18 (fun HT_ HW_ => ?_)
 generalize w44.drew = w46 at HO_8 HO390 BK370 BK387 HB hx392_0 hx392_1 hx392_2 hHeld ⊢
 refine pu1 0 (some 80) #[true, false, false, false, false, false, false, false] ?_
 refine pu1 1 (some 81) #[true, true, false, false, false, false, false, false] ?_
 refine pu1 2 (some 82) #[true, true, true, false, false, false, false, false] ?_
 refine pu1 3 (some 83) #[true, true, true, true, false, false, false, false] ?_
 refine pu1 5 (some 2) #[true, true, true, true, false, true, false, false] ?_
 refine ta1 4 (some 84) #[true, true, true, true, true, true, false, false] ?_
 refine pu1 6 (some 3) #[true, true, true, true, true, true, true, false] ?_
 refine pu1 7 (some 4) #[true, true, true, true, true, true, true, true] ?_
 refine done_ (done_of HT_.out (by kernel_rfl)) ?_
 try go_wp2
 go_ret3
 exact ⟨_, by first | rfl | (simp [errW_none, errW_some] <;> rfl) | (simp only [← hji6]; first | rfl | (simp [errW_none, errW_some] <;> rfl)) | (simp [*, errW_none, errW_some] <;> rfl), by (with_reducible repeat (first | apply Kd.R_alloc | apply Kd.R_drewN | apply Kd.R_drew)); exact Kd.R_mono HO390.out (fun _ hk => trivial), bl⟩
end Go.Proofs.YtoaicheopcojoaaDoor.P
