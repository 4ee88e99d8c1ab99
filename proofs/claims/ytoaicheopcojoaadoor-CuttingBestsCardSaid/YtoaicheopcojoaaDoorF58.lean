import Derived.Test.YtoaicheopcojoaaDoorF58d
namespace Go.Proofs.YtoaicheopcojoaaDoor.P
open Go.RowKit Go.Proofs.YtoaicheopcojoaaDoorW.PrintWords Go.Proofs.YtoaicheopcojoaaDoorW.PrintLast Go.Proofs.YtoaicheopcojoaaDoorW.PrintMore
attribute [local go_sem] max2_int min2_int max_two min_two max_three min_three max_four min_four   -- for this text's walks alone
set_option linter.unusedVariables false
set_option linter.unusedSimpArgs false
def sawmillref17_from.T1 : Bool × List (List Nat × List Nat) := (true, [([], []), ([], []), ([1], [1]), ([0, 2], [0, 2]), ([3], [3]), ([], []), ([], []), ([5, 6], [5, 6]), ([7], [7]), ([4, 8], [4, 8]), ([], []), ([9, 10], [9, 10]), ([], []), ([12, 11, 0, 1, 2, 3, 4, 5, 6, 7, 8, 9, 10, 11, 12], [11, 12])])
def sawmillref17_from.B1 : List Nat := [0, 0, 2, 7, 15, 0, 0, 96, 224, 511, 0, 2047, 0, 8191]
theorem sawmillref17_from.tab1 : rtab .any (opsOf Tryd.f58 1) = sawmillref17_from.T1 := by kernel_rfl
theorem sawmillref17_from.bits1 : waitsOk sawmillref17_from.T1.2 sawmillref17_from.B1 = true := by kernel_rfl
def sawmillref17_from.T9 : Bool × List (List Nat × List Nat) := (true, [([], []), ([], []), ([], []), ([1, 2], [1, 2]), ([0, 3], [0, 3]), ([4], [4]), ([], []), ([], []), ([6, 7], [6, 7]), ([8], [8]), ([5, 9], [5, 9]), ([], []), ([], []), ([11, 12], [11, 12]), ([13], [13]), ([10, 14], [10, 14]), ([], []), ([], []), ([], []), ([17, 18], [17, 18]), ([16, 19], [16, 19]), ([20], [20]), ([15, 21], [15, 21]), ([22, 0, 1, 2, 3, 4, 5, 6, 7, 8, 9, 10, 11, 12, 13, 14, 15, 16, 17, 18, 19, 20, 21, 22], [22])])
def sawmillref17_from.B9 : List Nat := [0, 0, 0, 6, 15, 31, 0, 0, 192, 448, 1023, 0, 0, 6144, 14336, 32767, 0, 0, 0, 393216, 983040, 2031616, 4194303, 8388607]
theorem sawmillref17_from.tab9 : rtab .any (opsOf Tryd.f58 9) = sawmillref17_from.T9 := by kernel_rfl
theorem sawmillref17_from.bits9 : waitsOk sawmillref17_from.T9.2 sawmillref17_from.B9 = true := by kernel_rfl
def sawmillref17_from.T13 : Bool × List (List Nat × List Nat) := (true, [([], []), ([], []), ([1], [1]), ([], []), ([3], [3]), ([], []), ([4, 5], [4, 5]), ([6], [6]), ([2, 7], [2, 7]), ([0, 8], [0, 8]), ([9], [9]), ([10], [10]), ([11, 10], [10, 11]), ([10], [10]), ([12, 13, 10], [10, 12, 13]), ([14, 10], [10, 14]), ([10], [10]), ([15, 16, 10], [10, 15, 16]), ([17, 10], [10, 17]), ([18, 10], [10, 18]), ([10, 19], [10, 19])])
def sawmillref17_from.B13 : List Nat := [0, 0, 2, 0, 8, 0, 56, 120, 254, 511, 1023, 2047, 4095, 2047, 16383, 32767, 2047, 131071, 262143, 524287, 1048575]
theorem sawmillref17_from.tab13 : rtab .any (opsOf Tryd.f58 13) = sawmillref17_from.T13 := by kernel_rfl
theorem sawmillref17_from.bits13 : waitsOk sawmillref17_from.T13.2 sawmillref17_from.B13 = true := by kernel_rfl
theorem L58_0 {p_ : Prop} (k_ : p_ := by
  go_wp2
  refine bodyPost_ret (results_cell_row rfl _ _ gb357 100 #[.int .i64 x361000_1, .int .i64 x361001_1, .int .i64 x361002_1] (0, 0) _ rfl (by (with_reducible repeat (first | refine blk_drewN ?_ _ | refine blk_drew ?_ | refine blk_alloc ?_ _)); refine blk_put (cs := #[.int .i64 x361000_1, .int .i64 x361001_1, .int .i64 0]) ?_ 2 _ rfl; (with_reducible repeat (first | refine blk_drewN ?_ _ | refine blk_drew ?_ | refine blk_alloc ?_ _)); refine blk_put (cs := #[.int .i64 x361000_1, .int .i64 0, .int .i64 0]) ?_ 1 _ rfl; (with_reducible repeat (first | refine blk_drewN ?_ _ | refine blk_drew ?_ | refine blk_alloc ?_ _)); refine blk_put (cs := #[.int .i64 0, .int .i64 0, .int .i64 0]) ?_ 0 _ rfl; (with_reducible repeat (first | refine blk_drewN ?_ _ | refine blk_drew ?_ | refine blk_alloc ?_ _)); exact BK357.out) Tryd.underlying100 rfl (by kernel_rfl)) rfl ?_
  exact ⟨fe1, bl⟩) : p_ := k_
set_option maxHeartbeats 8000000 in
set_option maxRecDepth 100000 in
theorem sawmillref17_from.calls (k : Nat) (a0_0 : Int) (a0_1 : Int) (a0_2 : Int) (A0_3 : Option Addr) (c0_3 : Nat) (l0_3 : List Int) (A0_4 : Option Addr) (c0_4 : Nat) (l0_4 : List (List Int)) (A0_5 : Option Addr) (c0_5 : Nat) (l0_5 : List Int) (A0_6 : Option Addr) (c0_6 : Nat) (l0_6 : List Int) (a1 : Int) (A2 : Option Addr) (c2 : Nat) (l2 : List Int) (A3 : Option Addr) (c3 : Nat) (l3 : List Int) (A4 : Option Addr) (c4 : Nat) (l4 : List (S100)) (r1 : Int) (r2 : Int) (r3 : Int) (w : World) (hr0_3 : Kd.C (Kd.int .i64) w A0_3 l0_3.length l0_3) (hc0_3 : l0_3.length ≤ c0_3) (hr0_4 : Kd.C (Kd.slice 3 (Kd.int .i64)) w A0_4 l0_4.length l0_4) (hc0_4 : l0_4.length ≤ c0_4) (hr0_5 : Kd.C (Kd.int .i64) w A0_5 l0_5.length l0_5) (hc0_5 : l0_5.length ≤ c0_5) (hr0_6 : Kd.C (Kd.int .i64) w A0_6 l0_6.length l0_6) (hc0_6 : l0_6.length ≤ c0_6) (hr2 : Kd.C (Kd.int .i64) w A2 l2.length l2) (hc2 : l2.length ≤ c2) (hr3 : Kd.C (Kd.int .i64) w A3 l3.length l3) (hc3 : l3.length ≤ c3) (hr4 : Kd.C k100 w A4 l4.length l4) (hc4 : l4.length ≤ c4) (h : sawmillref17_from.f k a0_0 a0_1 a0_2 l0_3 l0_4 l0_5 l0_6 a1 l2 l3 l4 = some (r1, r2, r3)) :
    Calls Tryd.prog 58 #[.agg #[.int .i64 a0_0, .int .i64 a0_1, .int .i64 a0_2, .slice A0_3 l0_3.length c0_3, .slice A0_4 l0_4.length c0_4, .slice A0_5 l0_5.length c0_5, .slice A0_6 l0_6.length c0_6], .int .i64 a1, .slice A2 l2.length c2, .slice A3 l3.length c3, .slice A4 l4.length c4] w fun e w' => e = .returned (.agg #[.int .i64 r1, .int .i64 r2, .int .i64 r3]) ∧ Below w.heap.size w w' := by
 have hu25 := Tryd.underlying25
 have hu100 := Tryd.underlying100
 have hu69 := Tryd.underlying69
 have HR0_3 := Aside0.mk hr0_3
 have HC0_3 := Aside0.mk hc0_3
 clear hr0_3 hc0_3
 have HR0_4 := Aside0.mk hr0_4
 have HC0_4 := Aside0.mk hc0_4
 clear hr0_4 hc0_4
 have HR0_5 := Aside0.mk hr0_5
 have HC0_5 := Aside0.mk hc0_5
 clear hr0_5 hc0_5
 have HR0_6 := Aside0.mk hr0_6
 have HC0_6 := Aside0.mk hc0_6
 clear hr0_6 hc0_6
 have HR2 := Aside0.mk hr2
 have HC2 := Aside0.mk hc2
 clear hr2 hc2
 have HR3 := Aside0.mk hr3
 have HC3 := Aside0.mk hc3
 clear hr3 hc3
 have HR4 := Aside0.mk hr4
 have HC4 := Aside0.mk hc4
 clear hr4 hc4
 have HB := Aside0.mk (Below.refl w.heap.size w)
 have H : (if 0 ≤ a0_0 then (if a0_0 < (l2.length : Int) then (if 0 ≤ a1 then (if a1 < (l2.length : Int) then (sawmillref17_from.l0 k a1 l2 l3 l4 0 a0_0 a0_1 a0_2 l0_3 l0_4 l0_5 l0_6 (wrap64 ((rd l2 a0_0) - (rd l2 a1))) (-1) 0) else (none)) else (none)) else (none)) else (none)) = some (r1, r2, r3) := h
 clear h
 obtain ⟨c6, H⟩ := gd1 H
 have c6b0 : decide (0 ≤ a0_0) = true := decide_eq_true c6
 clear c6
 obtain ⟨c7, H⟩ := gd1 H
 have c7b0 : decide (a0_0 < (l2.length : Int)) = true := decide_eq_true c7
 clear c7
 obtain ⟨c8, H⟩ := gd1 H
 have c8b0 : decide (0 ≤ a1) = true := decide_eq_true c8
 clear c8
 obtain ⟨c9, H⟩ := gd1 H
 have c9b0 : decide (a1 < (l2.length : Int)) = true := decide_eq_true c9
 clear c9
 have H' := Aside0.mk H
 clear H
 go_enter Tryd.func58, Tryd.ntmps58
 try go_wp2_with (first | ((with_reducible refine gate_dst (N := 5) rfl ?_); refine bx1 (N := 5) #[.int .i64 a0_0, .int .i64 a0_1, .int .i64 a0_2, .slice A0_3 l0_3.length c0_3, .slice A0_4 l0_4.length c0_4, .slice A0_5 l0_5.length c0_5, .slice A0_6 l0_6.length c0_6] 25 ?_; intro gb356 hg w10 hbox hb; have n0_ := Aside0.mk (below_step bl hb); have n1_ := Aside0.mk (hbox); have n2_ := Aside0.mk ((gs1 : w.heap.size ≤ gb356)); have n3_ := Aside0.mk ((gs1 : w.heap.size ≤ gb356)); clear HB; have HB := n0_; have BK356 := n1_; have GW356 := n2_; have GE356 := n3_; clear n0_ n1_ n2_ n3_; clear hb hbox hg) | ((with_reducible refine gate_dst (N := 10) rfl ?_); refine bx1 (N := 10) #[.int .i64 0, .int .i64 0, .int .i64 0] 100 ?_; intro gb357 hg w11 hbox hb; have n0_ := Aside0.mk (blk_below (bu BK356.out) hb); have n1_ := Aside0.mk (below_step bl hb); have n2_ := Aside0.mk (hbox); have n3_ := Aside0.mk ((gs1 : w.heap.size ≤ gb357)); have n4_ := Aside0.mk ((gs1 : w.heap.size ≤ gb357)); have n5_ := Aside0.mk ((nl1 BK356 : gb356 ≠ gb357)); have n6_ := Aside0.mk ((ng1 BK356 : gb357 ≠ gb356)); clear BK356; clear HB; have BK356 := n0_; have HB := n1_; have BK357 := n2_; have GW357 := n3_; have GE357 := n4_; have NB356_357 := n5_; have NB357_356 := n6_; clear n0_ n1_ n2_ n3_ n4_ n5_ n6_; clear hb hbox hg))
 have n0_ := Aside0.mk (blk_drew BK356.out)
 have n1_ := Aside0.mk (blk_drew BK357.out)
 have n2_ := Aside0.mk (below_drew1 HB.out)
 clear BK356; clear BK357; clear HB
 have BK356 := n0_
 have BK357 := n1_
 have HB := n2_
 clear n0_ n1_ n2_
 have p358 : 0 ≤ (a0_0 : Int) := da1
 have q358 : a0_0 < (l2.length : Int) := da1
 obtain ⟨ad358, e358, hx358_0⟩ := Kd.at_int HR2.out a0_0 p358 q358
 have hw358_0 := hx358_0
 cases e358
 (try replace hx358_0 := (HB.out.cell (World.block_lt_of_cell? w _ hx358_0)).trans hx358_0)
 replace p358 := eq_true p358
 replace q358 := eq_true q358
 have p359 : 0 ≤ (a1 : Int) := da1
 have q359 : a1 < (l2.length : Int) := da1
 obtain ⟨ad359, e359, hx359_0⟩ := Kd.at_int HR2.out a1 p359 q359
 have hw359_0 := hx359_0
 obtain rfl : ad358 = ad359 := (by injection e359)
 (try replace hx359_0 := (HB.out.cell (World.block_lt_of_cell? w _ hx359_0)).trans hx359_0)
 replace p359 := eq_true p359
 replace q359 := eq_true q359
 refine start_ (n := 14) (S := fun w' => w'.cell? ⟨gb356, 0, none⟩ = some (.int .i64 a0_0) ∧ w'.cell? ⟨gb356, 1, none⟩ = some (.int .i64 a0_1) ∧ w'.cell? ⟨gb356, 2, none⟩ = some (.int .i64 a0_2) ∧ w'.cell? ⟨gb356, 3, none⟩ = some (.slice A0_3 l0_3.length c0_3) ∧ w'.cell? ⟨gb356, 4, none⟩ = some (.slice A0_4 l0_4.length c0_4) ∧ w'.cell? ⟨gb356, 5, none⟩ = some (.slice A0_5 l0_5.length c0_5) ∧ w'.cell? ⟨gb356, 6, none⟩ = some (.slice A0_6 l0_6.length c0_6) ∧ w'.cell? (ad358.add (a0_0).toNat) = some (.int .i64 (rd l2 a0_0)) ∧ w'.cell? (ad358.add (a1).toNat) = some (.int .i64 (rd l2 a1))) (ds := []) #[false, false, false, false, false, false, false, false, false, false, false, false, false, false] (by kernel_rfl) rfl rfl ⟨(blk_cell BK356.out 0).trans rfl, (blk_cell BK356.out 1).trans rfl, (blk_cell BK356.out 2).trans rfl, (blk_cell BK356.out 3).trans rfl, (blk_cell BK356.out 4).trans rfl, (blk_cell BK356.out 5).trans rfl, (blk_cell BK356.out 6).trans rfl, ((HB.out.cell (World.block_lt_of_cell? w _ hw358_0)).trans hw358_0), ((HB.out.cell (World.block_lt_of_cell? w _ hw359_0)).trans hw359_0)⟩ (fun hHeld => ?_); refine with_tabW sawmillref17_from.tab1 sawmillref17_from.bits1 (fun HT_ HW_ => ?_)
 generalize w11.drew = w12 at BK356 BK357 HB hx358_0 hx359_0 hHeld ⊢
 refine pu1 0 (some 18) #[true, false, false, false, false, false, false, false, false, false, false, false, false, false] ?_
 refine pu1 1 (some 19) #[true, true, false, false, false, false, false, false, false, false, false, false, false, false] ?_
 refine pu1 5 (some 23) #[true, true, false, false, false, true, false, false, false, false, false, false, false, false] ?_
 refine pu1 6 (some 24) #[true, true, false, false, false, true, true, false, false, false, false, false, false, false] ?_
 refine pu1 7 (some 25) #[true, true, false, false, false, true, true, true, false, false, false, false, false, false] ?_
 refine pu1 10 (some 28) #[true, true, false, false, false, true, true, true, false, false, true, false, false, false] ?_
 refine ta1 2 (some 20) #[true, true, true, false, false, true, true, true, false, false, true, false, false, false] ?_
 refine pu1 3 (some 21) #[true, true, true, true, false, true, true, true, false, false, true, false, false, false] ?_
 refine ta1 4 (some 22) #[true, true, true, true, true, true, true, true, false, false, true, false, false, false] ?_
 refine ta1 8 (some 26) #[true, true, true, true, true, true, true, true, true, false, true, false, false, false] ?_
 refine pu1 9 (some 27) #[true, true, true, true, true, true, true, true, true, true, true, false, false, false] ?_
 refine pu1 11 (some 29) #[true, true, true, true, true, true, true, true, true, true, true, true, false, false] ?_
 refine one_ (i := 12) (N := some 11) #[true, true, true, true, true, true, true, true, true, true, true, true, true, false] rfl rfl (one_of HT_.out (by kernel_rfl)) (by decide) (fun K hK => ?_)
 refine box_step ?hg (N := 11) ?hd (cs := #[.int .i64 0, .int .i64 0, .int .i64 0]) (t := 100) ?hr ?_; (case hd => rfl); (case hg => rfl); (case hr => first | (go_simp; done) | (go_simp; rfl))
 intro gb360 hg w13 hbox hb
 have n0_ := Aside0.mk (blk_below (bu BK356.out) hb)
 have n1_ := Aside0.mk (blk_below (bu BK357.out) hb)
 have n2_ := Aside0.mk (below_step bl hb)
 have n3_ := Aside0.mk (hbox)
 have n4_ := Aside0.mk ((gs1 : w.heap.size ≤ gb360))
 have n5_ := Aside0.mk ((gs1 : w.heap.size ≤ gb360))
 have n6_ := Aside0.mk ((nl1 BK356 : gb356 ≠ gb360))
 have n7_ := Aside0.mk ((ng1 BK356 : gb360 ≠ gb356))
 have n8_ := Aside0.mk ((nl1 BK357 : gb357 ≠ gb360))
 have n9_ := Aside0.mk ((ng1 BK357 : gb360 ≠ gb357))
 clear BK356; clear BK357; clear HB
 have BK356 := n0_
 have BK357 := n1_
 have HB := n2_
 have BK360 := n3_
 have GW360 := n4_
 have GE360 := n5_
 have NB356_360 := n6_
 have NB360_356 := n7_
 have NB357_360 := n8_
 have NB360_357 := n9_
 clear n0_ n1_ n2_ n3_ n4_ n5_ n6_ n7_ n8_ n9_; clear hb hbox hg
 refine hK.out _ _ ⟨(blk_cell BK356.out 0).trans rfl, (blk_cell BK356.out 1).trans rfl, (blk_cell BK356.out 2).trans rfl, (blk_cell BK356.out 3).trans rfl, (blk_cell BK356.out 4).trans rfl, (blk_cell BK356.out 5).trans rfl, (blk_cell BK356.out 6).trans rfl, ((HB.out.cell (World.block_lt_of_cell? w _ hw358_0)).trans hw358_0), ((HB.out.cell (World.block_lt_of_cell? w _ hw359_0)).trans hw359_0)⟩ (fun hHeld => ?_)
 clear hK K
 refine norm_ (a' := ?_) ?_ ?_
 rotate_left
 · show Act.put _ (some 11) _ = _
   simp only [Act.put, List.setIfInBounds_toArray, List.set_cons_zero, List.set_cons_succ, i64_w, i32_w]
   rfl
 refine one_ (i := 13) (N := none) #[true, true, true, true, true, true, true, true, true, true, true, true, true, true] rfl rfl (one_of HT_.out (by kernel_rfl)) (by decide) (fun K hK => ?_)
 have hs14 : w13.cell? ⟨gb360, 0, none⟩ = some (.int .i64 0) := (blk_cell BK360.out 0).trans rfl
 have hfs14 := blk_frozen BK360.out 0
 have hns14_0 := NB356_360.out
 have hns14_1 := NB357_360.out
 have hms14_0 := NB360_356.out
 have hms14_1 := NB360_357.out
 have hs15 : w13.cell? ⟨gb360, 1, none⟩ = some (.int .i64 0) := (blk_cell BK360.out 1).trans rfl
 have hfs15 := blk_frozen BK360.out 1
 have hns15_0 := NB356_360.out
 have hns15_1 := NB357_360.out
 have hms15_0 := NB360_356.out
 have hms15_1 := NB360_357.out
 have hs16 : w13.cell? ⟨gb360, 2, none⟩ = some (.int .i64 0) := (blk_cell BK360.out 2).trans rfl
 have hfs16 := blk_frozen BK360.out 2
 have hns16_0 := NB356_360.out
 have hns16_1 := NB357_360.out
 have hms16_0 := NB360_356.out
 have hms16_1 := NB360_357.out
 refine skip_ (w1 := ?_) (by rfl) rfl ?_ ?_
 rotate_left
 · go_simp
   rfl
 refine hK.out _ _ ⟨((cell_far (p := ⟨gb360, _, none⟩) NB356_360.out _).trans (((cell_far (p := ⟨gb360, _, none⟩) NB356_360.out _).trans (((cell_far (p := ⟨gb360, _, none⟩) NB356_360.out _).trans (hHeld.1)))))), ((cell_far (p := ⟨gb360, _, none⟩) NB356_360.out _).trans (((cell_far (p := ⟨gb360, _, none⟩) NB356_360.out _).trans (((cell_far (p := ⟨gb360, _, none⟩) NB356_360.out _).trans (hHeld.2.1)))))), ((cell_far (p := ⟨gb360, _, none⟩) NB356_360.out _).trans (((cell_far (p := ⟨gb360, _, none⟩) NB356_360.out _).trans (((cell_far (p := ⟨gb360, _, none⟩) NB356_360.out _).trans (hHeld.2.2.1)))))), ((cell_far (p := ⟨gb360, _, none⟩) NB356_360.out _).trans (((cell_far (p := ⟨gb360, _, none⟩) NB356_360.out _).trans (((cell_far (p := ⟨gb360, _, none⟩) NB356_360.out _).trans (hHeld.2.2.2.1)))))), ((cell_far (p := ⟨gb360, _, none⟩) NB356_360.out _).trans (((cell_far (p := ⟨gb360, _, none⟩) NB356_360.out _).trans (((cell_far (p := ⟨gb360, _, none⟩) NB356_360.out _).trans (hHeld.2.2.2.2.1)))))), ((cell_far (p := ⟨gb360, _, none⟩) NB356_360.out _).trans (((cell_far (p := ⟨gb360, _, none⟩) NB356_360.out _).trans (((cell_far (p := ⟨gb360, _, none⟩) NB356_360.out _).trans (hHeld.2.2.2.2.2.1)))))), ((cell_far (p := ⟨gb360, _, none⟩) NB356_360.out _).trans (((cell_far (p := ⟨gb360, _, none⟩) NB356_360.out _).trans (((cell_far (p := ⟨gb360, _, none⟩) NB356_360.out _).trans (hHeld.2.2.2.2.2.2.1)))))), ((cell_far (p := ⟨gb360, _, none⟩) (by first | exact Nat.ne_of_lt (Nat.lt_of_lt_of_le (by have := World.block_lt_of_cell? _ _ hw358_0; first | rwa [add_block] at this | exact this) GW360.out) | (rw [add_block]; exact Nat.ne_of_lt (Nat.lt_of_lt_of_le (by have := World.block_lt_of_cell? _ _ hw358_0; first | rwa [add_block] at this | exact this) GW360.out)) | (show (Addr.add _ _).block ≠ _; rw [add_block]; exact Nat.ne_of_lt (Nat.lt_of_lt_of_le (by have := World.block_lt_of_cell? _ _ hw358_0; first | rwa [add_block] at this | exact this) GW360.out)) | (dsimp only; exact Nat.ne_of_lt (Nat.lt_of_lt_of_le (by have := World.block_lt_of_cell? _ _ hw358_0; first | rwa [add_block] at this | exact this) GW360.out))) _).trans (((cell_far (p := ⟨gb360, _, none⟩) (by first | exact Nat.ne_of_lt (Nat.lt_of_lt_of_le (by have := World.block_lt_of_cell? _ _ hw358_0; first | rwa [add_block] at this | exact this) GW360.out) | (rw [add_block]; exact Nat.ne_of_lt (Nat.lt_of_lt_of_le (by have := World.block_lt_of_cell? _ _ hw358_0; first | rwa [add_block] at this | exact this) GW360.out)) | (show (Addr.add _ _).block ≠ _; rw [add_block]; exact Nat.ne_of_lt (Nat.lt_of_lt_of_le (by have := World.block_lt_of_cell? _ _ hw358_0; first | rwa [add_block] at this | exact this) GW360.out)) | (dsimp only; exact Nat.ne_of_lt (Nat.lt_of_lt_of_le (by have := World.block_lt_of_cell? _ _ hw358_0; first | rwa [add_block] at this | exact this) GW360.out))) _).trans (((cell_far (p := ⟨gb360, _, none⟩) (by first | exact Nat.ne_of_lt (Nat.lt_of_lt_of_le (by have := World.block_lt_of_cell? _ _ hw358_0; first | rwa [add_block] at this | exact this) GW360.out) | (rw [add_block]; exact Nat.ne_of_lt (Nat.lt_of_lt_of_le (by have := World.block_lt_of_cell? _ _ hw358_0; first | rwa [add_block] at this | exact this) GW360.out)) | (show (Addr.add _ _).block ≠ _; rw [add_block]; exact Nat.ne_of_lt (Nat.lt_of_lt_of_le (by have := World.block_lt_of_cell? _ _ hw358_0; first | rwa [add_block] at this | exact this) GW360.out)) | (dsimp only; exact Nat.ne_of_lt (Nat.lt_of_lt_of_le (by have := World.block_lt_of_cell? _ _ hw358_0; first | rwa [add_block] at this | exact this) GW360.out))) _).trans (hHeld.2.2.2.2.2.2.2.1)))))), ((cell_far (p := ⟨gb360, _, none⟩) (by first | exact Nat.ne_of_lt (Nat.lt_of_lt_of_le (by have := World.block_lt_of_cell? _ _ hw359_0; first | rwa [add_block] at this | exact this) GW360.out) | (rw [add_block]; exact Nat.ne_of_lt (Nat.lt_of_lt_of_le (by have := World.block_lt_of_cell? _ _ hw359_0; first | rwa [add_block] at this | exact this) GW360.out)) | (show (Addr.add _ _).block ≠ _; rw [add_block]; exact Nat.ne_of_lt (Nat.lt_of_lt_of_le (by have := World.block_lt_of_cell? _ _ hw359_0; first | rwa [add_block] at this | exact this) GW360.out)) | (dsimp only; exact Nat.ne_of_lt (Nat.lt_of_lt_of_le (by have := World.block_lt_of_cell? _ _ hw359_0; first | rwa [add_block] at this | exact this) GW360.out))) _).trans (((cell_far (p := ⟨gb360, _, none⟩) (by first | exact Nat.ne_of_lt (Nat.lt_of_lt_of_le (by have := World.block_lt_of_cell? _ _ hw359_0; first | rwa [add_block] at this | exact this) GW360.out) | (rw [add_block]; exact Nat.ne_of_lt (Nat.lt_of_lt_of_le (by have := World.block_lt_of_cell? _ _ hw359_0; first | rwa [add_block] at this | exact this) GW360.out)) | (show (Addr.add _ _).block ≠ _; rw [add_block]; exact Nat.ne_of_lt (Nat.lt_of_lt_of_le (by have := World.block_lt_of_cell? _ _ hw359_0; first | rwa [add_block] at this | exact this) GW360.out)) | (dsimp only; exact Nat.ne_of_lt (Nat.lt_of_lt_of_le (by have := World.block_lt_of_cell? _ _ hw359_0; first | rwa [add_block] at this | exact this) GW360.out))) _).trans (((cell_far (p := ⟨gb360, _, none⟩) (by first | exact Nat.ne_of_lt (Nat.lt_of_lt_of_le (by have := World.block_lt_of_cell? _ _ hw359_0; first | rwa [add_block] at this | exact this) GW360.out) | (rw [add_block]; exact Nat.ne_of_lt (Nat.lt_of_lt_of_le (by have := World.block_lt_of_cell? _ _ hw359_0; first | rwa [add_block] at this | exact this) GW360.out)) | (show (Addr.add _ _).block ≠ _; rw [add_block]; exact Nat.ne_of_lt (Nat.lt_of_lt_of_le (by have := World.block_lt_of_cell? _ _ hw359_0; first | rwa [add_block] at this | exact this) GW360.out)) | (dsimp only; exact Nat.ne_of_lt (Nat.lt_of_lt_of_le (by have := World.block_lt_of_cell? _ _ hw359_0; first | rwa [add_block] at this | exact this) GW360.out))) _).trans (hHeld.2.2.2.2.2.2.2.2))))))⟩ (fun hHeld => ?_)
 clear hK K
 refine done_ (done_of HT_.out (by kernel_rfl)) ?_
 try go_wp2
 go_loopg [12] k (fun kq v12 w' => ∃ (x12_1 : Int) (x361000_1 : Int) (x361001_1 : Int) (x361002_1 : Int), v12 = .int .i64 x12_1 ∧ Aside0 (sawmillref17_from.l0 kq a1 l2 l3 l4 x12_1 a0_0 a0_1 a0_2 l0_3 l0_4 l0_5 l0_6 x361000_1 x361001_1 x361002_1 = some (r1, r2, r3)) ∧ Aside0 (kq ≤ k) ∧ Aside0 (w'.heap[gb356]? = some (.cells #[.int .i64 a0_0, .int .i64 a0_1, .int .i64 a0_2, (.slice A0_3 l0_3.length c0_3), (.slice A0_4 l0_4.length c0_4), (.slice A0_5 l0_5.length c0_5), (.slice A0_6 l0_6.length c0_6)] 25 (0, 0))) ∧ Aside0 (w'.heap[gb357]? = some (.cells #[.int .i64 0, .int .i64 0, .int .i64 0] 100 (0, 0))) ∧ Aside0 (w'.heap[gb360]? = some (.cells #[.int .i64 x361000_1, .int .i64 x361001_1, .int .i64 x361002_1] 100 (0, 0))) ∧ Aside0 (Below w.heap.size w w'))
 case atStart => exact ⟨(0), (wrap64 ((rd l2 a0_0) - (rd l2 a1))), ((-1)), (0), rs1, H', ⟨Nat.le_refl _⟩, ⟨by (with_reducible repeat (first | refine blk_drewN ?_ _ | refine blk_drew ?_ | refine blk_alloc ?_ _)); refine blk_far ?_ NB356_360.out _; (with_reducible repeat (first | refine blk_drewN ?_ _ | refine blk_drew ?_ | refine blk_alloc ?_ _)); refine blk_far ?_ NB356_360.out _; (with_reducible repeat (first | refine blk_drewN ?_ _ | refine blk_drew ?_ | refine blk_alloc ?_ _)); refine blk_far ?_ NB356_360.out _; (with_reducible repeat (first | refine blk_drewN ?_ _ | refine blk_drew ?_ | refine blk_alloc ?_ _)); exact BK356.out⟩, ⟨by (with_reducible repeat (first | refine blk_drewN ?_ _ | refine blk_drew ?_ | refine blk_alloc ?_ _)); refine blk_far ?_ NB357_360.out _; (with_reducible repeat (first | refine blk_drewN ?_ _ | refine blk_drew ?_ | refine blk_alloc ?_ _)); refine blk_far ?_ NB357_360.out _; (with_reducible repeat (first | refine blk_drewN ?_ _ | refine blk_drew ?_ | refine blk_alloc ?_ _)); refine blk_far ?_ NB357_360.out _; (with_reducible repeat (first | refine blk_drewN ?_ _ | refine blk_drew ?_ | refine blk_alloc ?_ _)); exact BK357.out⟩, ⟨by (with_reducible repeat (first | refine blk_drewN ?_ _ | refine blk_drew ?_ | refine blk_alloc ?_ _)); refine blk_put (cs := #[.int .i64 (wrap64 ((rd l2 a0_0) - (rd l2 a1))), .int .i64 (-1), .int .i64 0]) ?_ 2 _ rfl; (with_reducible repeat (first | refine blk_drewN ?_ _ | refine blk_drew ?_ | refine blk_alloc ?_ _)); refine blk_put (cs := #[.int .i64 (wrap64 ((rd l2 a0_0) - (rd l2 a1))), .int .i64 0, .int .i64 0]) ?_ 1 _ rfl; (with_reducible repeat (first | refine blk_drewN ?_ _ | refine blk_drew ?_ | refine blk_alloc ?_ _)); refine blk_put (cs := #[.int .i64 0, .int .i64 0, .int .i64 0]) ?_ 0 _ rfl; (with_reducible repeat (first | refine blk_drewN ?_ _ | refine blk_drew ?_ | refine blk_alloc ?_ _)); exact BK360.out⟩, ⟨bl⟩⟩
 clear H'; (try clear c2); (try clear p2); (try clear c3); (try clear p3); (try clear q3); (try clear hx3); (try clear c4); (try clear c5); (try clear c6); (try clear c6b0); (try clear p6); (try clear c7); (try clear c7b0); (try clear c8); (try clear c8b0); (try clear c9); (try clear c9b0); (try clear hx358_0); (try clear hx359_0); (try clear p358); (try clear p359); (try clear q358); (try clear q359)
 obtain ⟨x12_1, x361000_1, x361001_1, x361002_1, rfl, HA, HK1, BK356, BK357, BK360, HB⟩ := hrel
 rcases gk with _ | k1
 · exact absurd HA.out (by simp [sawmillref17_from.l0])
 have H := HA.out
 clear HA
 simp only [sawmillref17_from.l0] at H
 by_cases c17 : (wrap64 (a1 + x12_1)) ≤ a0_0
 rotate_left
 · rw [if_neg c17] at H
   have c17b0 : decide ((wrap64 (a1 + x12_1)) ≤ a0_0) = false := decide_eq_false c17
   clear c17
   simp only [Option.some.injEq, Prod.mk.injEq] at H
   obtain ⟨rfl, rfl, rfl⟩ := H
   have hnb84 := NB356_357.out
   have hnc84 := NB357_356.out
   have hnb85 := NB356_360.out
   have hnc85 := NB360_356.out
   have hcz86 := blk_cells BK356.out
   have hfz86 := blk_frozens BK356.out
   have hnb87 := NB360_357.out
   have hnc87 := NB357_360.out
   have hcz88 := blk_cells BK360.out
   have hfz88 := blk_frozens BK360.out
   have hcz89 := blk_cells BK357.out
   have hfz89 := blk_frozens BK357.out
   exact L58_0
 rw [if_pos c17] at H
 have c17b0 : decide ((wrap64 (a1 + x12_1)) ≤ a0_0) = true := decide_eq_true c17
 clear c17
 have HC18 := Aside0.mk H
 clear H
 have hnb19 := NB356_357.out
 have hnc19 := NB357_356.out
 have hnb20 := NB356_360.out
 have hnc20 := NB360_356.out
 have hcz21 := blk_cells BK356.out
 have hfz21 := blk_frozens BK356.out
 go_upto_if 42 with (fail)
 go_cut [13, 14] (fun v13 v14 wc => ∃ (kq : Nat) (x13_17 : Int) (x14_17 : Int), v13 = .int .i64 x13_17 ∧ v14 = .int .i64 x14_17 ∧ Aside0 (sawmillref17_from.j1 kq a1 l2 l3 l4 x12_1 x13_17 x14_17 a0_0 a0_1 a0_2 l0_3 l0_4 l0_5 l0_6 x361000_1 x361001_1 x361002_1 = some (r1, r2, r3)) ∧ Aside0 (kq ≤ k1) ∧ Aside0 (wc.heap[gb356]? = some (.cells #[.int .i64 a0_0, .int .i64 a0_1, .int .i64 a0_2, (.slice A0_3 l0_3.length c0_3), (.slice A0_4 l0_4.length c0_4), (.slice A0_5 l0_5.length c0_5), (.slice A0_6 l0_6.length c0_6)] 25 (0, 0))) ∧ Aside0 (wc.heap[gb357]? = some (.cells #[.int .i64 0, .int .i64 0, .int .i64 0] 100 (0, 0))) ∧ Aside0 (wc.heap[gb360]? = some (.cells #[.int .i64 x361000_1, .int .i64 x361001_1, .int .i64 x361002_1] 100 (0, 0))) ∧ Aside0 (Below w.heap.size w wc))
 case first =>
  have H := HC18.out
  clear HC18
  by_cases c22 : x12_1 > 0
  rotate_left
  · rw [if_neg c22] at H
    have c22b0 : decide (0 < x12_1) = false := decide_eq_false c22
    clear c22
    (first | rw [c22b0] | (simp only [i64_w, i32_w]; rw [c22b0]) | skip)
    have H' := Aside0.mk H
    clear H
    go_wp2
    go_meet
    case rel => exact ⟨_, (a1), (0), rs1, rs1, H', ⟨by have := HK1.out; first | omega | exact Nat.le_refl _⟩, ⟨bu BK356.out⟩, ⟨bu BK357.out⟩, ⟨bu BK360.out⟩, ⟨bl⟩⟩
  rw [if_pos c22] at H
  have c22b0 : decide (0 < x12_1) = true := decide_eq_true c22
  clear c22
  (first | rw [c22b0] | (simp only [i64_w, i32_w]; rw [c22b0]) | skip)
  by_cases c23 : (wrap64 ((wrap64 (a1 + x12_1)) + a0_1)) > a0_0
  · rw [if_pos c23] at H
    have c23b0 : decide (a0_0 < (wrap64 ((wrap64 (a1 + x12_1)) + a0_1))) = true := decide_eq_true c23
    clear c23
    simp only [Option.some.injEq, Prod.mk.injEq] at H
    obtain ⟨rfl, rfl, rfl⟩ := H
    have hnb24 := NB356_357.out
    have hnc24 := NB357_356.out
    have hnb25 := NB356_360.out
    have hnc25 := NB360_356.out
    have hcz26 := blk_cells BK356.out
    have hfz26 := blk_frozens BK356.out
    have hnb27 := NB360_357.out
    have hnc27 := NB357_360.out
    have hcz28 := blk_cells BK360.out
    have hfz28 := blk_frozens BK360.out
    have hcz29 := blk_cells BK357.out
    have hfz29 := blk_frozens BK357.out
    exact L58_0
  rw [if_neg c23] at H
  have c23b0 : decide (a0_0 < (wrap64 ((wrap64 (a1 + x12_1)) + a0_1))) = false := decide_eq_false c23
  clear c23
  obtain ⟨ji30, hji30⟩ : ∃ j_ : Int, (wrap64 (a1 + x12_1)) = j_ := ⟨_, rfl⟩
  replace H : (if 0 ≤ (ji30) then (if (ji30) < (l2.length : Int) then (if 0 ≤ a1 then (if a1 < (l2.length : Int) then (if 0 ≤ (wrap64 ((ji30) + a0_1)) then (if (wrap64 ((ji30) + a0_1)) < (l3.length : Int) then (if (ji30) < (l3.length : Int) then (sawmillref17_from.j1 k1 a1 l2 l3 l4 x12_1 (wrap64 ((ji30) + a0_1)) (wrap64 ((wrap64 ((wrap64 ((rd l2 (ji30)) - (rd l2 a1))) + (rd l3 (wrap64 ((ji30) + a0_1))))) - (rd l3 (ji30)))) a0_0 a0_1 a0_2 l0_3 l0_4 l0_5 l0_6 x361000_1 x361001_1 x361002_1) else (none)) else (none)) else (none)) else (none)) else (none)) else (none)) else (none)) = some (r1, r2, r3) := by first | (rw [hji30] at H; exact H) | (simp only [hji30] at H ⊢; exact H)
  (try rw [hji30] at c17b0)
  (try rw [hji30] at c23b0)
  have hji30w : (IntKind.i64.wrap (a1 + x12_1)) = ji30 := (i64_w _).trans hji30
  obtain ⟨c31, H⟩ := gd1 H
  have c31b0 : decide (0 ≤ (ji30)) = true := decide_eq_true c31
  clear c31
  obtain ⟨c32, H⟩ := gd1 H
  have c32b0 : decide ((ji30) < (l2.length : Int)) = true := decide_eq_true c32
  clear c32
  obtain ⟨c33, H⟩ := gd1 H
  have c33b0 : decide (0 ≤ a1) = true := decide_eq_true c33
  clear c33
  obtain ⟨c34, H⟩ := gd1 H
  have c34b0 : decide (a1 < (l2.length : Int)) = true := decide_eq_true c34
  clear c34
  obtain ⟨ji35, hji35⟩ : ∃ j_ : Int, (wrap64 ((ji30) + a0_1)) = j_ := ⟨_, rfl⟩
  replace H : (if 0 ≤ (ji35) then (if (ji35) < (l3.length : Int) then (if (ji30) < (l3.length : Int) then (sawmillref17_from.j1 k1 a1 l2 l3 l4 x12_1 ji35 (wrap64 ((wrap64 ((wrap64 ((rd l2 (ji30)) - (rd l2 a1))) + (rd l3 (ji35)))) - (rd l3 (ji30)))) a0_0 a0_1 a0_2 l0_3 l0_4 l0_5 l0_6 x361000_1 x361001_1 x361002_1) else (none)) else (none)) else (none)) = some (r1, r2, r3) := by first | (rw [hji35] at H; exact H) | (simp only [hji35] at H ⊢; exact H)
  have hji35w : (IntKind.i64.wrap ((ji30) + a0_1)) = ji35 := (i64_w _).trans hji35
  rw [hji35] at c23b0
  obtain ⟨c36, H⟩ := gd1 H
  have c36b0 : decide (0 ≤ (ji35)) = true := decide_eq_true c36
  clear c36
  obtain ⟨c37, H⟩ := gd1 H
  have c37b0 : decide ((ji35) < (l3.length : Int)) = true := decide_eq_true c37
  clear c37
  obtain ⟨c38, H⟩ := gd1 H
  have c38b0 : decide ((ji30) < (l3.length : Int)) = true := decide_eq_true c38
  clear c38
  have H' := Aside0.mk H
  clear H
  have hnb39 := NB356_357.out
  have hnc39 := NB357_356.out
  have hnb40 := NB356_360.out
  have hnc40 := NB360_356.out
  have hcz41 := blk_cells BK356.out
  have hfz41 := blk_frozens BK356.out
  try go_wp2
  have n0_ := Aside0.mk (blk_drew BK356.out)
  have n1_ := Aside0.mk (blk_drew BK357.out)
  have n2_ := Aside0.mk (blk_drew BK360.out)
  have n3_ := Aside0.mk (below_drew1 HB.out)
  clear BK356; clear BK357; clear BK360; clear HB
  have BK356 := n0_
  have BK357 := n1_
  have BK360 := n2_
  have HB := n3_
  clear n0_ n1_ n2_ n3_
  have p361 : 0 ≤ ((ji30) : Int) := da1
  have q361 : (ji30) < (l2.length : Int) := da1
  obtain ⟨ad361, e361, hx361_0⟩ := Kd.at_int HR2.out (ji30) p361 q361
  have hw361_0 := hx361_0
  obtain rfl : ad358 = ad361 := (by injection e361)
  (try replace hx361_0 := (HB.out.cell (World.block_lt_of_cell? w _ hx361_0)).trans hx361_0)
  replace p361 := eq_true p361
  replace q361 := eq_true q361
  have p362 : 0 ≤ (a1 : Int) := da1
  have q362 : a1 < (l2.length : Int) := da1
  obtain ⟨ad362, e362, hx362_0⟩ := Kd.at_int HR2.out a1 p362 q362
  have hw362_0 := hx362_0
  obtain rfl : ad358 = ad362 := (by injection e362)
  (try replace hx362_0 := (HB.out.cell (World.block_lt_of_cell? w _ hx362_0)).trans hx362_0)
  replace p362 := eq_true p362
  replace q362 := eq_true q362
  have p363 : 0 ≤ ((ji35) : Int) := da1
  have q363 : (ji35) < (l3.length : Int) := da1
  obtain ⟨ad363, e363, hx363_0⟩ := Kd.at_int HR3.out (ji35) p363 q363
  have hw363_0 := hx363_0
  cases e363
  (try replace hx363_0 := (HB.out.cell (World.block_lt_of_cell? w _ hx363_0)).trans hx363_0)
  replace p363 := eq_true p363
  replace q363 := eq_true q363
  have p364 : 0 ≤ ((ji30) : Int) := da1
  have q364 : (ji30) < (l3.length : Int) := da1
  obtain ⟨ad364, e364, hx364_0⟩ := Kd.at_int HR3.out (ji30) p364 q364
  have hw364_0 := hx364_0
  obtain rfl : ad363 = ad364 := (by injection e364)
  (try replace hx364_0 := (HB.out.cell (World.block_lt_of_cell? w _ hx364_0)).trans hx364_0)
  replace p364 := eq_true p364
  replace q364 := eq_true q364
  refine start_ (n := 24) (S := fun w' => w'.cell? (ad358.add ((ji30)).toNat) = some (.int .i64 (rd l2 (ji30))) ∧ w'.cell? (ad358.add (a1).toNat) = some (.int .i64 (rd l2 a1)) ∧ w'.cell? (ad363.add ((ji35)).toNat) = some (.int .i64 (rd l3 (ji35))) ∧ w'.cell? (ad363.add ((ji30)).toNat) = some (.int .i64 (rd l3 (ji30)))) (ds := []) #[false, false, false, false, false, false, false, false, false, false, false, false, false, false, false, false, false, false, false, false, false, false, false, false] (by kernel_rfl) rfl rfl ⟨((HB.out.cell (World.block_lt_of_cell? w _ hw361_0)).trans hw361_0), ((HB.out.cell (World.block_lt_of_cell? w _ hw362_0)).trans hw362_0), ((HB.out.cell (World.block_lt_of_cell? w _ hw363_0)).trans hw363_0), ((HB.out.cell (World.block_lt_of_cell? w _ hw364_0)).trans hw364_0)⟩ (fun hHeld => ?_); refine with_tabW sawmillref17_from.tab9 sawmillref17_from.bits9 (fun HT_ HW_ => ?_)
  generalize wr.drew = w42 at BK356 BK357 BK360 HB hx361_0 hx362_0 hx363_0 hx364_0 hHeld ⊢
  refine pu1 0 (some 53) #[true, false, false, false, false, false, false, false, false, false, false, false, false, false, false, false, false, false, false, false, false, false, false, false] ?_
  refine pu1 1 (some 54) #[true, true, false, false, false, false, false, false, false, false, false, false, false, false, false, false, false, false, false, false, false, false, false, false] ?_
  refine pu1 2 (some 55) #[true, true, true, false, false, false, false, false, false, false, false, false, false, false, false, false, false, false, false, false, false, false, false, false] ?_
  refine pu1 3 (some 56) #[true, true, true, true, false, false, false, false, false, false, false, false, false, false, false, false, false, false, false, false, false, false, false, false] ?_
  refine pu1 4 (some 57) #[true, true, true, true, true, false, false, false, false, false, false, false, false, false, false, false, false, false, false, false, false, false, false, false] ?_
  refine pu1 6 (some 59) #[true, true, true, true, true, false, true, false, false, false, false, false, false, false, false, false, false, false, false, false, false, false, false, false] ?_
  refine pu1 7 (some 60) #[true, true, true, true, true, false, true, true, false, false, false, false, false, false, false, false, false, false, false, false, false, false, false, false] ?_
  refine pu1 8 (some 61) #[true, true, true, true, true, false, true, true, true, false, false, false, false, false, false, false, false, false, false, false, false, false, false, false] ?_
  refine pu1 11 (some 64) #[true, true, true, true, true, false, true, true, true, false, false, true, false, false, false, false, false, false, false, false, false, false, false, false] ?_
  refine pu1 12 (some 65) #[true, true, true, true, true, false, true, true, true, false, false, true, true, false, false, false, false, false, false, false, false, false, false, false] ?_
  refine pu1 13 (some 66) #[true, true, true, true, true, false, true, true, true, false, false, true, true, true, false, false, false, false, false, false, false, false, false, false] ?_
  refine pu1 16 (some 69) #[true, true, true, true, true, false, true, true, true, false, false, true, true, true, false, false, true, false, false, false, false, false, false, false] ?_
  refine pu1 17 (some 70) #[true, true, true, true, true, false, true, true, true, false, false, true, true, true, false, false, true, true, false, false, false, false, false, false] ?_
  refine pu1 18 (some 71) #[true, true, true, true, true, false, true, true, true, false, false, true, true, true, false, false, true, true, true, false, false, false, false, false] ?_
  refine pu1 19 (some 72) #[true, true, true, true, true, false, true, true, true, false, false, true, true, true, false, false, true, true, true, true, false, false, false, false] ?_
  refine pu1 20 (some 73) #[true, true, true, true, true, false, true, true, true, false, false, true, true, true, false, false, true, true, true, true, true, false, false, false] ?_
  refine ta1 5 (some 58) #[true, true, true, true, true, true, true, true, true, false, false, true, true, true, false, false, true, true, true, true, true, false, false, false] ?_
  refine ta1 9 (some 62) #[true, true, true, true, true, true, true, true, true, true, false, true, true, true, false, false, true, true, true, true, true, false, false, false] ?_
  refine pu1 10 (some 63) #[true, true, true, true, true, true, true, true, true, true, true, true, true, true, false, false, true, true, true, true, true, false, false, false] ?_
  refine ta1 14 (some 67) #[true, true, true, true, true, true, true, true, true, true, true, true, true, true, true, false, true, true, true, true, true, false, false, false] ?_
  refine pu1 15 (some 68) #[true, true, true, true, true, true, true, true, true, true, true, true, true, true, true, true, true, true, true, true, true, false, false, false] ?_
  refine ta1 21 (some 74) #[true, true, true, true, true, true, true, true, true, true, true, true, true, true, true, true, true, true, true, true, true, true, false, false] ?_
  refine pu1 22 (some 75) #[true, true, true, true, true, true, true, true, true, true, true, true, true, true, true, true, true, true, true, true, true, true, true, false] ?_
  refine pu1 23 (some 14) #[true, true, true, true, true, true, true, true, true, true, true, true, true, true, true, true, true, true, true, true, true, true, true, true] ?_
  refine done_ (done_of HT_.out (by kernel_rfl)) ?_
  try go_wp2
  go_meet
  case rel => exact ⟨_, (ji35), (wrap64 ((wrap64 ((wrap64 ((rd l2 (ji30)) - (rd l2 a1))) + (rd l3 (ji35)))) - (rd l3 (ji30)))), (by first | rfl | (simp; done) | (simp only [← hji35] <;> (first | rfl | simp)) | (simp [*]; done)), (by first | rfl | (simp; done) | (simp only [← hji30, ← hji35] <;> (first | rfl | simp)) | (simp [*]; done)), H', ⟨by have := HK1.out; first | omega | exact Nat.le_refl _⟩, ⟨bu BK356.out⟩, ⟨bu BK357.out⟩, ⟨bu BK360.out⟩, ⟨bl⟩⟩
 clear HC18; (try clear c1); (try clear c2); (try clear p2); (try clear c3); (try clear p3); (try clear q3); (try clear hx3); (try clear c4); (try clear c5); (try clear c6); (try clear c6b0); (try clear p6); (try clear c7); (try clear c7b0); (try clear c8); (try clear c8b0); (try clear c9); (try clear c9b0); (try clear c17); (try clear c17b0); (try clear c19); (try clear c20); (try clear c22); (try clear c22b0); (try clear c23); (try clear c23b0); (try clear c24); (try clear c25); (try clear c27); (try clear c31); (try clear c31b0); (try clear c32); (try clear c32b0); (try clear c33); (try clear c33b0); (try clear c34); (try clear c34b0); (try clear p35); (try clear q35); (try clear hx35); (try clear c36); (try clear c36b0); (try clear p36); (try clear q36); (try clear hx36); (try clear c37); (try clear c37b0); (try clear c38); (try clear c38b0); (try clear c39); (try clear c40); (try clear hcz21); (try clear hcz26); (try clear hcz28); (try clear hcz29); (try clear hcz41); (try clear hfz21); (try clear hfz26); (try clear hfz28); (try clear hfz29); (try clear hfz41); (try clear hx358_0); (try clear hx359_0); (try clear hx361_0); (try clear hx362_0); (try clear hx363_0); (try clear hx364_0); (try clear p2); (try clear p3); (try clear p358); (try clear p359); (try clear p361); (try clear p362); (try clear p363); (try clear p364); (try clear p6); (try clear q3); (try clear q358); (try clear q359); (try clear q361); (try clear q362); (try clear q363); (try clear q364)
 obtain ⟨kq, x13_17, x14_17, rfl, rfl, HA, HJ17, BK356, BK357, BK360, HB⟩ := hcut
 rcases kq with _ | kj17
 · exact absurd HA.out (by simp [sawmillref17_from.j1])
 have H := HA.out
 clear HA
 simp only [sawmillref17_from.j1] at H
 have H' := Aside0.mk H
 clear H
 go_wp2
 go_loopg [15] kj17 (fun kq v15 w' => ∃ (x15_3 : Int) (x361000_3 : Int) (x361001_3 : Int) (x361002_3 : Int), v15 = .int .i64 x15_3 ∧ Aside0 (sawmillref17_from.l1 kq a1 l2 l3 l4 x12_1 x13_17 x14_17 x15_3 a0_0 a0_1 a0_2 l0_3 l0_4 l0_5 l0_6 x361000_3 x361001_3 x361002_3 = some (r1, r2, r3)) ∧ Aside0 (kq ≤ kj17) ∧ Aside0 (w'.heap[gb356]? = some (.cells #[.int .i64 a0_0, .int .i64 a0_1, .int .i64 a0_2, (.slice A0_3 l0_3.length c0_3), (.slice A0_4 l0_4.length c0_4), (.slice A0_5 l0_5.length c0_5), (.slice A0_6 l0_6.length c0_6)] 25 (0, 0))) ∧ Aside0 (w'.heap[gb357]? = some (.cells #[.int .i64 0, .int .i64 0, .int .i64 0] 100 (0, 0))) ∧ Aside0 (w'.heap[gb360]? = some (.cells #[.int .i64 x361000_3, .int .i64 x361001_3, .int .i64 x361002_3] 100 (0, 0))) ∧ Aside0 (Below w.heap.size w w'))
 case atStart => exact ⟨(0), (x361000_1), (x361001_1), (x361002_1), rs1, H', ⟨Nat.le_refl _⟩, ⟨bu BK356.out⟩, ⟨bu BK357.out⟩, ⟨bu BK360.out⟩, ⟨bl⟩⟩
 clear H'; (try clear c1); (try clear c2); (try clear p2); (try clear c3); (try clear p3); (try clear q3); (try clear hx3); (try clear c4); (try clear c5); (try clear c6); (try clear c6b0); (try clear p6); (try clear c7); (try clear c7b0); (try clear c8); (try clear c8b0); (try clear c9); (try clear c9b0); (try clear c17); (try clear c17b0); (try clear c19); (try clear c20); (try clear c22); (try clear c22b0); (try clear c23); (try clear c23b0); (try clear c24); (try clear c25); (try clear c27); (try clear c31); (try clear c31b0); (try clear c32); (try clear c32b0); (try clear c33); (try clear c33b0); (try clear c34); (try clear c34b0); (try clear p35); (try clear q35); (try clear hx35); (try clear c36); (try clear c36b0); (try clear p36); (try clear q36); (try clear hx36); (try clear c37); (try clear c37b0); (try clear c38); (try clear c38b0); (try clear c39); (try clear c40); (try clear hcz21); (try clear hcz26); (try clear hcz28); (try clear hcz29); (try clear hcz41); (try clear hfz21); (try clear hfz26); (try clear hfz28); (try clear hfz29); (try clear hfz41); (try clear hx358_0); (try clear hx359_0); (try clear hx361_0); (try clear hx362_0); (try clear hx363_0); (try clear hx364_0); (try clear p2); (try clear p3); (try clear p35); (try clear p358); (try clear p359); (try clear p36); (try clear p361); (try clear p362); (try clear p363); (try clear p364); (try clear p6); (try clear q3); (try clear q35); (try clear q358); (try clear q359); (try clear q36); (try clear q361); (try clear q362); (try clear q363); (try clear q364)
 obtain ⟨x15_3, x361000_3, x361001_3, x361002_3, rfl, HA, HK3, BK356, BK357, BK360, HB⟩ := hrel
 rcases gk with _ | k3
 · exact absurd HA.out (by simp [sawmillref17_from.l1])
 have H := HA.out
 clear HA
 simp only [sawmillref17_from.l1] at H
 by_cases c43 : x15_3 < (l0_3.length : Int)
 rotate_left
 · rw [if_neg c43] at H
   have c43b0 : decide (x15_3 < (l0_3.length : Int)) = false := decide_eq_false c43
   clear c43
   have H' := Aside0.mk H
   clear H
   have hnb81 := NB356_357.out
   have hnc81 := NB357_356.out
   have hnb82 := NB356_360.out
   have hnc82 := NB360_356.out
   have hcz83 := blk_cells BK356.out
   have hfz83 := blk_frozens BK356.out
   go_wp2
   go_roundg k3
   case measure => have := HK1.out; have := HJ17.out; have := HK3.out; omega
   case rel => exact ⟨(wrap64 (x12_1 + a0_2)), (x361000_3), (x361001_3), (x361002_3), rs1, H', ⟨by have := HK1.out; have := HJ17.out; have := HK3.out; omega⟩, ⟨bu BK356.out⟩, ⟨bu BK357.out⟩, ⟨bu BK360.out⟩, ⟨bl⟩⟩
 rw [if_pos c43] at H
 have c43b0 : decide (x15_3 < (l0_3.length : Int)) = true := decide_eq_true c43
 clear c43
 have HC44 := Aside0.mk H
 clear H
 have hnb45 := NB356_357.out
 have hnc45 := NB357_356.out
 have hnb46 := NB356_360.out
 have hnc46 := NB360_356.out
 have hcz47 := blk_cells BK356.out
 have hfz47 := blk_frozens BK356.out
 go_upto_region 13 with (fail)
 go_cut [103] (fun v103 wc => ∃ (kq : Nat) (x103_43 : Bool), v103 = .bool x103_43 ∧ Aside0 (sawmillref17_from.j3 kq a1 l2 l3 l4 x12_1 x13_17 x14_17 x15_3 x103_43 a0_0 a0_1 a0_2 l0_3 l0_4 l0_5 l0_6 x361000_3 x361001_3 x361002_3 = some (r1, r2, r3)) ∧ Aside0 (kq ≤ k3) ∧ Aside0 (wc.heap[gb356]? = some (.cells #[.int .i64 a0_0, .int .i64 a0_1, .int .i64 a0_2, (.slice A0_3 l0_3.length c0_3), (.slice A0_4 l0_4.length c0_4), (.slice A0_5 l0_5.length c0_5), (.slice A0_6 l0_6.length c0_6)] 25 (0, 0))) ∧ Aside0 (wc.heap[gb357]? = some (.cells #[.int .i64 0, .int .i64 0, .int .i64 0] 100 (0, 0))) ∧ Aside0 (wc.heap[gb360]? = some (.cells #[.int .i64 x361000_3, .int .i64 x361001_3, .int .i64 x361002_3] 100 (0, 0))) ∧ Aside0 (Below w.heap.size w wc))
 case first =>
  have H := HC44.out
  clear HC44
  obtain ⟨c48, H⟩ := gd1 H
  have c48b0 : decide (0 ≤ x15_3) = true := decide_eq_true c48
  clear c48
  (first | rw [c48b0] | (simp only [i64_w, i32_w]; rw [c48b0]) | skip)
  by_cases c49 : x13_17 > (wrap64 (a0_0 - (rd l0_3 x15_3)))
  rotate_left
  · rw [if_neg c49] at H
    have c49b0 : decide ((wrap64 (a0_0 - (rd l0_3 x15_3))) < x13_17) = false := decide_eq_false c49
    clear c49
    obtain ⟨c51, H⟩ := gd1 H
    have c51b0 : decide (x15_3 < (l0_4.length : Int)) = true := decide_eq_true c51
    clear c51
    obtain ⟨c52, H⟩ := gd1 H
    have c52b0 : decide (0 ≤ x13_17) = true := decide_eq_true c52
    clear c52
    obtain ⟨c53, H⟩ := gd1 H
    have c53b0 : decide (x13_17 < ((rd_L1 l0_4 x15_3).length : Int)) = true := decide_eq_true c53
    clear c53
    have H' := Aside0.mk H
    clear H
    try go_wp2
    have n0_ := Aside0.mk (blk_drew BK356.out)
    have n1_ := Aside0.mk (blk_drew BK357.out)
    have n2_ := Aside0.mk (blk_drew BK360.out)
    have n3_ := Aside0.mk (below_drew1 HB.out)
    clear BK356; clear BK357; clear BK360; clear HB
    have BK356 := n0_
    have BK357 := n1_
    have BK360 := n2_
    have HB := n3_
    clear n0_ n1_ n2_ n3_
    have p365 : 0 ≤ (x15_3 : Int) := da1
    have q365 : x15_3 < (l0_3.length : Int) := da1
    obtain ⟨ad365, e365, hx365_0⟩ := Kd.at_int HR0_3.out x15_3 p365 q365
    have hw365_0 := hx365_0
    cases e365
    (try replace hx365_0 := (HB.out.cell (World.block_lt_of_cell? w _ hx365_0)).trans hx365_0)
    replace p365 := eq_true p365
    replace q365 := eq_true q365
    have p366 : 0 ≤ (x15_3 : Int) := da1
    have q366 : x15_3 < (l0_4.length : Int) := da1
    obtain ⟨ad366, A366_0, c366_0, e366, hx366_0, hl366_0, hi366_0⟩ := at_L1 HR0_4.out x15_3 p366 q366
    have hw366_0 := hx366_0
    cases e366
    (try replace hx366_0 := (HB.out.cell (World.block_lt_of_cell? w _ hx366_0)).trans hx366_0)
    have HR366_0 := Aside0.mk hi366_0
    have HC366_0 := Aside0.mk hl366_0
    clear hi366_0 hl366_0
    replace p366 := eq_true p366
    replace q366 := eq_true q366
    have p367 : 0 ≤ (x13_17 : Int) := da1
    have q367 : x13_17 < ((rd_L1 l0_4 x15_3).length : Int) := da1
    obtain ⟨ad367, e367, hx367_0⟩ := Kd.at_int HR366_0.out x13_17 p367 q367
    have hw367_0 := hx367_0
    cases e367
    (try replace hx367_0 := (HB.out.cell (World.block_lt_of_cell? w _ hx367_0)).trans hx367_0)
    replace p367 := eq_true p367
    replace q367 := eq_true q367
    refine start_ (n := 21) (S := fun w' => w'.cell? ⟨gb356, 0, none⟩ = some (.int .i64 a0_0) ∧ w'.cell? ⟨gb356, 1, none⟩ = some (.int .i64 a0_1) ∧ w'.cell? ⟨gb356, 2, none⟩ = some (.int .i64 a0_2) ∧ w'.cell? ⟨gb356, 3, none⟩ = some (.slice (some ad365) l0_3.length c0_3) ∧ w'.cell? ⟨gb356, 4, none⟩ = some (.slice (some ad366) l0_4.length c0_4) ∧ w'.cell? ⟨gb356, 5, none⟩ = some (.slice A0_5 l0_5.length c0_5) ∧ w'.cell? ⟨gb356, 6, none⟩ = some (.slice A0_6 l0_6.length c0_6) ∧ w'.cell? (ad365.add (x15_3).toNat) = some (.int .i64 (rd l0_3 x15_3)) ∧ w'.cell? (ad366.add (x15_3).toNat) = some (.slice (some ad367) (rd_L1 l0_4 x15_3).length c366_0) ∧ w'.cell? (ad367.add (x13_17).toNat) = some (.int .i64 (rd (rd_L1 l0_4 x15_3) x13_17))) (ds := []) #[false, false, false, false, false, false, false, false, false, false, false, false, false, false, false, false, false, false, false, false, false] (by kernel_rfl) rfl rfl ⟨(blk_cell BK356.out 0).trans rfl, (blk_cell BK356.out 1).trans rfl, (blk_cell BK356.out 2).trans rfl, (blk_cell BK356.out 3).trans rfl, (blk_cell BK356.out 4).trans rfl, (blk_cell BK356.out 5).trans rfl, (blk_cell BK356.out 6).trans rfl, ((HB.out.cell (World.block_lt_of_cell? w _ hw365_0)).trans hw365_0), ((HB.out.cell (World.block_lt_of_cell? w _ hw366_0)).trans hw366_0), ((HB.out.cell (World.block_lt_of_cell? w _ hw367_0)).trans hw367_0)⟩ (fun hHeld => ?_); refine with_tabW sawmillref17_from.tab13 sawmillref17_from.bits13 (fun HT_ HW_ => ?_)
    generalize wr.drew = w54 at BK356 BK357 BK360 HB HR366_0 hx365_0 hx366_0 hx367_0 hHeld ⊢
    refine pu1 0 (some 83) #[true, false, false, false, false, false, false, false, false, false, false, false, false, false, false, false, false, false, false, false, false] ?_
    refine pu1 1 (some 84) #[true, true, false, false, false, false, false, false, false, false, false, false, false, false, false, false, false, false, false, false, false] ?_
    refine pu1 3 (some 86) #[true, true, false, true, false, false, false, false, false, false, false, false, false, false, false, false, false, false, false, false, false] ?_
    refine pu1 5 (some 88) #[true, true, false, true, false, true, false, false, false, false, false, false, false, false, false, false, false, false, false, false, false] ?_
    refine ta1 2 (some 85) #[true, true, true, true, false, true, false, false, false, false, false, false, false, false, false, false, false, false, false, false, false] ?_
    refine ta1 4 (some 87) #[true, true, true, true, true, true, false, false, false, false, false, false, false, false, false, false, false, false, false, false, false] ?_
    refine pu1 6 (some 89) #[true, true, true, true, true, true, true, false, false, false, false, false, false, false, false, false, false, false, false, false, false] ?_
    refine ta1 7 (some 90) #[true, true, true, true, true, true, true, true, false, false, false, false, false, false, false, false, false, false, false, false, false] ?_
    refine pu1 8 (some 91) #[true, true, true, true, true, true, true, true, true, false, false, false, false, false, false, false, false, false, false, false, false] ?_
    refine pu1 9 (some 92) #[true, true, true, true, true, true, true, true, true, true, false, false, false, false, false, false, false, false, false, false, false] ?_
    refine pu1 10 (some 93) #[true, true, true, true, true, true, true, true, true, true, true, false, false, false, false, false, false, false, false, false, false] ?_
    refine pu1 11 (some 94) #[true, true, true, true, true, true, true, true, true, true, true, true, false, false, false, false, false, false, false, false, false] ?_
    refine pu1 13 (some 96) #[true, true, true, true, true, true, true, true, true, true, true, true, false, true, false, false, false, false, false, false, false] ?_
    refine pu1 16 (some 99) #[true, true, true, true, true, true, true, true, true, true, true, true, false, true, false, false, true, false, false, false, false] ?_
    refine ta1 12 (some 95) #[true, true, true, true, true, true, true, true, true, true, true, true, true, true, false, false, true, false, false, false, false] ?_
    refine pu1 14 (some 97) #[true, true, true, true, true, true, true, true, true, true, true, true, true, true, true, false, true, false, false, false, false] ?_
    refine ta1 15 (some 98) #[true, true, true, true, true, true, true, true, true, true, true, true, true, true, true, true, true, false, false, false, false] ?_
    refine pu1 17 (some 100) #[true, true, true, true, true, true, true, true, true, true, true, true, true, true, true, true, true, true, false, false, false] ?_
    refine ta1 18 (some 101) #[true, true, true, true, true, true, true, true, true, true, true, true, true, true, true, true, true, true, true, false, false] ?_
    refine pu1 19 (some 102) #[true, true, true, true, true, true, true, true, true, true, true, true, true, true, true, true, true, true, true, true, false] ?_
    refine pu1 20 (some 103) #[true, true, true, true, true, true, true, true, true, true, true, true, true, true, true, true, true, true, true, true, true] ?_
    refine done_ (done_of HT_.out (by kernel_rfl)) ?_
    try go_wp2
    go_meet
    case rel => exact ⟨_, (decide ((rd (rd_L1 l0_4 x15_3) x13_17) < 0)), rs1, H', ⟨by have := HK1.out; have := HJ17.out; have := HK3.out; first | omega | exact Nat.le_refl _⟩, ⟨bu BK356.out⟩, ⟨bu BK357.out⟩, ⟨bu BK360.out⟩, ⟨bl⟩⟩
  rw [if_pos c49] at H
  have c49b0 : decide ((wrap64 (a0_0 - (rd l0_3 x15_3))) < x13_17) = true := decide_eq_true c49
  clear c49
  have H' := Aside0.mk H
  clear H
  try go_wp2
  have n0_ := Aside0.mk (blk_drew BK356.out)
  have n1_ := Aside0.mk (blk_drew BK357.out)
  have n2_ := Aside0.mk (blk_drew BK360.out)
  have n3_ := Aside0.mk (below_drew1 HB.out)
  clear BK356; clear BK357; clear BK360; clear HB
  have BK356 := n0_
  have BK357 := n1_
  have BK360 := n2_
  have HB := n3_
  clear n0_ n1_ n2_ n3_
  have p365 : 0 ≤ (x15_3 : Int) := da1
  have q365 : x15_3 < (l0_3.length : Int) := da1
  obtain ⟨ad365, e365, hx365_0⟩ := Kd.at_int HR0_3.out x15_3 p365 q365
  have hw365_0 := hx365_0
  cases e365
  (try replace hx365_0 := (HB.out.cell (World.block_lt_of_cell? w _ hx365_0)).trans hx365_0)
  replace p365 := eq_true p365
  replace q365 := eq_true q365
  refine start_ (n := 21) (S := fun w' => w'.cell? ⟨gb356, 0, none⟩ = some (.int .i64 a0_0) ∧ w'.cell? ⟨gb356, 1, none⟩ = some (.int .i64 a0_1) ∧ w'.cell? ⟨gb356, 2, none⟩ = some (.int .i64 a0_2) ∧ w'.cell? ⟨gb356, 3, none⟩ = some (.slice (some ad365) l0_3.length c0_3) ∧ w'.cell? ⟨gb356, 4, none⟩ = some (.slice A0_4 l0_4.length c0_4) ∧ w'.cell? ⟨gb356, 5, none⟩ = some (.slice A0_5 l0_5.length c0_5) ∧ w'.cell? ⟨gb356, 6, none⟩ = some (.slice A0_6 l0_6.length c0_6) ∧ w'.cell? (ad365.add (x15_3).toNat) = some (.int .i64 (rd l0_3 x15_3))) (ds := []) #[false, false, false, false, false, false, false, false, false, false, false, false, false, false, false, false, false, false, false, false, false] (by kernel_rfl) rfl rfl ⟨(blk_cell BK356.out 0).trans rfl, (blk_cell BK356.out 1).trans rfl, (blk_cell BK356.out 2).trans rfl, (blk_cell BK356.out 3).trans rfl, (blk_cell BK356.out 4).trans rfl, (blk_cell BK356.out 5).trans rfl, (blk_cell BK356.out 6).trans rfl, ((HB.out.cell (World.block_lt_of_cell? w _ hw365_0)).trans hw365_0)⟩ (fun hHeld => ?_); refine with_tabW sawmillref17_from.tab13 sawmillref17_from.bits13 (fun HT_ HW_ => ?_)
  generalize wr.drew = w50 at BK356 BK357 BK360 HB hx365_0 hHeld ⊢
  refine pu1 0 (some 83) #[true, false, false, false, false, false, false, false, false, false, false, false, false, false, false, false, false, false, false, false, false] ?_
  refine pu1 1 (some 84) #[true, true, false, false, false, false, false, false, false, false, false, false, false, false, false, false, false, false, false, false, false] ?_
  refine pu1 3 (some 86) #[true, true, false, true, false, false, false, false, false, false, false, false, false, false, false, false, false, false, false, false, false] ?_
  refine pu1 5 (some 88) #[true, true, false, true, false, true, false, false, false, false, false, false, false, false, false, false, false, false, false, false, false] ?_
  refine ta1 2 (some 85) #[true, true, true, true, false, true, false, false, false, false, false, false, false, false, false, false, false, false, false, false, false] ?_
  refine ta1 4 (some 87) #[true, true, true, true, true, true, false, false, false, false, false, false, false, false, false, false, false, false, false, false, false] ?_
  refine pu1 6 (some 89) #[true, true, true, true, true, true, true, false, false, false, false, false, false, false, false, false, false, false, false, false, false] ?_
  refine ta1 7 (some 90) #[true, true, true, true, true, true, true, true, false, false, false, false, false, false, false, false, false, false, false, false, false] ?_
  refine pu1 8 (some 91) #[true, true, true, true, true, true, true, true, true, false, false, false, false, false, false, false, false, false, false, false, false] ?_
  refine pu1 9 (some 92) #[true, true, true, true, true, true, true, true, true, true, false, false, false, false, false, false, false, false, false, false, false] ?_
  refine pu1 10 (some 93) #[true, true, true, true, true, true, true, true, true, true, true, false, false, false, false, false, false, false, false, false, false] ?_
  refine pure_ (i := 11) (N := some 94) (v := undef) (a' := ?_) #[true, true, true, true, true, true, true, true, true, true, true, true, false, false, false, false, false, false, false, false, false] rfl rfl (any_of HT_.out (by kernel_rfl)) (fun _ _ _ h => h) (Or.inr ⟨by rfl, rfl⟩) ?_ ?_
  rotate_left
  · simp only [Act.put, List.setIfInBounds_toArray, List.set_cons_zero, List.set_cons_succ, i64_w, i32_w]
    rfl
  refine pure_ (i := 12) (N := some 95) (v := undef) (a' := ?_) #[true, true, true, true, true, true, true, true, true, true, true, true, true, false, false, false, false, false, false, false, false] rfl rfl (any_of HT_.out (by kernel_rfl)) (fun _ _ _ h => h) (Or.inr ⟨by rfl, rfl⟩) ?_ ?_
  rotate_left
  · simp only [Act.put, List.setIfInBounds_toArray, List.set_cons_zero, List.set_cons_succ, i64_w, i32_w]
    rfl
  refine pure_ (i := 13) (N := some 96) (v := undef) (a' := ?_) #[true, true, true, true, true, true, true, true, true, true, true, true, true, true, false, false, false, false, false, false, false] rfl rfl (any_of HT_.out (by kernel_rfl)) (fun _ _ _ h => h) (Or.inr ⟨by rfl, rfl⟩) ?_ ?_
  rotate_left
  · simp only [Act.put, List.setIfInBounds_toArray, List.set_cons_zero, List.set_cons_succ, i64_w, i32_w]
    rfl
  refine pure_ (i := 14) (N := some 97) (v := undef) (a' := ?_) #[true, true, true, true, true, true, true, true, true, true, true, true, true, true, true, false, false, false, false, false, false] rfl rfl (any_of HT_.out (by kernel_rfl)) (fun _ _ _ h => h) (Or.inr ⟨by rfl, rfl⟩) ?_ ?_
  rotate_left
  · simp only [Act.put, List.setIfInBounds_toArray, List.set_cons_zero, List.set_cons_succ, i64_w, i32_w]
    rfl
  refine pure_ (i := 15) (N := some 98) (v := undef) (a' := ?_) #[true, true, true, true, true, true, true, true, true, true, true, true, true, true, true, true, false, false, false, false, false] rfl rfl (any_of HT_.out (by kernel_rfl)) (fun _ _ _ h => h) (Or.inr ⟨by rfl, rfl⟩) ?_ ?_
  rotate_left
  · simp only [Act.put, List.setIfInBounds_toArray, List.set_cons_zero, List.set_cons_succ, i64_w, i32_w]
    rfl
  refine pure_ (i := 16) (N := some 99) (v := undef) (a' := ?_) #[true, true, true, true, true, true, true, true, true, true, true, true, true, true, true, true, true, false, false, false, false] rfl rfl (any_of HT_.out (by kernel_rfl)) (fun _ _ _ h => h) (Or.inr ⟨by rfl, rfl⟩) ?_ ?_
  rotate_left
  · simp only [Act.put, List.setIfInBounds_toArray, List.set_cons_zero, List.set_cons_succ, i64_w, i32_w]
    rfl
  refine pure_ (i := 17) (N := some 100) (v := undef) (a' := ?_) #[true, true, true, true, true, true, true, true, true, true, true, true, true, true, true, true, true, true, false, false, false] rfl rfl (any_of HT_.out (by kernel_rfl)) (fun _ _ _ h => h) (Or.inr ⟨by rfl, rfl⟩) ?_ ?_
  rotate_left
  · simp only [Act.put, List.setIfInBounds_toArray, List.set_cons_zero, List.set_cons_succ, i64_w, i32_w]
    rfl
  refine pure_ (i := 18) (N := some 101) (v := undef) (a' := ?_) #[true, true, true, true, true, true, true, true, true, true, true, true, true, true, true, true, true, true, true, false, false] rfl rfl (any_of HT_.out (by kernel_rfl)) (fun _ _ _ h => h) (Or.inr ⟨by rfl, rfl⟩) ?_ ?_
  rotate_left
  · simp only [Act.put, List.setIfInBounds_toArray, List.set_cons_zero, List.set_cons_succ, i64_w, i32_w]
    rfl
  refine pure_ (i := 19) (N := some 102) (v := undef) (a' := ?_) #[true, true, true, true, true, true, true, true, true, true, true, true, true, true, true, true, true, true, true, true, false] rfl rfl (any_of HT_.out (by kernel_rfl)) (fun _ _ _ h => h) (Or.inr ⟨by rfl, rfl⟩) ?_ ?_
  rotate_left
  · simp only [Act.put, List.setIfInBounds_toArray, List.set_cons_zero, List.set_cons_succ, i64_w, i32_w]
    rfl
  refine pu1 20 (some 103) #[true, true, true, true, true, true, true, true, true, true, true, true, true, true, true, true, true, true, true, true, true] ?_
  refine done_ (done_of HT_.out (by kernel_rfl)) ?_
  try go_wp2
  go_meet
  case rel => exact ⟨_, (true), rs1, H', ⟨by have := HK1.out; have := HJ17.out; have := HK3.out; first | omega | exact Nat.le_refl _⟩, ⟨bu BK356.out⟩, ⟨bu BK357.out⟩, ⟨bu BK360.out⟩, ⟨bl⟩⟩
 clear HC44; (try clear c1); (try clear c2); (try clear p2); (try clear c3); (try clear p3); (try clear q3); (try clear hx3); (try clear c4); (try clear c5); (try clear c6); (try clear c6b0); (try clear p6); (try clear c7); (try clear c7b0); (try clear c8); (try clear c8b0); (try clear c9); (try clear c9b0); (try clear c17); (try clear c17b0); (try clear c19); (try clear c20); (try clear c22); (try clear c22b0); (try clear c23); (try clear c23b0); (try clear c24); (try clear c25); (try clear c27); (try clear c31); (try clear c31b0); (try clear c32); (try clear c32b0); (try clear c33); (try clear c33b0); (try clear c34); (try clear c34b0); (try clear p35); (try clear q35); (try clear hx35); (try clear c36); (try clear c36b0); (try clear p36); (try clear q36); (try clear hx36); (try clear c37); (try clear c37b0); (try clear c38); (try clear c38b0); (try clear c39); (try clear c40); (try clear c43); (try clear c43b0); (try clear c45); (try clear c46); (try clear c48); (try clear c48b0); (try clear c49); (try clear c49b0); (try clear c51); (try clear c51b0); (try clear c52); (try clear c52b0); (try clear c53); (try clear c53b0); (try clear hcz21); (try clear hcz26); (try clear hcz28); (try clear hcz29); (try clear hcz41); (try clear hcz47); (try clear hfz21); (try clear hfz26); (try clear hfz28); (try clear hfz29); (try clear hfz41); (try clear hfz47); (try clear hx358_0); (try clear hx359_0); (try clear hx361_0); (try clear hx362_0); (try clear hx363_0); (try clear hx364_0); (try clear hx365_0); (try clear hx366_0); (try clear hx367_0); (try clear p2); (try clear p3); (try clear p35); (try clear p358); (try clear p359); (try clear p36); (try clear p361); (try clear p362); (try clear p363); (try clear p364); (try clear p365); (try clear p366); (try clear p367); (try clear p6); (try clear q3); (try clear q35); (try clear q358); (try clear q359); (try clear q36); (try clear q361); (try clear q362); (try clear q363); (try clear q364); (try clear q365); (try clear q366); (try clear q367)
 obtain ⟨kq, x103_43, rfl, HA, HJ43, BK356, BK357, BK360, HB⟩ := hcut
 rcases kq with _ | kj43
 · exact absurd HA.out (by simp [sawmillref17_from.j3])
 have H := HA.out
 clear HA
 simp only [sawmillref17_from.j3] at H
 by_cases c55 : x103_43 = true
 · subst c55
   have H1 : (sawmillref17_from.l1 kj43 a1 l2 l3 l4 x12_1 x13_17 x14_17 (wrap64 (x15_3 + 1)) a0_0 a0_1 a0_2 l0_3 l0_4 l0_5 l0_6 x361000_3 x361001_3 x361002_3) = some (r1, r2, r3) := by rw [if_pos rfl] at H; exact H
   clear H
   have H := H1
   clear H1
   have H' := Aside0.mk H
   clear H
   go_wp2
   go_roundg kj43
   case measure => have := HK1.out; have := HJ17.out; have := HK3.out; have := HJ43.out; omega
   case rel => exact ⟨(wrap64 (x15_3 + 1)), (x361000_3), (x361001_3), (x361002_3), rs1, H', ⟨by have := HK1.out; have := HJ17.out; have := HK3.out; have := HJ43.out; omega⟩, ⟨bu BK356.out⟩, ⟨bu BK357.out⟩, ⟨bu BK360.out⟩, ⟨bl⟩⟩
 replace c55 := Bool.eq_false_iff.mpr c55
 subst c55
 have H1 : ((sawmillref17_after.f a0_0 a0_1 a0_2 l0_3 l0_4 l0_5 l0_6 x15_3 x13_17 l3 l4).bind fun t369 => (if (wrap64 (x14_17 + t369)) > x361000_3 then (sawmillref17_from.l1 kj43 a1 l2 l3 l4 x12_1 x13_17 x14_17 (wrap64 (x15_3 + 1)) a0_0 a0_1 a0_2 l0_3 l0_4 l0_5 l0_6 (wrap64 (x14_17 + t369)) x15_3 x13_17) else (sawmillref17_from.l1 kj43 a1 l2 l3 l4 x12_1 x13_17 x14_17 (wrap64 (x15_3 + 1)) a0_0 a0_1 a0_2 l0_3 l0_4 l0_5 l0_6 x361000_3 x361001_3 x361002_3))) = some (r1, r2, r3) := by rw [if_neg (show ¬ (false = true) by decide)] at H; exact H
 clear H
 have H := H1
 clear H1
 replace H := Option.bind_eq_some_iff.mp H
 obtain ⟨t369, A560, H⟩ := H
 replace H : (if (wrap64 (x14_17 + t369)) > x361000_3 then (sawmillref17_from.l1 kj43 a1 l2 l3 l4 x12_1 x13_17 x14_17 (wrap64 (x15_3 + 1)) a0_0 a0_1 a0_2 l0_3 l0_4 l0_5 l0_6 (wrap64 (x14_17 + t369)) x15_3 x13_17) else (sawmillref17_from.l1 kj43 a1 l2 l3 l4 x12_1 x13_17 x14_17 (wrap64 (x15_3 + 1)) a0_0 a0_1 a0_2 l0_3 l0_4 l0_5 l0_6 x361000_3 x361001_3 x361002_3)) = some (r1, r2, r3) := H
 have A56 := Aside0.mk A560
 clear A560
 by_cases c57 : (wrap64 (x14_17 + t369)) > x361000_3
 rotate_left
 · rw [if_neg c57] at H
   have c57b0 : decide (x361000_3 < (wrap64 (x14_17 + t369))) = false := decide_eq_false c57
   clear c57
   have H' := Aside0.mk H
   clear H
   go_wp2_with (first | ((with_reducible refine gate_dst (N := 16) rfl ?_); refine bx1 (N := 16) #[.int .i64 0, .int .i64 0] 69 ?_; intro gb368 hg w70 hbox hb; have n0_ := Aside0.mk (blk_below (bu BK356.out) hb); have n1_ := Aside0.mk (blk_below (bu BK357.out) hb); have n2_ := Aside0.mk (blk_below (bu BK360.out) hb); have n3_ := Aside0.mk (below_step bl hb); have n4_ := Aside0.mk (hbox); have n5_ := Aside0.mk ((gs1 : w.heap.size ≤ gb368)); have n6_ := Aside0.mk ((gs1 : w.heap.size ≤ gb368)); have n7_ := Aside0.mk ((nl1 BK356 : gb356 ≠ gb368)); have n8_ := Aside0.mk ((ng1 BK356 : gb368 ≠ gb356)); have n9_ := Aside0.mk ((nl1 BK357 : gb357 ≠ gb368)); have n10_ := Aside0.mk ((ng1 BK357 : gb368 ≠ gb357)); have n11_ := Aside0.mk ((nl1 BK360 : gb360 ≠ gb368)); have n12_ := Aside0.mk ((ng1 BK360 : gb368 ≠ gb360)); clear BK356; clear BK357; clear BK360; clear HB; have BK356 := n0_; have BK357 := n1_; have BK360 := n2_; have HB := n3_; have BK368 := n4_; have GW368 := n5_; have GE368 := n6_; have NB356_368 := n7_; have NB368_356 := n8_; have NB357_368 := n9_; have NB368_357 := n10_; have NB360_368 := n11_; have NB368_360 := n12_; clear n0_ n1_ n2_ n3_ n4_ n5_ n6_ n7_ n8_ n9_ n10_ n11_ n12_; clear hb hbox hg; have hnb71 := NB368_356.out; have hnc71 := NB356_368.out; have hnb72 := NB368_357.out; have hnc72 := NB357_368.out; have hnb73 := NB368_360.out; have hnc73 := NB360_368.out; have hcz74 := blk_cells BK368.out; have hfz74 := blk_frozens BK368.out; have hnb75 := NB356_357.out; have hnc75 := NB357_356.out; have hnb76 := NB356_360.out; have hnc76 := NB360_356.out; have hcz77 := blk_cells BK356.out; have hfz77 := blk_frozens BK356.out) | ((with_reducible refine gate_callee (f := 84) rfl ?_); refine goesL_ (some 112) rfl rfl Tryd.func84 (by kernel_rfl) rfl #[.agg #[.int .i64 a0_0, .int .i64 a0_1, .int .i64 a0_2, .slice A0_3 l0_3.length c0_3, .slice A0_4 l0_4.length c0_4, .slice A0_5 l0_5.length c0_5, .slice A0_6 l0_6.length c0_6], .agg #[.int .i64 x15_3, .int .i64 x13_17], .slice A3 l3.length c3, .slice A4 l4.length c4] rfl mp1 ?_; (with_reducible refine (sawmillref17_after.calls a0_0 a0_1 a0_2 _ _ l0_3 _ _ l0_4 _ _ l0_5 _ _ l0_6 x15_3 x13_17 _ _ l3 _ _ l4 t369 _ ?side1 ?side2 ?side3 ?side4 ?side5 ?side6 ?side7 ?side8 ?side9 ?side10 ?side11 ?side12 A56.out).mono ?_); (case side1 => exact Kd.C_below HR0_3.out bl); (case side2 => exact HC0_3.out); (case side3 => exact Kd.C_below HR0_4.out bl); (case side4 => exact HC0_4.out); (case side5 => exact Kd.C_below HR0_5.out bl); (case side6 => exact HC0_5.out); (case side7 => exact Kd.C_below HR0_6.out bl); (case side8 => exact HC0_6.out); (case side9 => exact Kd.C_below HR3.out bl); (case side10 => exact HC3.out); (case side11 => exact Kd.C_below HR4.out bl); (case side12 => exact HC4.out); rintro e w78 ⟨rfl, hb⟩; refine ⟨_, rfl, ?_⟩; have n0_ := Aside0.mk (blk_below (g := gb356) (o := .cells #[.int .i64 a0_0, .int .i64 a0_1, .int .i64 a0_2, .slice A0_3 l0_3.length c0_3, .slice A0_4 l0_4.length c0_4, .slice A0_5 l0_5.length c0_5, .slice A0_6 l0_6.length c0_6] 25 (0, 0)) (by (with_reducible repeat (first | refine blk_drewN ?_ _ | refine blk_drew ?_ | refine blk_alloc ?_ _)); refine blk_far ?_ NB356_368.out _; (with_reducible repeat (first | refine blk_drewN ?_ _ | refine blk_drew ?_ | refine blk_alloc ?_ _)); refine blk_far ?_ NB356_368.out _; (with_reducible repeat (first | refine blk_drewN ?_ _ | refine blk_drew ?_ | refine blk_alloc ?_ _)); exact BK356.out) hb); have n1_ := Aside0.mk (blk_below (g := gb357) (o := .cells #[.int .i64 0, .int .i64 0, .int .i64 0] 100 (0, 0)) (by (with_reducible repeat (first | refine blk_drewN ?_ _ | refine blk_drew ?_ | refine blk_alloc ?_ _)); refine blk_far ?_ NB357_368.out _; (with_reducible repeat (first | refine blk_drewN ?_ _ | refine blk_drew ?_ | refine blk_alloc ?_ _)); refine blk_far ?_ NB357_368.out _; (with_reducible repeat (first | refine blk_drewN ?_ _ | refine blk_drew ?_ | refine blk_alloc ?_ _)); exact BK357.out) hb); have n2_ := Aside0.mk (blk_below (g := gb360) (o := .cells #[.int .i64 x361000_3, .int .i64 x361001_3, .int .i64 x361002_3] 100 (0, 0)) (by (with_reducible repeat (first | refine blk_drewN ?_ _ | refine blk_drew ?_ | refine blk_alloc ?_ _)); refine blk_far ?_ NB360_368.out _; (with_reducible repeat (first | refine blk_drewN ?_ _ | refine blk_drew ?_ | refine blk_alloc ?_ _)); refine blk_far ?_ NB360_368.out _; (with_reducible repeat (first | refine blk_drewN ?_ _ | refine blk_drew ?_ | refine blk_alloc ?_ _)); exact BK360.out) hb); have n3_ := Aside0.mk (blk_below (g := gb368) (o := .cells #[.int .i64 x15_3, .int .i64 x13_17] 69 (0, 0)) (by (with_reducible repeat (first | refine blk_drewN ?_ _ | refine blk_drew ?_ | refine blk_alloc ?_ _)); refine blk_put (cs := #[.int .i64 x15_3, .int .i64 0]) ?_ 1 _ rfl; (with_reducible repeat (first | refine blk_drewN ?_ _ | refine blk_drew ?_ | refine blk_alloc ?_ _)); refine blk_put (cs := #[.int .i64 0, .int .i64 0]) ?_ 0 _ rfl; (with_reducible repeat (first | refine blk_drewN ?_ _ | refine blk_drew ?_ | refine blk_alloc ?_ _)); exact BK368.out) hb); have n4_ := Aside0.mk (below_step bl hb); clear BK356; clear BK357; clear BK360; clear BK368; clear HB; have BK356 := n0_; have BK357 := n1_; have BK360 := n2_; have BK368 := n3_; have HB := n4_; clear n0_ n1_ n2_ n3_ n4_; (try clear hb); (try clear hb2); (try clear hk); (try clear hi); have hnb79 := NB360_357.out; have hnc79 := NB357_360.out; have hcz80 := blk_cells BK360.out; have hfz80 := blk_frozens BK360.out))
   go_roundg kj43
   case measure => have := HK1.out; have := HJ17.out; have := HK3.out; have := HJ43.out; omega
   case rel => exact ⟨(wrap64 (x15_3 + 1)), (x361000_3), (x361001_3), (x361002_3), rs1, H', ⟨by have := HK1.out; have := HJ17.out; have := HK3.out; have := HJ43.out; omega⟩, ⟨bu BK356.out⟩, ⟨bu BK357.out⟩, ⟨bu BK360.out⟩, ⟨bl⟩⟩
 rw [if_pos c57] at H
 have c57b0 : decide (x361000_3 < (wrap64 (x14_17 + t369))) = true := decide_eq_true c57
 clear c57
 have H' := Aside0.mk H
 clear H
 go_wp2_with (first | ((with_reducible refine gate_dst (N := 16) rfl ?_); refine bx1 (N := 16) #[.int .i64 0, .int .i64 0] 69 ?_; intro gb368 hg w58 hbox hb; have n0_ := Aside0.mk (blk_below (bu BK356.out) hb); have n1_ := Aside0.mk (blk_below (bu BK357.out) hb); have n2_ := Aside0.mk (blk_below (bu BK360.out) hb); have n3_ := Aside0.mk (below_step bl hb); have n4_ := Aside0.mk (hbox); have n5_ := Aside0.mk ((gs1 : w.heap.size ≤ gb368)); have n6_ := Aside0.mk ((gs1 : w.heap.size ≤ gb368)); have n7_ := Aside0.mk ((nl1 BK356 : gb356 ≠ gb368)); have n8_ := Aside0.mk ((ng1 BK356 : gb368 ≠ gb356)); have n9_ := Aside0.mk ((nl1 BK357 : gb357 ≠ gb368)); have n10_ := Aside0.mk ((ng1 BK357 : gb368 ≠ gb357)); have n11_ := Aside0.mk ((nl1 BK360 : gb360 ≠ gb368)); have n12_ := Aside0.mk ((ng1 BK360 : gb368 ≠ gb360)); clear BK356; clear BK357; clear BK360; clear HB; have BK356 := n0_; have BK357 := n1_; have BK360 := n2_; have HB := n3_; have BK368 := n4_; have GW368 := n5_; have GE368 := n6_; have NB356_368 := n7_; have NB368_356 := n8_; have NB357_368 := n9_; have NB368_357 := n10_; have NB360_368 := n11_; have NB368_360 := n12_; clear n0_ n1_ n2_ n3_ n4_ n5_ n6_ n7_ n8_ n9_ n10_ n11_ n12_; clear hb hbox hg; have hnb59 := NB368_356.out; have hnc59 := NB356_368.out; have hnb60 := NB368_357.out; have hnc60 := NB357_368.out; have hnb61 := NB368_360.out; have hnc61 := NB360_368.out; have hcz62 := blk_cells BK368.out; have hfz62 := blk_frozens BK368.out; have hnb63 := NB356_357.out; have hnc63 := NB357_356.out; have hnb64 := NB356_360.out; have hnc64 := NB360_356.out; have hcz65 := blk_cells BK356.out; have hfz65 := blk_frozens BK356.out) | ((with_reducible refine gate_callee (f := 84) rfl ?_); refine goesL_ (some 112) rfl rfl Tryd.func84 (by kernel_rfl) rfl #[.agg #[.int .i64 a0_0, .int .i64 a0_1, .int .i64 a0_2, .slice A0_3 l0_3.length c0_3, .slice A0_4 l0_4.length c0_4, .slice A0_5 l0_5.length c0_5, .slice A0_6 l0_6.length c0_6], .agg #[.int .i64 x15_3, .int .i64 x13_17], .slice A3 l3.length c3, .slice A4 l4.length c4] rfl mp1 ?_; (with_reducible refine (sawmillref17_after.calls a0_0 a0_1 a0_2 _ _ l0_3 _ _ l0_4 _ _ l0_5 _ _ l0_6 x15_3 x13_17 _ _ l3 _ _ l4 t369 _ ?side1 ?side2 ?side3 ?side4 ?side5 ?side6 ?side7 ?side8 ?side9 ?side10 ?side11 ?side12 A56.out).mono ?_); (case side1 => exact Kd.C_below HR0_3.out bl); (case side2 => exact HC0_3.out); (case side3 => exact Kd.C_below HR0_4.out bl); (case side4 => exact HC0_4.out); (case side5 => exact Kd.C_below HR0_5.out bl); (case side6 => exact HC0_5.out); (case side7 => exact Kd.C_below HR0_6.out bl); (case side8 => exact HC0_6.out); (case side9 => exact Kd.C_below HR3.out bl); (case side10 => exact HC3.out); (case side11 => exact Kd.C_below HR4.out bl); (case side12 => exact HC4.out); rintro e w66 ⟨rfl, hb⟩; refine ⟨_, rfl, ?_⟩; have n0_ := Aside0.mk (blk_below (g := gb356) (o := .cells #[.int .i64 a0_0, .int .i64 a0_1, .int .i64 a0_2, .slice A0_3 l0_3.length c0_3, .slice A0_4 l0_4.length c0_4, .slice A0_5 l0_5.length c0_5, .slice A0_6 l0_6.length c0_6] 25 (0, 0)) (by (with_reducible repeat (first | refine blk_drewN ?_ _ | refine blk_drew ?_ | refine blk_alloc ?_ _)); refine blk_far ?_ NB356_368.out _; (with_reducible repeat (first | refine blk_drewN ?_ _ | refine blk_drew ?_ | refine blk_alloc ?_ _)); refine blk_far ?_ NB356_368.out _; (with_reducible repeat (first | refine blk_drewN ?_ _ | refine blk_drew ?_ | refine blk_alloc ?_ _)); exact BK356.out) hb); have n1_ := Aside0.mk (blk_below (g := gb357) (o := .cells #[.int .i64 0, .int .i64 0, .int .i64 0] 100 (0, 0)) (by (with_reducible repeat (first | refine blk_drewN ?_ _ | refine blk_drew ?_ | refine blk_alloc ?_ _)); refine blk_far ?_ NB357_368.out _; (with_reducible repeat (first | refine blk_drewN ?_ _ | refine blk_drew ?_ | refine blk_alloc ?_ _)); refine blk_far ?_ NB357_368.out _; (with_reducible repeat (first | refine blk_drewN ?_ _ | refine blk_drew ?_ | refine blk_alloc ?_ _)); exact BK357.out) hb); have n2_ := Aside0.mk (blk_below (g := gb360) (o := .cells #[.int .i64 x361000_3, .int .i64 x361001_3, .int .i64 x361002_3] 100 (0, 0)) (by (with_reducible repeat (first | refine blk_drewN ?_ _ | refine blk_drew ?_ | refine blk_alloc ?_ _)); refine blk_far ?_ NB360_368.out _; (with_reducible repeat (first | refine blk_drewN ?_ _ | refine blk_drew ?_ | refine blk_alloc ?_ _)); refine blk_far ?_ NB360_368.out _; (with_reducible repeat (first | refine blk_drewN ?_ _ | refine blk_drew ?_ | refine blk_alloc ?_ _)); exact BK360.out) hb); have n3_ := Aside0.mk (blk_below (g := gb368) (o := .cells #[.int .i64 x15_3, .int .i64 x13_17] 69 (0, 0)) (by (with_reducible repeat (first | refine blk_drewN ?_ _ | refine blk_drew ?_ | refine blk_alloc ?_ _)); refine blk_put (cs := #[.int .i64 x15_3, .int .i64 0]) ?_ 1 _ rfl; (with_reducible repeat (first | refine blk_drewN ?_ _ | refine blk_drew ?_ | refine blk_alloc ?_ _)); refine blk_put (cs := #[.int .i64 0, .int .i64 0]) ?_ 0 _ rfl; (with_reducible repeat (first | refine blk_drewN ?_ _ | refine blk_drew ?_ | refine blk_alloc ?_ _)); exact BK368.out) hb); have n4_ := Aside0.mk (below_step bl hb); clear BK356; clear BK357; clear BK360; clear BK368; clear HB; have BK356 := n0_; have BK357 := n1_; have BK360 := n2_; have BK368 := n3_; have HB := n4_; clear n0_ n1_ n2_ n3_ n4_; (try clear hb); (try clear hb2); (try clear hk); (try clear hi); have hnb67 := NB360_357.out; have hnc67 := NB357_360.out; have hcz68 := blk_cells BK360.out; have hfz68 := blk_frozens BK360.out; have hcz69 := blk_cells BK368.out; have hfz69 := blk_frozens BK368.out))
 go_roundg kj43
 case measure => have := HK1.out; have := HJ17.out; have := HK3.out; have := HJ43.out; omega
 case rel => exact ⟨(wrap64 (x15_3 + 1)), (wrap64 (x14_17 + t369)), (x15_3), (x13_17), rs1, H', ⟨by have := HK1.out; have := HJ17.out; have := HK3.out; have := HJ43.out; omega⟩, ⟨by (with_reducible repeat (first | refine blk_drewN ?_ _ | refine blk_drew ?_ | refine blk_alloc ?_ _)); refine blk_far ?_ NB356_360.out _; (with_reducible repeat (first | refine blk_drewN ?_ _ | refine blk_drew ?_ | refine blk_alloc ?_ _)); refine blk_far ?_ NB356_360.out _; (with_reducible repeat (first | refine blk_drewN ?_ _ | refine blk_drew ?_ | refine blk_alloc ?_ _)); refine blk_far ?_ NB356_360.out _; (with_reducible repeat (first | refine blk_drewN ?_ _ | refine blk_drew ?_ | refine blk_alloc ?_ _)); exact BK356.out⟩, ⟨by (with_reducible repeat (first | refine blk_drewN ?_ _ | refine blk_drew ?_ | refine blk_alloc ?_ _)); refine blk_far ?_ NB357_360.out _; (with_reducible repeat (first | refine blk_drewN ?_ _ | refine blk_drew ?_ | refine blk_alloc ?_ _)); refine blk_far ?_ NB357_360.out _; (with_reducible repeat (first | refine blk_drewN ?_ _ | refine blk_drew ?_ | refine blk_alloc ?_ _)); refine blk_far ?_ NB357_360.out _; (with_reducible repeat (first | refine blk_drewN ?_ _ | refine blk_drew ?_ | refine blk_alloc ?_ _)); exact BK357.out⟩, ⟨by (with_reducible repeat (first | refine blk_drewN ?_ _ | refine blk_drew ?_ | refine blk_alloc ?_ _)); refine blk_put (cs := #[.int .i64 (wrap64 (x14_17 + t369)), .int .i64 x15_3, .int .i64 x361002_3]) ?_ 2 _ rfl; (with_reducible repeat (first | refine blk_drewN ?_ _ | refine blk_drew ?_ | refine blk_alloc ?_ _)); refine blk_put (cs := #[.int .i64 (wrap64 (x14_17 + t369)), .int .i64 x361001_3, .int .i64 x361002_3]) ?_ 1 _ rfl; (with_reducible repeat (first | refine blk_drewN ?_ _ | refine blk_drew ?_ | refine blk_alloc ?_ _)); refine blk_put (cs := #[.int .i64 x361000_3, .int .i64 x361001_3, .int .i64 x361002_3]) ?_ 0 _ rfl; (with_reducible repeat (first | refine blk_drewN ?_ _ | refine blk_drew ?_ | refine blk_alloc ?_ _)); exact BK360.out⟩, ⟨bl⟩⟩
end Go.Proofs.YtoaicheopcojoaaDoor.P
