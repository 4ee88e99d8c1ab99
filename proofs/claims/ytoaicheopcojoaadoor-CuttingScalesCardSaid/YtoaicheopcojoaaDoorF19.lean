import Derived.Test.YtoaicheopcojoaaDoorSq
import Derived.Test.YtoaicheopcojoaaDoorF50
import Derived.Test.YtoaicheopcojoaaDoorF51
namespace Go.Proofs.YtoaicheopcojoaaDoor.P
open Go.RowKit Go.Proofs.YtoaicheopcojoaaDoorW.PrintWords Go.Proofs.YtoaicheopcojoaaDoorW.PrintLast Go.Proofs.YtoaicheopcojoaaDoorW.PrintMore
attribute [local go_sem] max2_int min2_int max_two min_two max_three min_three max_four min_four   -- for this text's walks alone
set_option linter.unusedVariables false
set_option linter.unusedSimpArgs false
/-! ### cutting_Check: function 19 -/
mutual
def cutting_Check.j0 : Nat → Bool → Int → Int → Int → List Int → List (List Int) → List Int → List Int → Option (Int)
  | 0, _, _, _, _, _, _, _, _ => none
  | k + 1, x37, x111000, x111001, x111002, x111003, x111004, x111005, x111006 => if x37 = true then (some 19) else (cutting_Check.l0 k x111004 (x111004.length : Int) 0 x111000 x111001 x111002 x111003 x111004 x111005 x111006)
def cutting_Check.l0 : Nat → List (List Int) → Int → Int → Int → Int → Int → List Int → List (List Int) → List Int → List Int → Option (Int)
  | 0, _, _, _, _, _, _, _, _, _, _ => none
  | k + 1, x39, x40, x41, x111000, x111001, x111002, x111003, x111004, x111005, x111006 => if x41 < x40 then (if 0 ≤ x41 then (if x41 < (x39.length : Int) then (if x41 < (x111003.length : Int) then (if ((rd_L1 x39 x41).length : Int) = (mx 0 (wrap64 ((wrap64 (x111000 - (rd x111003 x41))) + 1))) then (cutting_Check.l0 k x39 x40 (wrap64 (x41 + 1)) x111000 x111001 x111002 x111003 x111004 x111005 x111006) else (some 19)) else (none)) else (none)) else (none)) else ((some (([x111005, x111006] : List (List Int)) : List (List Int))).bind fun y114 => (if y114.length + x111004.length < 5864062014805 then ((some (y114 ++ x111004 : List (List Int))).bind fun y117 => (cutting_Check.l1 k y117 (y117.length : Int) 0)) else (none)))
def cutting_Check.l1 : Nat → List (List Int) → Int → Int → Option (Int)
  | 0, _, _, _ => none
  | k + 1, x67, x68, x69 => if x69 < x68 then (if 0 ≤ x69 then (if x69 < (x67.length : Int) then (cutting_Check.l2 k x67 x68 x69 (rd_L1 x67 x69) ((rd_L1 x67 x69).length : Int) 0) else (none)) else (none)) else (some 0)
def cutting_Check.l2 : Nat → List (List Int) → Int → Int → List Int → Int → Int → Option (Int)
  | 0, _, _, _, _, _, _ => none
  | k + 1, x67, x68, x69, x73, x74, x75 => if x75 < x74 then (if 0 ≤ x75 then (if x75 < (x73.length : Int) then ((cutting_inRange.f (rd x73 x75) (-1125899906842624) 1125899906842624).bind fun t122 => (if t122 = true then (cutting_Check.l2 k x67 x68 x69 x73 x74 (wrap64 (x75 + 1))) else (some 9))) else (none)) else (none)) else (cutting_Check.l1 k x67 x68 (wrap64 (x69 + 1)))
end
def cutting_Check.f (k : Nat) (a0_0 : Int) (a0_1 : Int) (a0_2 : Int) (l0_3 : List Int) (l0_4 : List (List Int)) (l0_5 : List Int) (l0_6 : List Int) : Option (Int) := (cutting_head.f k a0_0 a0_1 a0_2 l0_3 l0_4 l0_5 l0_6).bind fun t111 => (if t111 = 0 then (if (l0_4.length : Int) = (l0_3.length : Int) then (if (l0_5.length : Int) = a0_0 then (cutting_Check.j0 k ((l0_6.length : Int) != a0_0) a0_0 a0_1 a0_2 l0_3 l0_4 l0_5 l0_6) else (cutting_Check.j0 k true a0_0 a0_1 a0_2 l0_3 l0_4 l0_5 l0_6)) else (cutting_Check.j0 k true a0_0 a0_1 a0_2 l0_3 l0_4 l0_5 l0_6)) else (some t111))
theorem cutting_Check.mono_l : ∀ k, (∀ y0 y1 y2 y3 y4 y5 y6 y7, LeO (cutting_Check.j0 k y0 y1 y2 y3 y4 y5 y6 y7) (cutting_Check.j0 (k + 1) y0 y1 y2 y3 y4 y5 y6 y7)) ∧ (∀ y0 y1 y2 y3 y4 y5 y6 y7 y8 y9, LeO (cutting_Check.l0 k y0 y1 y2 y3 y4 y5 y6 y7 y8 y9) (cutting_Check.l0 (k + 1) y0 y1 y2 y3 y4 y5 y6 y7 y8 y9)) ∧ (∀ y0 y1 y2, LeO (cutting_Check.l1 k y0 y1 y2) (cutting_Check.l1 (k + 1) y0 y1 y2)) ∧ (∀ y0 y1 y2 y3 y4 y5, LeO (cutting_Check.l2 k y0 y1 y2 y3 y4 y5) (cutting_Check.l2 (k + 1) y0 y1 y2 y3 y4 y5))
  | 0 => ⟨fun _ _ _ _ _ _ _ _ r h => by simp [cutting_Check.j0] at h, fun _ _ _ _ _ _ _ _ _ _ r h => by simp [cutting_Check.l0] at h, fun _ _ _ r h => by simp [cutting_Check.l1] at h, fun _ _ _ _ _ _ r h => by simp [cutting_Check.l2] at h⟩
  | k + 1 => by
    obtain ⟨ih0, ih1, ih2, ih3⟩ := cutting_Check.mono_l k
    refine ⟨?_, ?_, ?_, ?_⟩
    · intro y0 y1 y2 y3 y4 y5 y6 y7
      unfold cutting_Check.j0
      repeat' first
      | (with_reducible exact ih0 _ _ _ _ _ _ _ _)
      | (with_reducible exact ih1 _ _ _ _ _ _ _ _ _ _)
      | (with_reducible exact ih2 _ _ _)
      | (with_reducible exact ih3 _ _ _ _ _ _)
      | (with_reducible exact cutting_head.mono _ _ _ _ _ _ _ _)
      | (with_reducible exact LeO.refl _)
      | (with_reducible exact LeO.none _)
      | (with_reducible refine LeO.ite ?_ ?_)
      | (with_reducible refine LeO.bind ?_ (fun _ => ?_))
      | exact ih0 _ _ _ _ _ _ _ _
      | exact ih1 _ _ _ _ _ _ _ _ _ _
      | exact ih2 _ _ _
      | exact ih3 _ _ _ _ _ _
      | exact cutting_head.mono _ _ _ _ _ _ _ _
      | exact LeO.none _
      | refine LeO.ite ?_ ?_
      | refine LeO.bind ?_ (fun _ => ?_)
    · intro y0 y1 y2 y3 y4 y5 y6 y7 y8 y9
      unfold cutting_Check.l0
      repeat' first
      | (with_reducible exact ih0 _ _ _ _ _ _ _ _)
      | (with_reducible exact ih1 _ _ _ _ _ _ _ _ _ _)
      | (with_reducible exact ih2 _ _ _)
      | (with_reducible exact ih3 _ _ _ _ _ _)
      | (with_reducible exact cutting_head.mono _ _ _ _ _ _ _ _)
      | (with_reducible exact LeO.refl _)
      | (with_reducible exact LeO.none _)
      | (with_reducible refine LeO.ite ?_ ?_)
      | (with_reducible refine LeO.bind ?_ (fun _ => ?_))
      | exact ih0 _ _ _ _ _ _ _ _
      | exact ih1 _ _ _ _ _ _ _ _ _ _
      | exact ih2 _ _ _
      | exact ih3 _ _ _ _ _ _
      | exact cutting_head.mono _ _ _ _ _ _ _ _
      | exact LeO.none _
      | refine LeO.ite ?_ ?_
      | refine LeO.bind ?_ (fun _ => ?_)
    · intro y0 y1 y2
      unfold cutting_Check.l1
      repeat' first
      | (with_reducible exact ih0 _ _ _ _ _ _ _ _)
      | (with_reducible exact ih1 _ _ _ _ _ _ _ _ _ _)
      | (with_reducible exact ih2 _ _ _)
      | (with_reducible exact ih3 _ _ _ _ _ _)
      | (with_reducible exact cutting_head.mono _ _ _ _ _ _ _ _)
      | (with_reducible exact LeO.refl _)
      | (with_reducible exact LeO.none _)
      | (with_reducible refine LeO.ite ?_ ?_)
      | (with_reducible refine LeO.bind ?_ (fun _ => ?_))
      | exact ih0 _ _ _ _ _ _ _ _
      | exact ih1 _ _ _ _ _ _ _ _ _ _
      | exact ih2 _ _ _
      | exact ih3 _ _ _ _ _ _
      | exact cutting_head.mono _ _ _ _ _ _ _ _
      | exact LeO.none _
      | refine LeO.ite ?_ ?_
      | refine LeO.bind ?_ (fun _ => ?_)
    · intro y0 y1 y2 y3 y4 y5
      unfold cutting_Check.l2
      repeat' first
      | (with_reducible exact ih0 _ _ _ _ _ _ _ _)
      | (with_reducible exact ih1 _ _ _ _ _ _ _ _ _ _)
      | (with_reducible exact ih2 _ _ _)
      | (with_reducible exact ih3 _ _ _ _ _ _)
      | (with_reducible exact cutting_head.mono _ _ _ _ _ _ _ _)
      | (with_reducible exact LeO.refl _)
      | (with_reducible exact LeO.none _)
      | (with_reducible refine LeO.ite ?_ ?_)
      | (with_reducible refine LeO.bind ?_ (fun _ => ?_))
      | exact ih0 _ _ _ _ _ _ _ _
      | exact ih1 _ _ _ _ _ _ _ _ _ _
      | exact ih2 _ _ _
      | exact ih3 _ _ _ _ _ _
      | exact cutting_head.mono _ _ _ _ _ _ _ _
      | exact LeO.none _
      | refine LeO.ite ?_ ?_
      | refine LeO.bind ?_ (fun _ => ?_)
theorem cutting_Check.mono : ∀ a0 a1 a2 a3 a4 a5 a6 k, LeO (cutting_Check.f k a0 a1 a2 a3 a4 a5 a6) (cutting_Check.f (k + 1) a0 a1 a2 a3 a4 a5 a6) := by
  intro a0 a1 a2 a3 a4 a5 a6 k
  obtain ⟨ih0, ih1, ih2, ih3⟩ := cutting_Check.mono_l k
  unfold cutting_Check.f
  repeat' first
      | (with_reducible exact ih0 _ _ _ _ _ _ _ _)
      | (with_reducible exact ih1 _ _ _ _ _ _ _ _ _ _)
      | (with_reducible exact ih2 _ _ _)
      | (with_reducible exact ih3 _ _ _ _ _ _)
      | (with_reducible exact cutting_head.mono _ _ _ _ _ _ _ _)
      | (with_reducible exact LeO.refl _)
      | (with_reducible exact LeO.none _)
      | (with_reducible refine LeO.ite ?_ ?_)
      | (with_reducible refine LeO.bind ?_ (fun _ => ?_))
      | exact ih0 _ _ _ _ _ _ _ _
      | exact ih1 _ _ _ _ _ _ _ _ _ _
      | exact ih2 _ _ _
      | exact ih3 _ _ _ _ _ _
      | exact cutting_head.mono _ _ _ _ _ _ _ _
      | exact LeO.none _
      | refine LeO.ite ?_ ?_
      | refine LeO.bind ?_ (fun _ => ?_)
theorem L19_0 {p_ : Prop} (k_ : p_ := by
  go_wp2
  repeat (go_quiet (fail); try go_wp2)
  go_meet
  case rel => exact ⟨_, (true), rs1, H', ⟨by first | omega | exact Nat.le_refl _⟩, ⟨by (with_reducible repeat (first | apply Kd.V_alloc | apply Kd.V_drewN | apply Kd.V_drew)); exact HO0_4.out⟩, ⟨by (with_reducible repeat (first | apply Kd.V_alloc | apply Kd.V_drewN | apply Kd.V_drew)); exact HO0_5.out⟩, ⟨by (with_reducible repeat (first | apply Kd.V_alloc | apply Kd.V_drewN | apply Kd.V_drew)); exact HO0_6.out⟩, ⟨bu BK110.out⟩, ⟨bl⟩⟩) : p_ := k_
set_option maxHeartbeats 8000000 in
set_option maxRecDepth 100000 in
theorem cutting_Check.calls (k : Nat) (a0_0 : Int) (a0_1 : Int) (a0_2 : Int) (A0_3 : Option Addr) (c0_3 : Nat) (l0_3 : List Int) (P0_4_ : Nat → Prop) (A0_4 : Option Addr) (c0_4 : Nat) (l0_4 : List (List Int)) (P0_5_ : Nat → Prop) (A0_5 : Option Addr) (c0_5 : Nat) (l0_5 : List Int) (P0_6_ : Nat → Prop) (A0_6 : Option Addr) (c0_6 : Nat) (l0_6 : List Int) (r : Int) (w : World) (hr0_3 : Kd.C (Kd.int .i64) w A0_3 l0_3.length l0_3) (hc0_3 : l0_3.length ≤ c0_3) (hs0_4 : Kd.V (Kd.slice 3 (Kd.int .i64)) 22 w w.heap.size (fun k_ => P0_4_ k_) (.slice A0_4 l0_4.length c0_4) l0_4) (hs0_5 : Kd.V (Kd.int .i64) 3 w w.heap.size (fun k_ => P0_5_ k_) (.slice A0_5 l0_5.length c0_5) l0_5) (hs0_6 : Kd.V (Kd.int .i64) 3 w w.heap.size (fun k_ => P0_6_ k_) (.slice A0_6 l0_6.length c0_6) l0_6) (h : cutting_Check.f k a0_0 a0_1 a0_2 l0_3 l0_4 l0_5 l0_6 = some r) :
    Calls Tryd.prog 19 #[.agg #[.int .i64 a0_0, .int .i64 a0_1, .int .i64 a0_2, .slice A0_3 l0_3.length c0_3, .slice A0_4 l0_4.length c0_4, .slice A0_5 l0_5.length c0_5, .slice A0_6 l0_6.length c0_6]] w fun e w' => e = .returned (.int .i64 r) ∧ Below w.heap.size w w' := by
 have hu25 := Tryd.underlying25
 have HR0_3 := Aside0.mk hr0_3
 have HC0_3 := Aside0.mk hc0_3
 clear hr0_3 hc0_3
 have HO0_4 := Aside0.mk (show Kd.V (Kd.slice 3 (Kd.int .i64)) 22 w w.heap.size (fun k_ => ((P0_4_ k_ ∨ P0_5_ k_ ∨ P0_6_ k_) ∨ w.heap.size ≤ k_)) (.slice A0_4 l0_4.length c0_4) l0_4 from Kd.V_mono hs0_4 (fun k_ hk => .inl (.inl hk)))
 have HO0_5 := Aside0.mk (show Kd.V (Kd.int .i64) 3 w w.heap.size (fun k_ => ((P0_4_ k_ ∨ P0_5_ k_ ∨ P0_6_ k_) ∨ w.heap.size ≤ k_)) (.slice A0_5 l0_5.length c0_5) l0_5 from Kd.V_mono hs0_5 (fun k_ hk => .inl (.inr (.inl hk))))
 have HO0_6 := Aside0.mk (show Kd.V (Kd.int .i64) 3 w w.heap.size (fun k_ => ((P0_4_ k_ ∨ P0_5_ k_ ∨ P0_6_ k_) ∨ w.heap.size ≤ k_)) (.slice A0_6 l0_6.length c0_6) l0_6 from Kd.V_mono hs0_6 (fun k_ hk => .inl (.inr (.inr hk))))
 have HB := Aside0.mk (Below.refl w.heap.size w)
 have H : ((cutting_head.f k a0_0 a0_1 a0_2 l0_3 l0_4 l0_5 l0_6).bind fun t111 => (if t111 = 0 then (if (l0_4.length : Int) = (l0_3.length : Int) then (if (l0_5.length : Int) = a0_0 then (cutting_Check.j0 k ((l0_6.length : Int) != a0_0) a0_0 a0_1 a0_2 l0_3 l0_4 l0_5 l0_6) else (cutting_Check.j0 k true a0_0 a0_1 a0_2 l0_3 l0_4 l0_5 l0_6)) else (cutting_Check.j0 k true a0_0 a0_1 a0_2 l0_3 l0_4 l0_5 l0_6)) else (some t111))) = some r := h
 clear h
 replace H := Option.bind_eq_some_iff.mp H
 obtain ⟨t111, A20, H⟩ := H
 replace H : (if t111 = 0 then (if (l0_4.length : Int) = (l0_3.length : Int) then (if (l0_5.length : Int) = a0_0 then (cutting_Check.j0 k ((l0_6.length : Int) != a0_0) a0_0 a0_1 a0_2 l0_3 l0_4 l0_5 l0_6) else (cutting_Check.j0 k true a0_0 a0_1 a0_2 l0_3 l0_4 l0_5 l0_6)) else (cutting_Check.j0 k true a0_0 a0_1 a0_2 l0_3 l0_4 l0_5 l0_6)) else (some t111)) = some r := H
 have A2 := Aside0.mk A20
 clear A20
 by_cases c3 : t111 = 0
 rotate_left
 · rw [if_neg c3] at H
   have c3b0 : (t111 == 0) = false := beq_eq_false_iff_ne.mpr c3
   have c3b1 : (t111 != 0) = true := bne_iff_ne.mpr c3
   obtain rfl := Option.some.inj H
   go_enter Tryd.func19, Tryd.ntmps19
   go_wp2_with (first | ((with_reducible refine gate_dst (N := 1) rfl ?_); (try (refine gate_guard (by rfl) ?_; dsimp only)); refine bx1 (N := 1) #[.int .i64 a0_0, .int .i64 a0_1, .int .i64 a0_2, .slice A0_3 l0_3.length c0_3, .slice A0_4 l0_4.length c0_4, .slice A0_5 l0_5.length c0_5, .slice A0_6 l0_6.length c0_6] 25 ?_; intro gb110 hg w38 hbox hb; have n0_ := Aside0.mk (Kd.V_below (Kd.V_elderB (vu HO0_4.out) gb110 (Nat.le_of_eq hg.symm)) hb); have n1_ := Aside0.mk (Kd.V_below (Kd.V_elderB (vu HO0_5.out) gb110 (Nat.le_of_eq hg.symm)) hb); have n2_ := Aside0.mk (Kd.V_below (Kd.V_elderB (vu HO0_6.out) gb110 (Nat.le_of_eq hg.symm)) hb); have n3_ := Aside0.mk (below_step bl hb); have n4_ := Aside0.mk (hbox); have n5_ := Aside0.mk ((gs1 : w.heap.size ≤ gb110)); have n6_ := Aside0.mk ((gs1 : w.heap.size ≤ gb110)); clear HO0_4; clear HO0_5; clear HO0_6; clear HB; have HO0_4 := n0_; have HO0_5 := n1_; have HO0_6 := n2_; have HB := n3_; have BK110 := n4_; have GW110 := n5_; have GE110 := n6_; clear n0_ n1_ n2_ n3_ n4_ n5_ n6_; clear hb hbox hg; have hcz39 := blk_cells BK110.out; have hfz39 := blk_frozens BK110.out) | (go_at_call 50; (with_reducible refine (cutting_head.calls k a0_0 a0_1 a0_2 _ _ l0_3 _ _ l0_4 _ _ l0_5 _ _ l0_6 t111 _ ?side1 ?side2 ?side3 ?side4 ?side5 ?side6 ?side7 ?side8 A2.out).mono ?_); (case side1 => exact cu1 (Kd.C_below HR0_3.out HB.out)); (case side2 => exact HC0_3.out); (case side3 => repeat (first | exact (Kd.V_reads' HO0_4.out).2.2 | (with_reducible refine Kd.C_alloc ?_ _) | (with_reducible refine Kd.C_drewN ?_ _) | (with_reducible refine Kd.C_drew ?_))); (case side4 => exact (Kd.V_reads' HO0_4.out).2.1); (case side5 => repeat (first | exact (Kd.V_reads' HO0_5.out).2.2 | (with_reducible refine Kd.C_alloc ?_ _) | (with_reducible refine Kd.C_drewN ?_ _) | (with_reducible refine Kd.C_drew ?_))); (case side6 => exact (Kd.V_reads' HO0_5.out).2.1); (case side7 => repeat (first | exact (Kd.V_reads' HO0_6.out).2.2 | (with_reducible refine Kd.C_alloc ?_ _) | (with_reducible refine Kd.C_drewN ?_ _) | (with_reducible refine Kd.C_drew ?_))); (case side8 => exact (Kd.V_reads' HO0_6.out).2.1); rintro e w40 ⟨rfl, hb⟩; have n0_ := Aside0.mk (Kd.V_below (vu HO0_4.out) hb); have n1_ := Aside0.mk (Kd.V_below (vu HO0_5.out) hb); have n2_ := Aside0.mk (Kd.V_below (vu HO0_6.out) hb); have n3_ := Aside0.mk (blk_below (bu BK110.out) hb); have n4_ := Aside0.mk (below_step bl hb); clear HO0_4; clear HO0_5; clear HO0_6; clear BK110; clear HB; have HO0_4 := n0_; have HO0_5 := n1_; have HO0_6 := n2_; have BK110 := n3_; have HB := n4_; clear n0_ n1_ n2_ n3_ n4_; (try clear hb); (try clear hb2); (try clear hk); (try clear hi)))
   repeat (go_quiet (first | ((with_reducible refine gate_dst (N := 1) rfl ?_); (try (refine gate_guard (by rfl) ?_; dsimp only)); refine bx1 (N := 1) #[.int .i64 a0_0, .int .i64 a0_1, .int .i64 a0_2, .slice A0_3 l0_3.length c0_3, .slice A0_4 l0_4.length c0_4, .slice A0_5 l0_5.length c0_5, .slice A0_6 l0_6.length c0_6] 25 ?_; intro gb110 hg w38 hbox hb; have n0_ := Aside0.mk (Kd.V_below (Kd.V_elderB (vu HO0_4.out) gb110 (Nat.le_of_eq hg.symm)) hb); have n1_ := Aside0.mk (Kd.V_below (Kd.V_elderB (vu HO0_5.out) gb110 (Nat.le_of_eq hg.symm)) hb); have n2_ := Aside0.mk (Kd.V_below (Kd.V_elderB (vu HO0_6.out) gb110 (Nat.le_of_eq hg.symm)) hb); have n3_ := Aside0.mk (below_step bl hb); have n4_ := Aside0.mk (hbox); have n5_ := Aside0.mk ((gs1 : w.heap.size ≤ gb110)); have n6_ := Aside0.mk ((gs1 : w.heap.size ≤ gb110)); clear HO0_4; clear HO0_5; clear HO0_6; clear HB; have HO0_4 := n0_; have HO0_5 := n1_; have HO0_6 := n2_; have HB := n3_; have BK110 := n4_; have GW110 := n5_; have GE110 := n6_; clear n0_ n1_ n2_ n3_ n4_ n5_ n6_; clear hb hbox hg; have hcz39 := blk_cells BK110.out; have hfz39 := blk_frozens BK110.out) | (go_at_call 50; (with_reducible refine (cutting_head.calls k a0_0 a0_1 a0_2 _ _ l0_3 _ _ l0_4 _ _ l0_5 _ _ l0_6 t111 _ ?side1 ?side2 ?side3 ?side4 ?side5 ?side6 ?side7 ?side8 A2.out).mono ?_); (case side1 => exact cu1 (Kd.C_below HR0_3.out HB.out)); (case side2 => exact HC0_3.out); (case side3 => repeat (first | exact (Kd.V_reads' HO0_4.out).2.2 | (with_reducible refine Kd.C_alloc ?_ _) | (with_reducible refine Kd.C_drewN ?_ _) | (with_reducible refine Kd.C_drew ?_))); (case side4 => exact (Kd.V_reads' HO0_4.out).2.1); (case side5 => repeat (first | exact (Kd.V_reads' HO0_5.out).2.2 | (with_reducible refine Kd.C_alloc ?_ _) | (with_reducible refine Kd.C_drewN ?_ _) | (with_reducible refine Kd.C_drew ?_))); (case side6 => exact (Kd.V_reads' HO0_5.out).2.1); (case side7 => repeat (first | exact (Kd.V_reads' HO0_6.out).2.2 | (with_reducible refine Kd.C_alloc ?_ _) | (with_reducible refine Kd.C_drewN ?_ _) | (with_reducible refine Kd.C_drew ?_))); (case side8 => exact (Kd.V_reads' HO0_6.out).2.1); rintro e w40 ⟨rfl, hb⟩; have n0_ := Aside0.mk (Kd.V_below (vu HO0_4.out) hb); have n1_ := Aside0.mk (Kd.V_below (vu HO0_5.out) hb); have n2_ := Aside0.mk (Kd.V_below (vu HO0_6.out) hb); have n3_ := Aside0.mk (blk_below (bu BK110.out) hb); have n4_ := Aside0.mk (below_step bl hb); clear HO0_4; clear HO0_5; clear HO0_6; clear BK110; clear HB; have HO0_4 := n0_; have HO0_5 := n1_; have HO0_6 := n2_; have BK110 := n3_; have HB := n4_; clear n0_ n1_ n2_ n3_ n4_; (try clear hb); (try clear hb2); (try clear hk); (try clear hi))); try go_wp2_with (first | ((with_reducible refine gate_dst (N := 1) rfl ?_); (try (refine gate_guard (by rfl) ?_; dsimp only)); refine bx1 (N := 1) #[.int .i64 a0_0, .int .i64 a0_1, .int .i64 a0_2, .slice A0_3 l0_3.length c0_3, .slice A0_4 l0_4.length c0_4, .slice A0_5 l0_5.length c0_5, .slice A0_6 l0_6.length c0_6] 25 ?_; intro gb110 hg w38 hbox hb; have n0_ := Aside0.mk (Kd.V_below (Kd.V_elderB (vu HO0_4.out) gb110 (Nat.le_of_eq hg.symm)) hb); have n1_ := Aside0.mk (Kd.V_below (Kd.V_elderB (vu HO0_5.out) gb110 (Nat.le_of_eq hg.symm)) hb); have n2_ := Aside0.mk (Kd.V_below (Kd.V_elderB (vu HO0_6.out) gb110 (Nat.le_of_eq hg.symm)) hb); have n3_ := Aside0.mk (below_step bl hb); have n4_ := Aside0.mk (hbox); have n5_ := Aside0.mk ((gs1 : w.heap.size ≤ gb110)); have n6_ := Aside0.mk ((gs1 : w.heap.size ≤ gb110)); clear HO0_4; clear HO0_5; clear HO0_6; clear HB; have HO0_4 := n0_; have HO0_5 := n1_; have HO0_6 := n2_; have HB := n3_; have BK110 := n4_; have GW110 := n5_; have GE110 := n6_; clear n0_ n1_ n2_ n3_ n4_ n5_ n6_; clear hb hbox hg; have hcz39 := blk_cells BK110.out; have hfz39 := blk_frozens BK110.out) | (go_at_call 50; (with_reducible refine (cutting_head.calls k a0_0 a0_1 a0_2 _ _ l0_3 _ _ l0_4 _ _ l0_5 _ _ l0_6 t111 _ ?side1 ?side2 ?side3 ?side4 ?side5 ?side6 ?side7 ?side8 A2.out).mono ?_); (case side1 => exact cu1 (Kd.C_below HR0_3.out HB.out)); (case side2 => exact HC0_3.out); (case side3 => repeat (first | exact (Kd.V_reads' HO0_4.out).2.2 | (with_reducible refine Kd.C_alloc ?_ _) | (with_reducible refine Kd.C_drewN ?_ _) | (with_reducible refine Kd.C_drew ?_))); (case side4 => exact (Kd.V_reads' HO0_4.out).2.1); (case side5 => repeat (first | exact (Kd.V_reads' HO0_5.out).2.2 | (with_reducible refine Kd.C_alloc ?_ _) | (with_reducible refine Kd.C_drewN ?_ _) | (with_reducible refine Kd.C_drew ?_))); (case side6 => exact (Kd.V_reads' HO0_5.out).2.1); (case side7 => repeat (first | exact (Kd.V_reads' HO0_6.out).2.2 | (with_reducible refine Kd.C_alloc ?_ _) | (with_reducible refine Kd.C_drewN ?_ _) | (with_reducible refine Kd.C_drew ?_))); (case side8 => exact (Kd.V_reads' HO0_6.out).2.1); rintro e w40 ⟨rfl, hb⟩; have n0_ := Aside0.mk (Kd.V_below (vu HO0_4.out) hb); have n1_ := Aside0.mk (Kd.V_below (vu HO0_5.out) hb); have n2_ := Aside0.mk (Kd.V_below (vu HO0_6.out) hb); have n3_ := Aside0.mk (blk_below (bu BK110.out) hb); have n4_ := Aside0.mk (below_step bl hb); clear HO0_4; clear HO0_5; clear HO0_6; clear BK110; clear HB; have HO0_4 := n0_; have HO0_5 := n1_; have HO0_6 := n2_; have BK110 := n3_; have HB := n4_; clear n0_ n1_ n2_ n3_ n4_; (try clear hb); (try clear hb2); (try clear hk); (try clear hi))))
   go_ret
   exact ⟨fe1, bl⟩
 rw [if_pos c3] at H
 have c3b0 : (t111 == 0) = true := beq_iff_eq.mpr c3
 have c3b1 : (t111 != 0) = false := bne_eq_false_iff_eq.mpr c3
 clear c3
 have HC4 := Aside0.mk H
 clear H
 go_enter Tryd.func19, Tryd.ntmps19
 go_upto_region 4 with (first | ((with_reducible refine gate_dst (N := 1) rfl ?_); (try (refine gate_guard (by rfl) ?_; dsimp only)); refine bx1 (N := 1) #[.int .i64 a0_0, .int .i64 a0_1, .int .i64 a0_2, .slice A0_3 l0_3.length c0_3, .slice A0_4 l0_4.length c0_4, .slice A0_5 l0_5.length c0_5, .slice A0_6 l0_6.length c0_6] 25 ?_; intro gb110 hg w5 hbox hb; have n0_ := Aside0.mk (Kd.V_below (Kd.V_elderB (vu HO0_4.out) gb110 (Nat.le_of_eq hg.symm)) hb); have n1_ := Aside0.mk (Kd.V_below (Kd.V_elderB (vu HO0_5.out) gb110 (Nat.le_of_eq hg.symm)) hb); have n2_ := Aside0.mk (Kd.V_below (Kd.V_elderB (vu HO0_6.out) gb110 (Nat.le_of_eq hg.symm)) hb); have n3_ := Aside0.mk (below_step bl hb); have n4_ := Aside0.mk (hbox); have n5_ := Aside0.mk ((gs1 : w.heap.size ≤ gb110)); have n6_ := Aside0.mk ((gs1 : w.heap.size ≤ gb110)); clear HO0_4; clear HO0_5; clear HO0_6; clear HB; have HO0_4 := n0_; have HO0_5 := n1_; have HO0_6 := n2_; have HB := n3_; have BK110 := n4_; have GW110 := n5_; have GE110 := n6_; clear n0_ n1_ n2_ n3_ n4_ n5_ n6_; clear hb hbox hg; have hcz6 := blk_cells BK110.out; have hfz6 := blk_frozens BK110.out) | (go_at_call 50; (with_reducible refine (cutting_head.calls k a0_0 a0_1 a0_2 _ _ l0_3 _ _ l0_4 _ _ l0_5 _ _ l0_6 t111 _ ?side1 ?side2 ?side3 ?side4 ?side5 ?side6 ?side7 ?side8 A2.out).mono ?_); (case side1 => exact cu1 (Kd.C_below HR0_3.out HB.out)); (case side2 => exact HC0_3.out); (case side3 => repeat (first | exact (Kd.V_reads' HO0_4.out).2.2 | (with_reducible refine Kd.C_alloc ?_ _) | (with_reducible refine Kd.C_drewN ?_ _) | (with_reducible refine Kd.C_drew ?_))); (case side4 => exact (Kd.V_reads' HO0_4.out).2.1); (case side5 => repeat (first | exact (Kd.V_reads' HO0_5.out).2.2 | (with_reducible refine Kd.C_alloc ?_ _) | (with_reducible refine Kd.C_drewN ?_ _) | (with_reducible refine Kd.C_drew ?_))); (case side6 => exact (Kd.V_reads' HO0_5.out).2.1); (case side7 => repeat (first | exact (Kd.V_reads' HO0_6.out).2.2 | (with_reducible refine Kd.C_alloc ?_ _) | (with_reducible refine Kd.C_drewN ?_ _) | (with_reducible refine Kd.C_drew ?_))); (case side8 => exact (Kd.V_reads' HO0_6.out).2.1); rintro e w7 ⟨rfl, hb⟩; have n0_ := Aside0.mk (Kd.V_below (vu HO0_4.out) hb); have n1_ := Aside0.mk (Kd.V_below (vu HO0_5.out) hb); have n2_ := Aside0.mk (Kd.V_below (vu HO0_6.out) hb); have n3_ := Aside0.mk (blk_below (bu BK110.out) hb); have n4_ := Aside0.mk (below_step bl hb); clear HO0_4; clear HO0_5; clear HO0_6; clear BK110; clear HB; have HO0_4 := n0_; have HO0_5 := n1_; have HO0_6 := n2_; have BK110 := n3_; have HB := n4_; clear n0_ n1_ n2_ n3_ n4_; (try clear hb); (try clear hb2); (try clear hk); (try clear hi)))
 repeat (go_quiet (first | ((with_reducible refine gate_dst (N := 1) rfl ?_); (try (refine gate_guard (by rfl) ?_; dsimp only)); refine bx1 (N := 1) #[.int .i64 a0_0, .int .i64 a0_1, .int .i64 a0_2, .slice A0_3 l0_3.length c0_3, .slice A0_4 l0_4.length c0_4, .slice A0_5 l0_5.length c0_5, .slice A0_6 l0_6.length c0_6] 25 ?_; intro gb110 hg w5 hbox hb; have n0_ := Aside0.mk (Kd.V_below (Kd.V_elderB (vu HO0_4.out) gb110 (Nat.le_of_eq hg.symm)) hb); have n1_ := Aside0.mk (Kd.V_below (Kd.V_elderB (vu HO0_5.out) gb110 (Nat.le_of_eq hg.symm)) hb); have n2_ := Aside0.mk (Kd.V_below (Kd.V_elderB (vu HO0_6.out) gb110 (Nat.le_of_eq hg.symm)) hb); have n3_ := Aside0.mk (below_step bl hb); have n4_ := Aside0.mk (hbox); have n5_ := Aside0.mk ((gs1 : w.heap.size ≤ gb110)); have n6_ := Aside0.mk ((gs1 : w.heap.size ≤ gb110)); clear HO0_4; clear HO0_5; clear HO0_6; clear HB; have HO0_4 := n0_; have HO0_5 := n1_; have HO0_6 := n2_; have HB := n3_; have BK110 := n4_; have GW110 := n5_; have GE110 := n6_; clear n0_ n1_ n2_ n3_ n4_ n5_ n6_; clear hb hbox hg; have hcz6 := blk_cells BK110.out; have hfz6 := blk_frozens BK110.out) | (go_at_call 50; (with_reducible refine (cutting_head.calls k a0_0 a0_1 a0_2 _ _ l0_3 _ _ l0_4 _ _ l0_5 _ _ l0_6 t111 _ ?side1 ?side2 ?side3 ?side4 ?side5 ?side6 ?side7 ?side8 A2.out).mono ?_); (case side1 => exact cu1 (Kd.C_below HR0_3.out HB.out)); (case side2 => exact HC0_3.out); (case side3 => repeat (first | exact (Kd.V_reads' HO0_4.out).2.2 | (with_reducible refine Kd.C_alloc ?_ _) | (with_reducible refine Kd.C_drewN ?_ _) | (with_reducible refine Kd.C_drew ?_))); (case side4 => exact (Kd.V_reads' HO0_4.out).2.1); (case side5 => repeat (first | exact (Kd.V_reads' HO0_5.out).2.2 | (with_reducible refine Kd.C_alloc ?_ _) | (with_reducible refine Kd.C_drewN ?_ _) | (with_reducible refine Kd.C_drew ?_))); (case side6 => exact (Kd.V_reads' HO0_5.out).2.1); (case side7 => repeat (first | exact (Kd.V_reads' HO0_6.out).2.2 | (with_reducible refine Kd.C_alloc ?_ _) | (with_reducible refine Kd.C_drewN ?_ _) | (with_reducible refine Kd.C_drew ?_))); (case side8 => exact (Kd.V_reads' HO0_6.out).2.1); rintro e w7 ⟨rfl, hb⟩; have n0_ := Aside0.mk (Kd.V_below (vu HO0_4.out) hb); have n1_ := Aside0.mk (Kd.V_below (vu HO0_5.out) hb); have n2_ := Aside0.mk (Kd.V_below (vu HO0_6.out) hb); have n3_ := Aside0.mk (blk_below (bu BK110.out) hb); have n4_ := Aside0.mk (below_step bl hb); clear HO0_4; clear HO0_5; clear HO0_6; clear BK110; clear HB; have HO0_4 := n0_; have HO0_5 := n1_; have HO0_6 := n2_; have BK110 := n3_; have HB := n4_; clear n0_ n1_ n2_ n3_ n4_; (try clear hb); (try clear hb2); (try clear hk); (try clear hi))); go_upto_region 4 with (first | ((with_reducible refine gate_dst (N := 1) rfl ?_); (try (refine gate_guard (by rfl) ?_; dsimp only)); refine bx1 (N := 1) #[.int .i64 a0_0, .int .i64 a0_1, .int .i64 a0_2, .slice A0_3 l0_3.length c0_3, .slice A0_4 l0_4.length c0_4, .slice A0_5 l0_5.length c0_5, .slice A0_6 l0_6.length c0_6] 25 ?_; intro gb110 hg w5 hbox hb; have n0_ := Aside0.mk (Kd.V_below (Kd.V_elderB (vu HO0_4.out) gb110 (Nat.le_of_eq hg.symm)) hb); have n1_ := Aside0.mk (Kd.V_below (Kd.V_elderB (vu HO0_5.out) gb110 (Nat.le_of_eq hg.symm)) hb); have n2_ := Aside0.mk (Kd.V_below (Kd.V_elderB (vu HO0_6.out) gb110 (Nat.le_of_eq hg.symm)) hb); have n3_ := Aside0.mk (below_step bl hb); have n4_ := Aside0.mk (hbox); have n5_ := Aside0.mk ((gs1 : w.heap.size ≤ gb110)); have n6_ := Aside0.mk ((gs1 : w.heap.size ≤ gb110)); clear HO0_4; clear HO0_5; clear HO0_6; clear HB; have HO0_4 := n0_; have HO0_5 := n1_; have HO0_6 := n2_; have HB := n3_; have BK110 := n4_; have GW110 := n5_; have GE110 := n6_; clear n0_ n1_ n2_ n3_ n4_ n5_ n6_; clear hb hbox hg; have hcz6 := blk_cells BK110.out; have hfz6 := blk_frozens BK110.out) | (go_at_call 50; (with_reducible refine (cutting_head.calls k a0_0 a0_1 a0_2 _ _ l0_3 _ _ l0_4 _ _ l0_5 _ _ l0_6 t111 _ ?side1 ?side2 ?side3 ?side4 ?side5 ?side6 ?side7 ?side8 A2.out).mono ?_); (case side1 => exact cu1 (Kd.C_below HR0_3.out HB.out)); (case side2 => exact HC0_3.out); (case side3 => repeat (first | exact (Kd.V_reads' HO0_4.out).2.2 | (with_reducible refine Kd.C_alloc ?_ _) | (with_reducible refine Kd.C_drewN ?_ _) | (with_reducible refine Kd.C_drew ?_))); (case side4 => exact (Kd.V_reads' HO0_4.out).2.1); (case side5 => repeat (first | exact (Kd.V_reads' HO0_5.out).2.2 | (with_reducible refine Kd.C_alloc ?_ _) | (with_reducible refine Kd.C_drewN ?_ _) | (with_reducible refine Kd.C_drew ?_))); (case side6 => exact (Kd.V_reads' HO0_5.out).2.1); (case side7 => repeat (first | exact (Kd.V_reads' HO0_6.out).2.2 | (with_reducible refine Kd.C_alloc ?_ _) | (with_reducible refine Kd.C_drewN ?_ _) | (with_reducible refine Kd.C_drew ?_))); (case side8 => exact (Kd.V_reads' HO0_6.out).2.1); rintro e w7 ⟨rfl, hb⟩; have n0_ := Aside0.mk (Kd.V_below (vu HO0_4.out) hb); have n1_ := Aside0.mk (Kd.V_below (vu HO0_5.out) hb); have n2_ := Aside0.mk (Kd.V_below (vu HO0_6.out) hb); have n3_ := Aside0.mk (blk_below (bu BK110.out) hb); have n4_ := Aside0.mk (below_step bl hb); clear HO0_4; clear HO0_5; clear HO0_6; clear BK110; clear HB; have HO0_4 := n0_; have HO0_5 := n1_; have HO0_6 := n2_; have BK110 := n3_; have HB := n4_; clear n0_ n1_ n2_ n3_ n4_; (try clear hb); (try clear hb2); (try clear hk); (try clear hi))))
 (try simp only [Act.put, List.setIfInBounds_toArray, List.set_cons_zero, List.set_cons_succ])
 go_cut [37] (fun v37 wc => ∃ (kq : Nat) (x37_3 : Bool), v37 = .bool x37_3 ∧ Aside0 (cutting_Check.j0 kq x37_3 a0_0 a0_1 a0_2 l0_3 l0_4 l0_5 l0_6 = some r) ∧ Aside0 (kq ≤ k) ∧ Aside0 (Kd.V (Kd.slice 3 (Kd.int .i64)) 22 wc w.heap.size (fun k_ => ((P0_4_ k_ ∨ P0_5_ k_ ∨ P0_6_ k_) ∨ w.heap.size ≤ k_) ∧ k_ ≠ gb110) (.slice A0_4 l0_4.length c0_4) l0_4) ∧ Aside0 (Kd.V (Kd.int .i64) 3 wc w.heap.size (fun k_ => ((P0_4_ k_ ∨ P0_5_ k_ ∨ P0_6_ k_) ∨ w.heap.size ≤ k_) ∧ k_ ≠ gb110) (.slice A0_5 l0_5.length c0_5) l0_5) ∧ Aside0 (Kd.V (Kd.int .i64) 3 wc w.heap.size (fun k_ => ((P0_4_ k_ ∨ P0_5_ k_ ∨ P0_6_ k_) ∨ w.heap.size ≤ k_) ∧ k_ ≠ gb110) (.slice A0_6 l0_6.length c0_6) l0_6) ∧ Aside0 (wc.heap[gb110]? = some (.cells #[.int .i64 a0_0, .int .i64 a0_1, .int .i64 a0_2, (.slice A0_3 l0_3.length c0_3), (.slice A0_4 l0_4.length c0_4), (.slice A0_5 l0_5.length c0_5), (.slice A0_6 l0_6.length c0_6)] 25 (0, 0))) ∧ Aside0 (Below w.heap.size w wc))
 case first =>
  have H := HC4.out
  clear HC4
  by_cases c8 : (l0_4.length : Int) = (l0_3.length : Int)
  rotate_left
  · rw [if_neg c8] at H
    have c8b0 : ((l0_4.length : Int) == (l0_3.length : Int)) = false := beq_eq_false_iff_ne.mpr c8
    have c8b1 : ((l0_4.length : Int) != (l0_3.length : Int)) = true := bne_iff_ne.mpr c8
    have c8b2 : (l0_4.length == l0_3.length) = false := by first | simpa using c8 | (simp at c8 ⊢; omega)
    (first | rw [c8b0] | (simp only [i64_w, i32_w]; rw [c8b0]) | skip)
    have H' := Aside0.mk H
    clear H
    have hcz12 := blk_cells BK110.out
    have hfz12 := blk_frozens BK110.out
    exact L19_0
  rw [if_pos c8] at H
  have c8b0 : ((l0_4.length : Int) == (l0_3.length : Int)) = true := beq_iff_eq.mpr c8
  have c8b1 : ((l0_4.length : Int) != (l0_3.length : Int)) = false := bne_eq_false_iff_eq.mpr c8
  have c8b2 : (l0_4.length == l0_3.length) = true := by first | simpa using c8 | (simp at c8 ⊢; omega)
  clear c8
  (first | rw [c8b0] | (simp only [i64_w, i32_w]; rw [c8b0]) | skip)
  by_cases c9 : (l0_5.length : Int) = a0_0
  rotate_left
  · rw [if_neg c9] at H
    have c9b0 : ((l0_5.length : Int) == a0_0) = false := beq_eq_false_iff_ne.mpr c9
    have c9b1 : ((l0_5.length : Int) != a0_0) = true := bne_iff_ne.mpr c9
    have H' := Aside0.mk H
    clear H
    have hcz11 := blk_cells BK110.out
    have hfz11 := blk_frozens BK110.out
    exact L19_0
  rw [if_pos c9] at H
  have c9b0 : ((l0_5.length : Int) == a0_0) = true := beq_iff_eq.mpr c9
  have c9b1 : ((l0_5.length : Int) != a0_0) = false := bne_eq_false_iff_eq.mpr c9
  clear c9
  have H' := Aside0.mk H
  clear H
  have hcz10 := blk_cells BK110.out
  have hfz10 := blk_frozens BK110.out
  go_wp2
  repeat (go_quiet (fail); try go_wp2)
  go_meet
  case rel => exact ⟨_, (((l0_6.length : Int) != a0_0)), rs1, H', ⟨by first | omega | exact Nat.le_refl _⟩, ⟨by (with_reducible repeat (first | apply Kd.V_alloc | apply Kd.V_drewN | apply Kd.V_drew)); exact HO0_4.out⟩, ⟨by (with_reducible repeat (first | apply Kd.V_alloc | apply Kd.V_drewN | apply Kd.V_drew)); exact HO0_5.out⟩, ⟨by (with_reducible repeat (first | apply Kd.V_alloc | apply Kd.V_drewN | apply Kd.V_drew)); exact HO0_6.out⟩, ⟨bu BK110.out⟩, ⟨bl⟩⟩
 clear HC4; (try clear c1); (try clear p2); (try clear c3); (try clear c3b0); (try clear c3b1); (try clear c8); (try clear c8b0); (try clear c8b1); (try clear c8b2); (try clear c9); (try clear c9b0); (try clear c9b1); (try clear hcz10); (try clear hcz11); (try clear hcz12); (try clear hcz6); (try clear hfz10); (try clear hfz11); (try clear hfz12); (try clear hfz6)
 obtain ⟨kq, x37_3, rfl, HA, HJ3, HO_111004, HO_111005, HO_111006, BK110, HB⟩ := hcut
 rcases kq with _ | kj3
 · exact absurd HA.out (by simp [cutting_Check.j0])
 have H := HA.out
 clear HA
 simp only [cutting_Check.j0] at H
 by_cases c13 : x37_3 = true
 · subst c13
   have H1 : (some 19) = some r := by rw [if_pos rfl] at H; exact H
   clear H
   have H := H1
   clear H1
   obtain rfl := Option.some.inj H
   go_wp2
   repeat (go_quiet (fail); try go_wp2)
   go_ret
   exact ⟨fe1, bl⟩
 replace c13 := Bool.eq_false_iff.mpr c13
 subst c13
 have H1 : (cutting_Check.l0 kj3 l0_4 (l0_4.length : Int) 0 a0_0 a0_1 a0_2 l0_3 l0_4 l0_5 l0_6) = some r := by rw [if_neg (show ¬ (false = true) by decide)] at H; exact H
 clear H
 have H := H1
 clear H1
 have H' := Aside0.mk H
 clear H
 have hcz14 := blk_cells BK110.out
 have hfz14 := blk_frozens BK110.out
 go_wp2
 repeat (go_quiet (fail); try go_wp2)
 go_loopg [41] kj3 (fun kq v41 w' => ∃ (x41_2 : Int), v41 = .int .i64 x41_2 ∧ Aside0 (cutting_Check.l0 kq l0_4 (l0_4.length : Int) x41_2 a0_0 a0_1 a0_2 l0_3 l0_4 l0_5 l0_6 = some r) ∧ Aside0 (kq ≤ kj3) ∧ Aside0 (Kd.V (Kd.slice 3 (Kd.int .i64)) 22 w' w.heap.size (fun k_ => ((P0_4_ k_ ∨ P0_5_ k_ ∨ P0_6_ k_) ∨ w.heap.size ≤ k_) ∧ k_ ≠ gb110) (.slice A0_4 l0_4.length c0_4) l0_4) ∧ Aside0 (Kd.V (Kd.slice 3 (Kd.int .i64)) 22 w' w.heap.size (fun k_ => ((P0_4_ k_ ∨ P0_5_ k_ ∨ P0_6_ k_) ∨ w.heap.size ≤ k_) ∧ k_ ≠ gb110) (.slice A0_4 l0_4.length c0_4) l0_4) ∧ Aside0 (Kd.V (Kd.int .i64) 3 w' w.heap.size (fun k_ => ((P0_4_ k_ ∨ P0_5_ k_ ∨ P0_6_ k_) ∨ w.heap.size ≤ k_) ∧ k_ ≠ gb110) (.slice A0_5 l0_5.length c0_5) l0_5) ∧ Aside0 (Kd.V (Kd.int .i64) 3 w' w.heap.size (fun k_ => ((P0_4_ k_ ∨ P0_5_ k_ ∨ P0_6_ k_) ∨ w.heap.size ≤ k_) ∧ k_ ≠ gb110) (.slice A0_6 l0_6.length c0_6) l0_6) ∧ Aside0 (w'.heap[gb110]? = some (.cells #[.int .i64 a0_0, .int .i64 a0_1, .int .i64 a0_2, (.slice A0_3 l0_3.length c0_3), (.slice A0_4 l0_4.length c0_4), (.slice A0_5 l0_5.length c0_5), (.slice A0_6 l0_6.length c0_6)] 25 (0, 0))) ∧ Aside0 (Below w.heap.size w w'))
 case atStart => exact ⟨(0), rs1, H', ⟨Nat.le_refl _⟩, ⟨by (with_reducible repeat (first | apply Kd.V_alloc | apply Kd.V_drewN | apply Kd.V_drew)); exact HO_111004.out⟩, ⟨by (with_reducible repeat (first | apply Kd.V_alloc | apply Kd.V_drewN | apply Kd.V_drew)); exact HO_111004.out⟩, ⟨by (with_reducible repeat (first | apply Kd.V_alloc | apply Kd.V_drewN | apply Kd.V_drew)); exact HO_111005.out⟩, ⟨by (with_reducible repeat (first | apply Kd.V_alloc | apply Kd.V_drewN | apply Kd.V_drew)); exact HO_111006.out⟩, ⟨bu BK110.out⟩, ⟨bl⟩⟩
 clear H'; (try clear c1); (try clear p2); (try clear c3); (try clear c3b0); (try clear c3b1); (try clear c8); (try clear c8b0); (try clear c8b1); (try clear c8b2); (try clear c9); (try clear c9b0); (try clear c9b1); (try clear c13); (try clear hcz10); (try clear hcz11); (try clear hcz12); (try clear hcz14); (try clear hcz6); (try clear hfz10); (try clear hfz11); (try clear hfz12); (try clear hfz14); (try clear hfz6); (try clear p2)
 obtain ⟨x41_2, rfl, HA, HK2, HO_39, HO_111004, HO_111005, HO_111006, BK110, HB⟩ := hrel
 rcases gk with _ | k2
 · exact absurd HA.out (by simp [cutting_Check.l0])
 have H := HA.out
 clear HA
 simp only [cutting_Check.l0] at H
 by_cases c15 : x41_2 < (l0_4.length : Int)
 · rw [if_pos c15] at H
   have c15b0 : decide (x41_2 < (l0_4.length : Int)) = true := decide_eq_true c15
   clear c15
   obtain ⟨c16, H⟩ := gd1 H
   have c16b0 : decide (0 ≤ x41_2) = true := decide_eq_true c16
   clear c16
   obtain ⟨c17, H⟩ := gd1 H
   have c17b0 : decide (x41_2 < (l0_4.length : Int)) = true := decide_eq_true c17
   clear c17
   obtain ⟨c18, H⟩ := gd1 H
   have c18b0 : decide (x41_2 < (l0_3.length : Int)) = true := decide_eq_true c18
   clear c18
   obtain ⟨ji19, hji19⟩ : ∃ j_ : Int, (mx 0 (wrap64 ((wrap64 (a0_0 - (rd l0_3 x41_2))) + 1))) = j_ := ⟨_, rfl⟩
   replace H : (if ((rd_L1 l0_4 x41_2).length : Int) = (ji19) then (cutting_Check.l0 k2 l0_4 (l0_4.length : Int) (wrap64 (x41_2 + 1)) a0_0 a0_1 a0_2 l0_3 l0_4 l0_5 l0_6) else (some 19)) = some r := by first | (rw [hji19] at H; exact H) | (simp only [hji19] at H ⊢; exact H)
   have hji19_ : (if 0 < (wrap64 ((wrap64 (a0_0 - (rd l0_3 x41_2))) + 1)) then (wrap64 ((wrap64 (a0_0 - (rd l0_3 x41_2))) + 1)) else 0) = ji19 := hji19
   by_cases c20 : ((rd_L1 l0_4 x41_2).length : Int) = (ji19)
   rotate_left
   · rw [if_neg c20] at H
     have c20b0 : (((rd_L1 l0_4 x41_2).length : Int) == (ji19)) = false := beq_eq_false_iff_ne.mpr c20
     have c20b1 : (((rd_L1 l0_4 x41_2).length : Int) != (ji19)) = true := bne_iff_ne.mpr c20
     obtain rfl := Option.some.inj H
     have p112 : 0 ≤ (x41_2 : Int) := da1
     have q112 : x41_2 < (l0_4.length : Int) := da1
     obtain ⟨ad112, A112_0, c112_0, e112, hx112_0, hl112_0, hi112_0⟩ := at_L1 (Kd.V_reads' HO_39.out).2.2 x41_2 p112 q112
     cases e112
     obtain ⟨ce112, hce112, hMe112, hcc112⟩ := Kd.V_get HO_39.out [] x41_2 p112 (by first | exact q112 | exact da1 | (have e_ := (Kd.V_reads' HO_39.out).1; omega))
     obtain ⟨ua112_0, uc112_0, rfl, ul112_0, ge112_0⟩ := Kd.FK_slice_open hMe112
     have hv112_0 := hcc112 0 _ rfl
     rw [Nat.add_zero, show ((Kd.slice 3 (Kd.int .i64))).sz = 1 from rfl, Nat.mul_one] at hv112_0
     replace hv112_0 := Option.some.inj (hv112_0.symm.trans hx112_0)
     injection hv112_0 with hva_ hvn_ hvc_
     rw [hva_] at ge112_0
     rw [hvc_] at ul112_0
     have HL112_0 := Aside0.mk (show Kd.V (Kd.int .i64) 3 _ w.heap.size _ _ (rd_L1 l0_4 x41_2) from Kd.V_mk ul112_0 ge112_0)
     clear hva_ hvn_ hvc_ ge112_0 ul112_0; clear hcc112 hce112
     have HR112_0 := Aside0.mk hi112_0
     have HC112_0 := Aside0.mk hl112_0
     clear hi112_0 hl112_0
     replace p112 := eq_true p112
     replace q112 := eq_true q112
     have hcz22 := blk_cells BK110.out
     have hfz22 := blk_frozens BK110.out
     have p113 : 0 ≤ (x41_2 : Int) := da1
     have q113 : x41_2 < (l0_3.length : Int) := da1
     obtain ⟨ad113, e113, hx113_0⟩ := Kd.at_int HR0_3.out x41_2 p113 q113
     cases e113
     (try replace hx113_0 := (HB.out.cell (World.block_lt_of_cell? w _ hx113_0)).trans hx113_0)
     replace p113 := eq_true p113
     replace q113 := eq_true q113
     go_wp2
     repeat (go_quiet (fail); try go_wp2)
     go_ret
     exact ⟨by first | rfl | (simp [errW_none, errW_some] <;> rfl) | (simp only [← hji19]; first | rfl | (simp [errW_none, errW_some] <;> rfl)) | (simp [*, errW_none, errW_some] <;> rfl), bl⟩
   rw [if_pos c20] at H
   have c20b0 : (((rd_L1 l0_4 x41_2).length : Int) == (ji19)) = true := beq_iff_eq.mpr c20
   have c20b1 : (((rd_L1 l0_4 x41_2).length : Int) != (ji19)) = false := bne_eq_false_iff_eq.mpr c20
   clear c20
   have H' := Aside0.mk H
   clear H
   have p112 : 0 ≤ (x41_2 : Int) := da1
   have q112 : x41_2 < (l0_4.length : Int) := da1
   obtain ⟨ad112, A112_0, c112_0, e112, hx112_0, hl112_0, hi112_0⟩ := at_L1 (Kd.V_reads' HO_39.out).2.2 x41_2 p112 q112
   cases e112
   obtain ⟨ce112, hce112, hMe112, hcc112⟩ := Kd.V_get HO_39.out [] x41_2 p112 (by first | exact q112 | exact da1 | (have e_ := (Kd.V_reads' HO_39.out).1; omega))
   obtain ⟨ua112_0, uc112_0, rfl, ul112_0, ge112_0⟩ := Kd.FK_slice_open hMe112
   have hv112_0 := hcc112 0 _ rfl
   rw [Nat.add_zero, show ((Kd.slice 3 (Kd.int .i64))).sz = 1 from rfl, Nat.mul_one] at hv112_0
   replace hv112_0 := Option.some.inj (hv112_0.symm.trans hx112_0)
   injection hv112_0 with hva_ hvn_ hvc_
   rw [hva_] at ge112_0
   rw [hvc_] at ul112_0
   have HL112_0 := Aside0.mk (show Kd.V (Kd.int .i64) 3 _ w.heap.size _ _ (rd_L1 l0_4 x41_2) from Kd.V_mk ul112_0 ge112_0)
   clear hva_ hvn_ hvc_ ge112_0 ul112_0; clear hcc112 hce112
   have HR112_0 := Aside0.mk hi112_0
   have HC112_0 := Aside0.mk hl112_0
   clear hi112_0 hl112_0
   replace p112 := eq_true p112
   replace q112 := eq_true q112
   have hcz21 := blk_cells BK110.out
   have hfz21 := blk_frozens BK110.out
   have p113 : 0 ≤ (x41_2 : Int) := da1
   have q113 : x41_2 < (l0_3.length : Int) := da1
   obtain ⟨ad113, e113, hx113_0⟩ := Kd.at_int HR0_3.out x41_2 p113 q113
   cases e113
   (try replace hx113_0 := (HB.out.cell (World.block_lt_of_cell? w _ hx113_0)).trans hx113_0)
   replace p113 := eq_true p113
   replace q113 := eq_true q113
   go_wp2
   repeat (go_quiet (fail); try go_wp2)
   go_roundg k2
   case measure => have := HJ3.out; have := HK2.out; omega
   case rel => exact ⟨(wrap64 (x41_2 + 1)), rs1, H', ⟨by have := HJ3.out; have := HK2.out; omega⟩, ⟨by (with_reducible repeat (first | apply Kd.V_alloc | apply Kd.V_drewN | apply Kd.V_drew)); exact HO_39.out⟩, ⟨by (with_reducible repeat (first | apply Kd.V_alloc | apply Kd.V_drewN | apply Kd.V_drew)); exact HO_111004.out⟩, ⟨by (with_reducible repeat (first | apply Kd.V_alloc | apply Kd.V_drewN | apply Kd.V_drew)); exact HO_111005.out⟩, ⟨by (with_reducible repeat (first | apply Kd.V_alloc | apply Kd.V_drewN | apply Kd.V_drew)); exact HO_111006.out⟩, ⟨bu BK110.out⟩, ⟨bl⟩⟩
 rw [if_neg c15] at H
 have c15b0 : decide (x41_2 < (l0_4.length : Int)) = false := decide_eq_false c15
 clear c15
 obtain ⟨y114, hy114⟩ : ∃ y_ : List (List Int), y_ = (([l0_5, l0_6] : List (List Int))) := ⟨_, rfl⟩
 replace H : (if y114.length + l0_4.length < 5864062014805 then ((some (y114 ++ l0_4 : List (List Int))).bind fun y117 => (cutting_Check.l1 k2 y117 (y117.length : Int) 0)) else (none)) = some r := by first | (rw [hy114]; with_reducible exact H) | (have H2_ := (Option.bind_some _ _).symm.trans H; rw [hy114]; with_reducible exact H2_) | (have H2_ := (Option.bind_some _ _).symm.trans H; with_reducible exact H2_) | with_reducible exact H | (rw [hy114]; exact H) | exact H
 have Ny114 := Aside0.mk hy114
 clear hy114
 obtain ⟨c23, H⟩ := gd1 H
 have LMc23 := Aside0.mk c23
 clear c23
 obtain ⟨y117, hy117⟩ : ∃ y_ : List (List Int), y_ = (y114 ++ l0_4) := ⟨_, rfl⟩
 replace H : (cutting_Check.l1 k2 y117 (y117.length : Int) 0) = some r := by first | (rw [hy117]; with_reducible exact H) | (have H2_ := (Option.bind_some _ _).symm.trans H; rw [hy117]; with_reducible exact H2_) | (have H2_ := (Option.bind_some _ _).symm.trans H; with_reducible exact H2_) | with_reducible exact H | (rw [hy117]; exact H) | exact H
 have Ny117 := Aside0.mk hy117
 clear hy117
 have H' := Aside0.mk H
 clear H
 have hcz24 := blk_cells BK110.out
 have hfz24 := blk_frozens BK110.out
 go_wp2_with (first | ((with_reducible refine gate_dst (N := 64) rfl ?_); (try (refine gate_guard (by rfl) ?_; dsimp only)); refine Kd.N_lit (Kd.slice 3 (Kd.int .i64)) _ 22 ?hg (N' := 64) ?hd (xs := ([l0_5, l0_6] : List (List Int))) (inner := [.slice A0_5 l0_5.length c0_5, .slice A0_6 l0_6.length c0_6]) (ok := (fun k_ => ((P0_4_ k_ ∨ P0_5_ k_ ∨ P0_6_ k_) ∨ w.heap.size ≤ k_) ∧ k_ ≠ gb110)) (okp := (fun k_ => ((P0_4_ k_ ∨ P0_5_ k_ ∨ P0_6_ k_) ∨ w.heap.size ≤ k_) ∧ k_ ≠ gb110)) ?hr ?hp (fun _ hk => hk) ((show ∀ k_, wr.heap.size ≤ k_ → (fun k_ => ((P0_4_ k_ ∨ P0_5_ k_ ∨ P0_6_ k_) ∨ w.heap.size ≤ k_) ∧ k_ ≠ gb110) k_ from fun k_ hk => ⟨(.inr (Nat.le_trans (below_size bl) hk)), Kd.freshB (g := gb110) (o := .cells #[.int .i64 a0_0, .int .i64 a0_1, .int .i64 a0_2, .slice A0_3 l0_3.length c0_3, .slice A0_4 l0_4.length c0_4, .slice A0_5 l0_5.length c0_5, .slice A0_6 l0_6.length c0_6] 25 (0, 0)) (bu BK110.out) k_ hk⟩) _ (Nat.le_refl _)) (Below.refl _ _) (Nat.le_refl _) (by simp) ?_; (case hd => rfl); (case hg => rfl); (case hr => first | (go_simp; done) | (go_simp; rfl)); (case hp => exact (Reps.one (show Kd.FK (Kd.slice 3 (Kd.int .i64)) _ _ l0_5 [.slice A0_5 l0_5.length c0_5] from (Kd.FK_slice_mk (Kd.V_reads' (Kd.V_mono (ok' := (fun k_ => ((P0_4_ k_ ∨ P0_5_ k_ ∨ P0_6_ k_) ∨ w.heap.size ≤ k_) ∧ k_ ≠ gb110)) (HO_111005.out) (fun k_ hk => ⟨hk.1, hk.2⟩))).2.1 (Kd.V_F (Kd.V_mono (ok' := (fun k_ => ((P0_4_ k_ ∨ P0_5_ k_ ∨ P0_6_ k_) ∨ w.heap.size ≤ k_) ∧ k_ ≠ gb110)) (HO_111005.out) (fun k_ hk => ⟨hk.1, hk.2⟩))))) (Reps.one (show Kd.FK (Kd.slice 3 (Kd.int .i64)) _ _ l0_6 [.slice A0_6 l0_6.length c0_6] from (Kd.FK_slice_mk (Kd.V_reads' (Kd.V_mono (ok' := (fun k_ => ((P0_4_ k_ ∨ P0_5_ k_ ∨ P0_6_ k_) ∨ w.heap.size ≤ k_) ∧ k_ ≠ gb110)) (HO_111006.out) (fun k_ hk => ⟨hk.1, hk.2⟩))).2.1 (Kd.V_F (Kd.V_mono (ok' := (fun k_ => ((P0_4_ k_ ∨ P0_5_ k_ ∨ P0_6_ k_) ∨ w.heap.size ≤ k_) ∧ k_ ≠ gb110)) (HO_111006.out) (fun k_ hk => ⟨hk.1, hk.2⟩))))) (Reps.none _ _)))); intro v115 w25 ho26 hb hg_ hnew_; clear hg_ hnew_; (first | rw [← Ny114.out] at ho26 | (simp only [Int.reduceToNat] at ho26; rw [← Ny114.out] at ho26)); have n0_ := Aside0.mk (Kd.V_elder' (vu HO_39.out) (Kd.N_base ho26) hb); have n1_ := Aside0.mk (Kd.V_elder' (vu HO_111004.out) (Kd.N_base ho26) hb); have n2_ := Aside0.mk (Kd.V_elder' (vu HO_111005.out) (Kd.N_base ho26) hb); have n3_ := Aside0.mk (Kd.V_elder' (vu HO_111006.out) (Kd.N_base ho26) hb); have n4_ := Aside0.mk (Kd.N_lower ho26 (below_size bl)); have n5_ := Aside0.mk (blk_below (bu BK110.out) hb); have n6_ := Aside0.mk (below_step bl hb); clear HO_39; clear HO_111004; clear HO_111005; clear HO_111006; clear BK110; clear HB; have HO_39 := n0_; have HO_111004 := n1_; have HO_111005 := n2_; have HO_111006 := n3_; have HO116 := n4_; have BK110 := n5_; have HB := n6_; clear n0_ n1_ n2_ n3_ n4_ n5_ n6_; clear hb ho26; have hcz27 := blk_cells BK110.out; have hfz27 := blk_frozens BK110.out) | ((with_reducible refine gate_builtin (b := .append) (xs := #[.tmp 64, .tmp 66]) rfl ?_); (try (refine gate_guard (by rfl) ?_; dsimp only)); at_builtin; refine Kd.N_append_rows (Kd.slice 3 (Kd.int .i64)) (w0 := w) w.heap.size rfl (.tmp 64) (.tmp 66) 23 22 (.slice none 0 0) 24 rfl Tryd.underlying23 info22 rfl (by decide) (by omega) v115 y114 l0_4 _ _ _ (fun k_ => ((P0_4_ k_ ∨ P0_5_ k_ ∨ P0_6_ k_) ∨ w.heap.size ≤ k_) ∧ k_ ≠ gb110) (fun k_ => ((fun k_ => ((P0_4_ k_ ∨ P0_5_ k_ ∨ P0_6_ k_) ∨ w.heap.size ≤ k_) ∧ k_ ≠ gb110)) k_ ∧ some k_ ≠ (v115 : Value).ownBlock) rfl rfl ?aO ?aR (fun _ hk => hk) ?aF ?aB ?aS ?aL ?_; (case aR => exact (by skip; exact Kd.V_F (Kd.V_mono (ok' := (fun k_ => ((fun k_ => ((P0_4_ k_ ∨ P0_5_ k_ ∨ P0_6_ k_) ∨ w.heap.size ≤ k_) ∧ k_ ≠ gb110)) k_ ∧ some k_ ≠ (v115 : Value).ownBlock)) (HO_111004.out) (fun k_ hk => ⟨⟨hk.1.1, hk.1.2⟩, hk.2⟩)))); (case aB => exact bl); (case aF => exact (fun k_ hk => ⟨(.inr (Nat.le_trans (below_size bl) hk)), Kd.freshB (g := gb110) (o := .cells #[.int .i64 a0_0, .int .i64 a0_1, .int .i64 a0_2, .slice A0_3 l0_3.length c0_3, .slice A0_4 l0_4.length c0_4, .slice A0_5 l0_5.length c0_5, .slice A0_6 l0_6.length c0_6] 25 (0, 0)) (bu BK110.out) k_ hk⟩)); (case aO => exact (nu HO116.out)); (case aS => exact (below_size bl)); (case aL => have := LMc23.out; omega); intro v118 w28 ho hb hg hat; rw [← Ny117.out] at ho; have n0_ := Aside0.mk (Kd.V_afterv (ok := (fun k_ => ((P0_4_ k_ ∨ P0_5_ k_ ∨ P0_6_ k_) ∨ w.heap.size ≤ k_) ∧ k_ ≠ gb110)) (vu HO_39.out) hg hat); have n1_ := Aside0.mk (Kd.V_afterv (ok := (fun k_ => ((P0_4_ k_ ∨ P0_5_ k_ ∨ P0_6_ k_) ∨ w.heap.size ≤ k_) ∧ k_ ≠ gb110)) (vu HO_111004.out) hg hat); have n2_ := Aside0.mk (Kd.V_afterv (ok := (fun k_ => ((P0_4_ k_ ∨ P0_5_ k_ ∨ P0_6_ k_) ∨ w.heap.size ≤ k_) ∧ k_ ≠ gb110)) (vu HO_111005.out) hg hat); have n3_ := Aside0.mk (Kd.V_afterv (ok := (fun k_ => ((P0_4_ k_ ∨ P0_5_ k_ ∨ P0_6_ k_) ∨ w.heap.size ≤ k_) ∧ k_ ≠ gb110)) (vu HO_111006.out) hg hat); have n4_ := Aside0.mk (blk_grown (g := gb110) (o := .cells #[.int .i64 a0_0, .int .i64 a0_1, .int .i64 a0_2, .slice A0_3 l0_3.length c0_3, .slice A0_4 l0_4.length c0_4, .slice A0_5 l0_5.length c0_5, .slice A0_6 l0_6.length c0_6] 25 (0, 0)) (bu BK110.out) hg (Kd.N_ne HO116.out BK110.out (by decide))); have n5_ := Aside0.mk (hb); have n6_ := Aside0.mk (ho); clear HO_39; clear HO_111004; clear HO_111005; clear HO_111006; clear BK110; clear HB; clear HO116; have HO_39 := n0_; have HO_111004 := n1_; have HO_111005 := n2_; have HO_111006 := n3_; have BK110 := n4_; have HB := n5_; have HO119 := n6_; clear n0_ n1_ n2_ n3_ n4_ n5_ n6_; clear ho hb hg hat; obtain ⟨Ao29, co29, eo29⟩ := Kd.N_slice HO119.out; subst eo29))
 repeat (go_quiet (first | ((with_reducible refine gate_dst (N := 64) rfl ?_); (try (refine gate_guard (by rfl) ?_; dsimp only)); refine Kd.N_lit (Kd.slice 3 (Kd.int .i64)) _ 22 ?hg (N' := 64) ?hd (xs := ([l0_5, l0_6] : List (List Int))) (inner := [.slice A0_5 l0_5.length c0_5, .slice A0_6 l0_6.length c0_6]) (ok := (fun k_ => ((P0_4_ k_ ∨ P0_5_ k_ ∨ P0_6_ k_) ∨ w.heap.size ≤ k_) ∧ k_ ≠ gb110)) (okp := (fun k_ => ((P0_4_ k_ ∨ P0_5_ k_ ∨ P0_6_ k_) ∨ w.heap.size ≤ k_) ∧ k_ ≠ gb110)) ?hr ?hp (fun _ hk => hk) ((show ∀ k_, wr.heap.size ≤ k_ → (fun k_ => ((P0_4_ k_ ∨ P0_5_ k_ ∨ P0_6_ k_) ∨ w.heap.size ≤ k_) ∧ k_ ≠ gb110) k_ from fun k_ hk => ⟨(.inr (Nat.le_trans (below_size bl) hk)), Kd.freshB (g := gb110) (o := .cells #[.int .i64 a0_0, .int .i64 a0_1, .int .i64 a0_2, .slice A0_3 l0_3.length c0_3, .slice A0_4 l0_4.length c0_4, .slice A0_5 l0_5.length c0_5, .slice A0_6 l0_6.length c0_6] 25 (0, 0)) (bu BK110.out) k_ hk⟩) _ (Nat.le_refl _)) (Below.refl _ _) (Nat.le_refl _) (by simp) ?_; (case hd => rfl); (case hg => rfl); (case hr => first | (go_simp; done) | (go_simp; rfl)); (case hp => exact (Reps.one (show Kd.FK (Kd.slice 3 (Kd.int .i64)) _ _ l0_5 [.slice A0_5 l0_5.length c0_5] from (Kd.FK_slice_mk (Kd.V_reads' (Kd.V_mono (ok' := (fun k_ => ((P0_4_ k_ ∨ P0_5_ k_ ∨ P0_6_ k_) ∨ w.heap.size ≤ k_) ∧ k_ ≠ gb110)) (HO_111005.out) (fun k_ hk => ⟨hk.1, hk.2⟩))).2.1 (Kd.V_F (Kd.V_mono (ok' := (fun k_ => ((P0_4_ k_ ∨ P0_5_ k_ ∨ P0_6_ k_) ∨ w.heap.size ≤ k_) ∧ k_ ≠ gb110)) (HO_111005.out) (fun k_ hk => ⟨hk.1, hk.2⟩))))) (Reps.one (show Kd.FK (Kd.slice 3 (Kd.int .i64)) _ _ l0_6 [.slice A0_6 l0_6.length c0_6] from (Kd.FK_slice_mk (Kd.V_reads' (Kd.V_mono (ok' := (fun k_ => ((P0_4_ k_ ∨ P0_5_ k_ ∨ P0_6_ k_) ∨ w.heap.size ≤ k_) ∧ k_ ≠ gb110)) (HO_111006.out) (fun k_ hk => ⟨hk.1, hk.2⟩))).2.1 (Kd.V_F (Kd.V_mono (ok' := (fun k_ => ((P0_4_ k_ ∨ P0_5_ k_ ∨ P0_6_ k_) ∨ w.heap.size ≤ k_) ∧ k_ ≠ gb110)) (HO_111006.out) (fun k_ hk => ⟨hk.1, hk.2⟩))))) (Reps.none _ _)))); intro v115 w25 ho26 hb hg_ hnew_; clear hg_ hnew_; (first | rw [← Ny114.out] at ho26 | (simp only [Int.reduceToNat] at ho26; rw [← Ny114.out] at ho26)); have n0_ := Aside0.mk (Kd.V_elder' (vu HO_39.out) (Kd.N_base ho26) hb); have n1_ := Aside0.mk (Kd.V_elder' (vu HO_111004.out) (Kd.N_base ho26) hb); have n2_ := Aside0.mk (Kd.V_elder' (vu HO_111005.out) (Kd.N_base ho26) hb); have n3_ := Aside0.mk (Kd.V_elder' (vu HO_111006.out) (Kd.N_base ho26) hb); have n4_ := Aside0.mk (Kd.N_lower ho26 (below_size bl)); have n5_ := Aside0.mk (blk_below (bu BK110.out) hb); have n6_ := Aside0.mk (below_step bl hb); clear HO_39; clear HO_111004; clear HO_111005; clear HO_111006; clear BK110; clear HB; have HO_39 := n0_; have HO_111004 := n1_; have HO_111005 := n2_; have HO_111006 := n3_; have HO116 := n4_; have BK110 := n5_; have HB := n6_; clear n0_ n1_ n2_ n3_ n4_ n5_ n6_; clear hb ho26; have hcz27 := blk_cells BK110.out; have hfz27 := blk_frozens BK110.out) | ((with_reducible refine gate_builtin (b := .append) (xs := #[.tmp 64, .tmp 66]) rfl ?_); (try (refine gate_guard (by rfl) ?_; dsimp only)); at_builtin; refine Kd.N_append_rows (Kd.slice 3 (Kd.int .i64)) (w0 := w) w.heap.size rfl (.tmp 64) (.tmp 66) 23 22 (.slice none 0 0) 24 rfl Tryd.underlying23 info22 rfl (by decide) (by omega) v115 y114 l0_4 _ _ _ (fun k_ => ((P0_4_ k_ ∨ P0_5_ k_ ∨ P0_6_ k_) ∨ w.heap.size ≤ k_) ∧ k_ ≠ gb110) (fun k_ => ((fun k_ => ((P0_4_ k_ ∨ P0_5_ k_ ∨ P0_6_ k_) ∨ w.heap.size ≤ k_) ∧ k_ ≠ gb110)) k_ ∧ some k_ ≠ (v115 : Value).ownBlock) rfl rfl ?aO ?aR (fun _ hk => hk) ?aF ?aB ?aS ?aL ?_; (case aR => exact (by skip; exact Kd.V_F (Kd.V_mono (ok' := (fun k_ => ((fun k_ => ((P0_4_ k_ ∨ P0_5_ k_ ∨ P0_6_ k_) ∨ w.heap.size ≤ k_) ∧ k_ ≠ gb110)) k_ ∧ some k_ ≠ (v115 : Value).ownBlock)) (HO_111004.out) (fun k_ hk => ⟨⟨hk.1.1, hk.1.2⟩, hk.2⟩)))); (case aB => exact bl); (case aF => exact (fun k_ hk => ⟨(.inr (Nat.le_trans (below_size bl) hk)), Kd.freshB (g := gb110) (o := .cells #[.int .i64 a0_0, .int .i64 a0_1, .int .i64 a0_2, .slice A0_3 l0_3.length c0_3, .slice A0_4 l0_4.length c0_4, .slice A0_5 l0_5.length c0_5, .slice A0_6 l0_6.length c0_6] 25 (0, 0)) (bu BK110.out) k_ hk⟩)); (case aO => exact (nu HO116.out)); (case aS => exact (below_size bl)); (case aL => have := LMc23.out; omega); intro v118 w28 ho hb hg hat; rw [← Ny117.out] at ho; have n0_ := Aside0.mk (Kd.V_afterv (ok := (fun k_ => ((P0_4_ k_ ∨ P0_5_ k_ ∨ P0_6_ k_) ∨ w.heap.size ≤ k_) ∧ k_ ≠ gb110)) (vu HO_39.out) hg hat); have n1_ := Aside0.mk (Kd.V_afterv (ok := (fun k_ => ((P0_4_ k_ ∨ P0_5_ k_ ∨ P0_6_ k_) ∨ w.heap.size ≤ k_) ∧ k_ ≠ gb110)) (vu HO_111004.out) hg hat); have n2_ := Aside0.mk (Kd.V_afterv (ok := (fun k_ => ((P0_4_ k_ ∨ P0_5_ k_ ∨ P0_6_ k_) ∨ w.heap.size ≤ k_) ∧ k_ ≠ gb110)) (vu HO_111005.out) hg hat); have n3_ := Aside0.mk (Kd.V_afterv (ok := (fun k_ => ((P0_4_ k_ ∨ P0_5_ k_ ∨ P0_6_ k_) ∨ w.heap.size ≤ k_) ∧ k_ ≠ gb110)) (vu HO_111006.out) hg hat); have n4_ := Aside0.mk (blk_grown (g := gb110) (o := .cells #[.int .i64 a0_0, .int .i64 a0_1, .int .i64 a0_2, .slice A0_3 l0_3.length c0_3, .slice A0_4 l0_4.length c0_4, .slice A0_5 l0_5.length c0_5, .slice A0_6 l0_6.length c0_6] 25 (0, 0)) (bu BK110.out) hg (Kd.N_ne HO116.out BK110.out (by decide))); have n5_ := Aside0.mk (hb); have n6_ := Aside0.mk (ho); clear HO_39; clear HO_111004; clear HO_111005; clear HO_111006; clear BK110; clear HB; clear HO116; have HO_39 := n0_; have HO_111004 := n1_; have HO_111005 := n2_; have HO_111006 := n3_; have BK110 := n4_; have HB := n5_; have HO119 := n6_; clear n0_ n1_ n2_ n3_ n4_ n5_ n6_; clear ho hb hg hat; obtain ⟨Ao29, co29, eo29⟩ := Kd.N_slice HO119.out; subst eo29)); try go_wp2_with (first | ((with_reducible refine gate_dst (N := 64) rfl ?_); (try (refine gate_guard (by rfl) ?_; dsimp only)); refine Kd.N_lit (Kd.slice 3 (Kd.int .i64)) _ 22 ?hg (N' := 64) ?hd (xs := ([l0_5, l0_6] : List (List Int))) (inner := [.slice A0_5 l0_5.length c0_5, .slice A0_6 l0_6.length c0_6]) (ok := (fun k_ => ((P0_4_ k_ ∨ P0_5_ k_ ∨ P0_6_ k_) ∨ w.heap.size ≤ k_) ∧ k_ ≠ gb110)) (okp := (fun k_ => ((P0_4_ k_ ∨ P0_5_ k_ ∨ P0_6_ k_) ∨ w.heap.size ≤ k_) ∧ k_ ≠ gb110)) ?hr ?hp (fun _ hk => hk) ((show ∀ k_, wr.heap.size ≤ k_ → (fun k_ => ((P0_4_ k_ ∨ P0_5_ k_ ∨ P0_6_ k_) ∨ w.heap.size ≤ k_) ∧ k_ ≠ gb110) k_ from fun k_ hk => ⟨(.inr (Nat.le_trans (below_size bl) hk)), Kd.freshB (g := gb110) (o := .cells #[.int .i64 a0_0, .int .i64 a0_1, .int .i64 a0_2, .slice A0_3 l0_3.length c0_3, .slice A0_4 l0_4.length c0_4, .slice A0_5 l0_5.length c0_5, .slice A0_6 l0_6.length c0_6] 25 (0, 0)) (bu BK110.out) k_ hk⟩) _ (Nat.le_refl _)) (Below.refl _ _) (Nat.le_refl _) (by simp) ?_; (case hd => rfl); (case hg => rfl); (case hr => first | (go_simp; done) | (go_simp; rfl)); (case hp => exact (Reps.one (show Kd.FK (Kd.slice 3 (Kd.int .i64)) _ _ l0_5 [.slice A0_5 l0_5.length c0_5] from (Kd.FK_slice_mk (Kd.V_reads' (Kd.V_mono (ok' := (fun k_ => ((P0_4_ k_ ∨ P0_5_ k_ ∨ P0_6_ k_) ∨ w.heap.size ≤ k_) ∧ k_ ≠ gb110)) (HO_111005.out) (fun k_ hk => ⟨hk.1, hk.2⟩))).2.1 (Kd.V_F (Kd.V_mono (ok' := (fun k_ => ((P0_4_ k_ ∨ P0_5_ k_ ∨ P0_6_ k_) ∨ w.heap.size ≤ k_) ∧ k_ ≠ gb110)) (HO_111005.out) (fun k_ hk => ⟨hk.1, hk.2⟩))))) (Reps.one (show Kd.FK (Kd.slice 3 (Kd.int .i64)) _ _ l0_6 [.slice A0_6 l0_6.length c0_6] from (Kd.FK_slice_mk (Kd.V_reads' (Kd.V_mono (ok' := (fun k_ => ((P0_4_ k_ ∨ P0_5_ k_ ∨ P0_6_ k_) ∨ w.heap.size ≤ k_) ∧ k_ ≠ gb110)) (HO_111006.out) (fun k_ hk => ⟨hk.1, hk.2⟩))).2.1 (Kd.V_F (Kd.V_mono (ok' := (fun k_ => ((P0_4_ k_ ∨ P0_5_ k_ ∨ P0_6_ k_) ∨ w.heap.size ≤ k_) ∧ k_ ≠ gb110)) (HO_111006.out) (fun k_ hk => ⟨hk.1, hk.2⟩))))) (Reps.none _ _)))); intro v115 w25 ho26 hb hg_ hnew_; clear hg_ hnew_; (first | rw [← Ny114.out] at ho26 | (simp only [Int.reduceToNat] at ho26; rw [← Ny114.out] at ho26)); have n0_ := Aside0.mk (Kd.V_elder' (vu HO_39.out) (Kd.N_base ho26) hb); have n1_ := Aside0.mk (Kd.V_elder' (vu HO_111004.out) (Kd.N_base ho26) hb); have n2_ := Aside0.mk (Kd.V_elder' (vu HO_111005.out) (Kd.N_base ho26) hb); have n3_ := Aside0.mk (Kd.V_elder' (vu HO_111006.out) (Kd.N_base ho26) hb); have n4_ := Aside0.mk (Kd.N_lower ho26 (below_size bl)); have n5_ := Aside0.mk (blk_below (bu BK110.out) hb); have n6_ := Aside0.mk (below_step bl hb); clear HO_39; clear HO_111004; clear HO_111005; clear HO_111006; clear BK110; clear HB; have HO_39 := n0_; have HO_111004 := n1_; have HO_111005 := n2_; have HO_111006 := n3_; have HO116 := n4_; have BK110 := n5_; have HB := n6_; clear n0_ n1_ n2_ n3_ n4_ n5_ n6_; clear hb ho26; have hcz27 := blk_cells BK110.out; have hfz27 := blk_frozens BK110.out) | ((with_reducible refine gate_builtin (b := .append) (xs := #[.tmp 64, .tmp 66]) rfl ?_); (try (refine gate_guard (by rfl) ?_; dsimp only)); at_builtin; refine Kd.N_append_rows (Kd.slice 3 (Kd.int .i64)) (w0 := w) w.heap.size rfl (.tmp 64) (.tmp 66) 23 22 (.slice none 0 0) 24 rfl Tryd.underlying23 info22 rfl (by decide) (by omega) v115 y114 l0_4 _ _ _ (fun k_ => ((P0_4_ k_ ∨ P0_5_ k_ ∨ P0_6_ k_) ∨ w.heap.size ≤ k_) ∧ k_ ≠ gb110) (fun k_ => ((fun k_ => ((P0_4_ k_ ∨ P0_5_ k_ ∨ P0_6_ k_) ∨ w.heap.size ≤ k_) ∧ k_ ≠ gb110)) k_ ∧ some k_ ≠ (v115 : Value).ownBlock) rfl rfl ?aO ?aR (fun _ hk => hk) ?aF ?aB ?aS ?aL ?_; (case aR => exact (by skip; exact Kd.V_F (Kd.V_mono (ok' := (fun k_ => ((fun k_ => ((P0_4_ k_ ∨ P0_5_ k_ ∨ P0_6_ k_) ∨ w.heap.size ≤ k_) ∧ k_ ≠ gb110)) k_ ∧ some k_ ≠ (v115 : Value).ownBlock)) (HO_111004.out) (fun k_ hk => ⟨⟨hk.1.1, hk.1.2⟩, hk.2⟩)))); (case aB => exact bl); (case aF => exact (fun k_ hk => ⟨(.inr (Nat.le_trans (below_size bl) hk)), Kd.freshB (g := gb110) (o := .cells #[.int .i64 a0_0, .int .i64 a0_1, .int .i64 a0_2, .slice A0_3 l0_3.length c0_3, .slice A0_4 l0_4.length c0_4, .slice A0_5 l0_5.length c0_5, .slice A0_6 l0_6.length c0_6] 25 (0, 0)) (bu BK110.out) k_ hk⟩)); (case aO => exact (nu HO116.out)); (case aS => exact (below_size bl)); (case aL => have := LMc23.out; omega); intro v118 w28 ho hb hg hat; rw [← Ny117.out] at ho; have n0_ := Aside0.mk (Kd.V_afterv (ok := (fun k_ => ((P0_4_ k_ ∨ P0_5_ k_ ∨ P0_6_ k_) ∨ w.heap.size ≤ k_) ∧ k_ ≠ gb110)) (vu HO_39.out) hg hat); have n1_ := Aside0.mk (Kd.V_afterv (ok := (fun k_ => ((P0_4_ k_ ∨ P0_5_ k_ ∨ P0_6_ k_) ∨ w.heap.size ≤ k_) ∧ k_ ≠ gb110)) (vu HO_111004.out) hg hat); have n2_ := Aside0.mk (Kd.V_afterv (ok := (fun k_ => ((P0_4_ k_ ∨ P0_5_ k_ ∨ P0_6_ k_) ∨ w.heap.size ≤ k_) ∧ k_ ≠ gb110)) (vu HO_111005.out) hg hat); have n3_ := Aside0.mk (Kd.V_afterv (ok := (fun k_ => ((P0_4_ k_ ∨ P0_5_ k_ ∨ P0_6_ k_) ∨ w.heap.size ≤ k_) ∧ k_ ≠ gb110)) (vu HO_111006.out) hg hat); have n4_ := Aside0.mk (blk_grown (g := gb110) (o := .cells #[.int .i64 a0_0, .int .i64 a0_1, .int .i64 a0_2, .slice A0_3 l0_3.length c0_3, .slice A0_4 l0_4.length c0_4, .slice A0_5 l0_5.length c0_5, .slice A0_6 l0_6.length c0_6] 25 (0, 0)) (bu BK110.out) hg (Kd.N_ne HO116.out BK110.out (by decide))); have n5_ := Aside0.mk (hb); have n6_ := Aside0.mk (ho); clear HO_39; clear HO_111004; clear HO_111005; clear HO_111006; clear BK110; clear HB; clear HO116; have HO_39 := n0_; have HO_111004 := n1_; have HO_111005 := n2_; have HO_111006 := n3_; have BK110 := n4_; have HB := n5_; have HO119 := n6_; clear n0_ n1_ n2_ n3_ n4_ n5_ n6_; clear ho hb hg hat; obtain ⟨Ao29, co29, eo29⟩ := Kd.N_slice HO119.out; subst eo29)))
 go_loopg [69] k2 (fun kq v69 w' => ∃ (x69_3 : Int), v69 = .int .i64 x69_3 ∧ Aside0 (cutting_Check.l1 kq y117 (y117.length : Int) x69_3 = some r) ∧ Aside0 (kq ≤ k2) ∧ Aside0 (Kd.N (Kd.slice 3 (Kd.int .i64)) 22 w' w.heap.size (fun k_ => ((P0_4_ k_ ∨ P0_5_ k_ ∨ P0_6_ k_) ∨ w.heap.size ≤ k_) ∧ k_ ≠ gb110) (.slice Ao29 y117.length co29) y117) ∧ Aside0 (Kd.V (Kd.slice 3 (Kd.int .i64)) 22 w' w.heap.size (fun k_ => ((P0_4_ k_ ∨ P0_5_ k_ ∨ P0_6_ k_) ∨ w.heap.size ≤ k_) ∧ some k_ ≠ ((.slice Ao29 y117.length co29) : Value).ownBlock ∧ k_ ≠ gb110) (.slice A0_4 l0_4.length c0_4) l0_4) ∧ Aside0 (Kd.V (Kd.int .i64) 3 w' w.heap.size (fun k_ => ((P0_4_ k_ ∨ P0_5_ k_ ∨ P0_6_ k_) ∨ w.heap.size ≤ k_) ∧ some k_ ≠ ((.slice Ao29 y117.length co29) : Value).ownBlock ∧ k_ ≠ gb110) (.slice A0_5 l0_5.length c0_5) l0_5) ∧ Aside0 (Kd.V (Kd.int .i64) 3 w' w.heap.size (fun k_ => ((P0_4_ k_ ∨ P0_5_ k_ ∨ P0_6_ k_) ∨ w.heap.size ≤ k_) ∧ some k_ ≠ ((.slice Ao29 y117.length co29) : Value).ownBlock ∧ k_ ≠ gb110) (.slice A0_6 l0_6.length c0_6) l0_6) ∧ Aside0 (w'.heap[gb110]? = some (.cells #[.int .i64 a0_0, .int .i64 a0_1, .int .i64 a0_2, (.slice A0_3 l0_3.length c0_3), (.slice A0_4 l0_4.length c0_4), (.slice A0_5 l0_5.length c0_5), (.slice A0_6 l0_6.length c0_6)] 25 (0, 0))) ∧ Aside0 (Below w.heap.size w w'))
 case atStart => exact ⟨(0), rs1, H', ⟨Nat.le_refl _⟩, ⟨by (with_reducible repeat (first | apply Kd.N_alloc | apply Kd.N_drewN | apply Kd.N_drew)); exact HO119.out⟩, ⟨by (with_reducible repeat (first | apply Kd.V_alloc | apply Kd.V_drewN | apply Kd.V_drew)); exact Kd.V_mono HO_111004.out (fun _ hk => ⟨hk.1.1, ⟨hk.2, hk.1.2⟩⟩)⟩, ⟨by (with_reducible repeat (first | apply Kd.V_alloc | apply Kd.V_drewN | apply Kd.V_drew)); exact Kd.V_mono HO_111005.out (fun _ hk => ⟨hk.1.1, ⟨hk.2, hk.1.2⟩⟩)⟩, ⟨by (with_reducible repeat (first | apply Kd.V_alloc | apply Kd.V_drewN | apply Kd.V_drew)); exact Kd.V_mono HO_111006.out (fun _ hk => ⟨hk.1.1, ⟨hk.2, hk.1.2⟩⟩)⟩, ⟨bu BK110.out⟩, ⟨bl⟩⟩
 clear H'; (try clear c1); (try clear p1); (try clear q1); (try clear hx1); (try clear c2); (try clear p2); (try clear c3); (try clear c3b0); (try clear c3b1); (try clear p6); (try clear c8); (try clear c8b0); (try clear c8b1); (try clear c8b2); (try clear c9); (try clear c9b0); (try clear c9b1); (try clear c11); (try clear p11); (try clear q11); (try clear hx11); (try clear c13); (try clear c15); (try clear c15b0); (try clear c16); (try clear c16b0); (try clear c17); (try clear c17b0); (try clear c18); (try clear c18b0); (try clear c19); (try clear c20); (try clear c20b0); (try clear c20b1); (try clear c23); (try clear hcz10); (try clear hcz11); (try clear hcz12); (try clear hcz14); (try clear hcz21); (try clear hcz22); (try clear hcz24); (try clear hcz27); (try clear hcz6); (try clear hfz10); (try clear hfz11); (try clear hfz12); (try clear hfz14); (try clear hfz21); (try clear hfz22); (try clear hfz24); (try clear hfz27); (try clear hfz6); (try clear hx112_0); (try clear hx113_0); (try clear p112); (try clear p113); (try clear p2); (try clear q112); (try clear q113)
 obtain ⟨x69_3, rfl, HA, HK3, HO_67, HO_111004, HO_111005, HO_111006, BK110, HB⟩ := hrel
 rcases gk with _ | k3
 · exact absurd HA.out (by simp [cutting_Check.l1])
 have H := HA.out
 clear HA
 simp only [cutting_Check.l1] at H
 by_cases c30 : x69_3 < (y117.length : Int)
 rotate_left
 · rw [if_neg c30] at H
   have c30b0 : decide (x69_3 < (y117.length : Int)) = false := decide_eq_false c30
   clear c30
   obtain rfl := Option.some.inj H
   go_wp2
   repeat (go_quiet (fail); try go_wp2)
   go_ret
   exact ⟨fe1, bl⟩
 rw [if_pos c30] at H
 have c30b0 : decide (x69_3 < (y117.length : Int)) = true := decide_eq_true c30
 clear c30
 obtain ⟨c31, H⟩ := gd1 H
 have c31b0 : decide (0 ≤ x69_3) = true := decide_eq_true c31
 clear c31
 obtain ⟨c32, H⟩ := gd1 H
 have c32b0 : decide (x69_3 < (y117.length : Int)) = true := decide_eq_true c32
 clear c32
 have H' := Aside0.mk H
 clear H
 have p120 : 0 ≤ (x69_3 : Int) := da1
 have q120 : x69_3 < (y117.length : Int) := da1
 obtain ⟨ad120, A120_0, c120_0, e120, hx120_0, hl120_0, hi120_0⟩ := at_L1 (Kd.N_reads' HO_67.out).2.2 x69_3 p120 q120
 cases e120
 obtain ⟨ce120, hce120, hMe120, hcc120⟩ := Kd.N_get HO_67.out [] x69_3 p120 (by first | exact q120 | exact da1 | (have e_ := (Kd.N_reads' HO_67.out).1; omega))
 obtain ⟨ua120_0, uc120_0, rfl, ul120_0, ge120_0⟩ := Kd.FK_slice_open hMe120
 have hv120_0 := hcc120 0 _ rfl
 rw [Nat.add_zero, show ((Kd.slice 3 (Kd.int .i64))).sz = 1 from rfl, Nat.mul_one] at hv120_0
 replace hv120_0 := Option.some.inj (hv120_0.symm.trans hx120_0)
 injection hv120_0 with hva_ hvn_ hvc_
 rw [hva_] at ge120_0
 rw [hvc_] at ul120_0
 have HL120_0 := Aside0.mk (show Kd.V (Kd.int .i64) 3 _ w.heap.size _ _ (rd_L1 y117 x69_3) from Kd.V_mk ul120_0 ge120_0)
 clear hva_ hvn_ hvc_ ge120_0 ul120_0; clear hcc120 hce120
 have HR120_0 := Aside0.mk hi120_0
 have HC120_0 := Aside0.mk hl120_0
 clear hi120_0 hl120_0
 replace p120 := eq_true p120
 replace q120 := eq_true q120
 go_wp2
 repeat (go_quiet (fail); try go_wp2)
 go_loopg [75] k3 (fun kq v75 w' => ∃ (x75_4 : Int), v75 = .int .i64 x75_4 ∧ Aside0 (cutting_Check.l2 kq y117 (y117.length : Int) x69_3 (rd_L1 y117 x69_3) ((rd_L1 y117 x69_3).length : Int) x75_4 = some r) ∧ Aside0 (kq ≤ k3) ∧ Aside0 (Kd.N (Kd.slice 3 (Kd.int .i64)) 22 w' w.heap.size (fun k_ => ((P0_4_ k_ ∨ P0_5_ k_ ∨ P0_6_ k_) ∨ w.heap.size ≤ k_) ∧ k_ ≠ gb110) (.slice (some ad120) y117.length co29) y117) ∧ Aside0 (Kd.V (Kd.slice 3 (Kd.int .i64)) 22 w' w.heap.size (fun k_ => ((P0_4_ k_ ∨ P0_5_ k_ ∨ P0_6_ k_) ∨ w.heap.size ≤ k_) ∧ some k_ ≠ ((.slice (some ad120) y117.length co29) : Value).ownBlock ∧ k_ ≠ gb110) (.slice A0_4 l0_4.length c0_4) l0_4) ∧ Aside0 (Kd.V (Kd.int .i64) 3 w' w.heap.size (fun k_ => ((P0_4_ k_ ∨ P0_5_ k_ ∨ P0_6_ k_) ∨ w.heap.size ≤ k_) ∧ some k_ ≠ ((.slice (some ad120) y117.length co29) : Value).ownBlock ∧ k_ ≠ gb110) (.slice A0_5 l0_5.length c0_5) l0_5) ∧ Aside0 (Kd.V (Kd.int .i64) 3 w' w.heap.size (fun k_ => ((P0_4_ k_ ∨ P0_5_ k_ ∨ P0_6_ k_) ∨ w.heap.size ≤ k_) ∧ some k_ ≠ ((.slice (some ad120) y117.length co29) : Value).ownBlock ∧ k_ ≠ gb110) (.slice A0_6 l0_6.length c0_6) l0_6) ∧ Aside0 (w'.heap[gb110]? = some (.cells #[.int .i64 a0_0, .int .i64 a0_1, .int .i64 a0_2, (.slice A0_3 l0_3.length c0_3), (.slice A0_4 l0_4.length c0_4), (.slice A0_5 l0_5.length c0_5), (.slice A0_6 l0_6.length c0_6)] 25 (0, 0))) ∧ Aside0 (Kd.C (Kd.int .i64) w' A120_0 (rd_L1 y117 x69_3).length (rd_L1 y117 x69_3)) ∧ Aside0 (Below w.heap.size w w'))
 case atStart => exact ⟨(0), rs1, H', ⟨Nat.le_refl _⟩, ⟨by (with_reducible repeat (first | apply Kd.N_alloc | apply Kd.N_drewN | apply Kd.N_drew)); exact HO_67.out⟩, ⟨by (with_reducible repeat (first | apply Kd.V_alloc | apply Kd.V_drewN | apply Kd.V_drew)); exact HO_111004.out⟩, ⟨by (with_reducible repeat (first | apply Kd.V_alloc | apply Kd.V_drewN | apply Kd.V_drew)); exact HO_111005.out⟩, ⟨by (with_reducible repeat (first | apply Kd.V_alloc | apply Kd.V_drewN | apply Kd.V_drew)); exact HO_111006.out⟩, ⟨bu BK110.out⟩, ⟨by repeat (first | (with_reducible exact HR120_0.out) | (with_reducible refine Kd.C_alloc ?_ _) | (with_reducible refine Kd.C_drewN ?_ _) | (with_reducible refine Kd.C_drew ?_) | exact HR120_0.out)⟩, ⟨bl⟩⟩
 clear H'; (try clear c1); (try clear p1); (try clear q1); (try clear hx1); (try clear c2); (try clear p2); (try clear c3); (try clear c3b0); (try clear c3b1); (try clear p6); (try clear c8); (try clear c8b0); (try clear c8b1); (try clear c8b2); (try clear c9); (try clear c9b0); (try clear c9b1); (try clear c11); (try clear p11); (try clear q11); (try clear hx11); (try clear c12); (try clear p12); (try clear q12); (try clear hx12); (try clear c13); (try clear c15); (try clear c15b0); (try clear c16); (try clear c16b0); (try clear c17); (try clear c17b0); (try clear c18); (try clear c18b0); (try clear c19); (try clear c20); (try clear c20b0); (try clear c20b1); (try clear c23); (try clear c30); (try clear c30b0); (try clear c31); (try clear c31b0); (try clear c32); (try clear c32b0); (try clear hcz10); (try clear hcz11); (try clear hcz12); (try clear hcz14); (try clear hcz21); (try clear hcz22); (try clear hcz24); (try clear hcz27); (try clear hcz6); (try clear hfz10); (try clear hfz11); (try clear hfz12); (try clear hfz14); (try clear hfz21); (try clear hfz22); (try clear hfz24); (try clear hfz27); (try clear hfz6); (try clear hx112_0); (try clear hx113_0); (try clear hx120_0); (try clear p1); (try clear p11); (try clear p112); (try clear p113); (try clear p120); (try clear p2); (try clear p6); (try clear q1); (try clear q11); (try clear q112); (try clear q113); (try clear q120)
 obtain ⟨x75_4, rfl, HA, HK4, HO_67, HO_111004, HO_111005, HO_111006, BK110, HR120_0, HB⟩ := hrel
 rcases gk with _ | k4
 · exact absurd HA.out (by simp [cutting_Check.l2])
 have H := HA.out
 clear HA
 simp only [cutting_Check.l2] at H
 by_cases c33 : x75_4 < ((rd_L1 y117 x69_3).length : Int)
 rotate_left
 · rw [if_neg c33] at H
   have c33b0 : decide (x75_4 < ((rd_L1 y117 x69_3).length : Int)) = false := decide_eq_false c33
   clear c33
   have H' := Aside0.mk H
   clear H
   go_wp2
   repeat (go_quiet (fail); try go_wp2)
   go_roundg k4
   case measure => have := HJ3.out; have := HK2.out; have := HK3.out; have := HK4.out; omega
   case rel => exact ⟨(wrap64 (x69_3 + 1)), rs1, H', ⟨by have := HJ3.out; have := HK2.out; have := HK3.out; have := HK4.out; omega⟩, ⟨by (with_reducible repeat (first | apply Kd.N_alloc | apply Kd.N_drewN | apply Kd.N_drew)); exact HO_67.out⟩, ⟨by (with_reducible repeat (first | apply Kd.V_alloc | apply Kd.V_drewN | apply Kd.V_drew)); exact HO_111004.out⟩, ⟨by (with_reducible repeat (first | apply Kd.V_alloc | apply Kd.V_drewN | apply Kd.V_drew)); exact HO_111005.out⟩, ⟨by (with_reducible repeat (first | apply Kd.V_alloc | apply Kd.V_drewN | apply Kd.V_drew)); exact HO_111006.out⟩, ⟨bu BK110.out⟩, ⟨bl⟩⟩
 rw [if_pos c33] at H
 have c33b0 : decide (x75_4 < ((rd_L1 y117 x69_3).length : Int)) = true := decide_eq_true c33
 clear c33
 obtain ⟨c34, H⟩ := gd1 H
 have c34b0 : decide (0 ≤ x75_4) = true := decide_eq_true c34
 clear c34
 obtain ⟨c35, H⟩ := gd1 H
 have c35b0 : decide (x75_4 < ((rd_L1 y117 x69_3).length : Int)) = true := decide_eq_true c35
 clear c35
 replace H := Option.bind_eq_some_iff.mp H
 obtain ⟨t122, A360, H⟩ := H
 replace H : (if t122 = true then (cutting_Check.l2 k4 y117 (y117.length : Int) x69_3 (rd_L1 y117 x69_3) ((rd_L1 y117 x69_3).length : Int) (wrap64 (x75_4 + 1))) else (some 9)) = some r := H
 have A36 := Aside0.mk A360
 clear A360
 by_cases c37 : t122 = true
 rotate_left
 · replace c37 := Bool.eq_false_iff.mpr c37
   subst c37
   have H1 : (some 9) = some r := by rw [if_neg (show ¬ (false = true) by decide)] at H; exact H
   clear H
   have H := H1
   clear H1
   obtain rfl := Option.some.inj H
   have p121 : 0 ≤ (x75_4 : Int) := da1
   have q121 : x75_4 < ((rd_L1 y117 x69_3).length : Int) := da1
   obtain ⟨ad121, e121, hx121_0⟩ := Kd.at_int HR120_0.out x75_4 p121 q121
   cases e121
   (try replace hx121_0 := (HB.out.cell (World.block_lt_of_cell? w _ hx121_0)).trans hx121_0)
   replace p121 := eq_true p121
   replace q121 := eq_true q121
   go_wp2_with (first | (go_at_call 51; (with_reducible refine (cutting_inRange.calls (rd (rd_L1 y117 x69_3) x75_4) (-1125899906842624) 1125899906842624 false _ A36.out).mono ?_); rintro e w' ⟨rfl, ⟨nd, rfl⟩⟩; (try first | exact ⟨rfl, _, World.drewN_drewN _ _ _⟩ | exact ⟨rfl, _, Eq.trans (World.drewN_drewN _ _ _) (congrArg (World.drewN _) (Nat.add_assoc _ _ _))⟩)))
   repeat (go_quiet (first | (go_at_call 51; (with_reducible refine (cutting_inRange.calls (rd (rd_L1 y117 x69_3) x75_4) (-1125899906842624) 1125899906842624 false _ A36.out).mono ?_); rintro e w' ⟨rfl, ⟨nd, rfl⟩⟩; (try first | exact ⟨rfl, _, World.drewN_drewN _ _ _⟩ | exact ⟨rfl, _, Eq.trans (World.drewN_drewN _ _ _) (congrArg (World.drewN _) (Nat.add_assoc _ _ _))⟩))); try go_wp2_with (first | (go_at_call 51; (with_reducible refine (cutting_inRange.calls (rd (rd_L1 y117 x69_3) x75_4) (-1125899906842624) 1125899906842624 false _ A36.out).mono ?_); rintro e w' ⟨rfl, ⟨nd, rfl⟩⟩; (try first | exact ⟨rfl, _, World.drewN_drewN _ _ _⟩ | exact ⟨rfl, _, Eq.trans (World.drewN_drewN _ _ _) (congrArg (World.drewN _) (Nat.add_assoc _ _ _))⟩))))
   go_ret
   exact ⟨fe1, bl⟩
 subst c37
 have H1 : (cutting_Check.l2 k4 y117 (y117.length : Int) x69_3 (rd_L1 y117 x69_3) ((rd_L1 y117 x69_3).length : Int) (wrap64 (x75_4 + 1))) = some r := by rw [if_pos rfl] at H; exact H
 clear H
 have H := H1
 clear H1
 have H' := Aside0.mk H
 clear H
 have p121 : 0 ≤ (x75_4 : Int) := da1
 have q121 : x75_4 < ((rd_L1 y117 x69_3).length : Int) := da1
 obtain ⟨ad121, e121, hx121_0⟩ := Kd.at_int HR120_0.out x75_4 p121 q121
 cases e121
 (try replace hx121_0 := (HB.out.cell (World.block_lt_of_cell? w _ hx121_0)).trans hx121_0)
 replace p121 := eq_true p121
 replace q121 := eq_true q121
 go_wp2_with (first | (go_at_call 51; (with_reducible refine (cutting_inRange.calls (rd (rd_L1 y117 x69_3) x75_4) (-1125899906842624) 1125899906842624 true _ A36.out).mono ?_); rintro e w' ⟨rfl, ⟨nd, rfl⟩⟩; (try first | exact ⟨rfl, _, World.drewN_drewN _ _ _⟩ | exact ⟨rfl, _, Eq.trans (World.drewN_drewN _ _ _) (congrArg (World.drewN _) (Nat.add_assoc _ _ _))⟩)))
 repeat (go_quiet (first | (go_at_call 51; (with_reducible refine (cutting_inRange.calls (rd (rd_L1 y117 x69_3) x75_4) (-1125899906842624) 1125899906842624 true _ A36.out).mono ?_); rintro e w' ⟨rfl, ⟨nd, rfl⟩⟩; (try first | exact ⟨rfl, _, World.drewN_drewN _ _ _⟩ | exact ⟨rfl, _, Eq.trans (World.drewN_drewN _ _ _) (congrArg (World.drewN _) (Nat.add_assoc _ _ _))⟩))); try go_wp2_with (first | (go_at_call 51; (with_reducible refine (cutting_inRange.calls (rd (rd_L1 y117 x69_3) x75_4) (-1125899906842624) 1125899906842624 true _ A36.out).mono ?_); rintro e w' ⟨rfl, ⟨nd, rfl⟩⟩; (try first | exact ⟨rfl, _, World.drewN_drewN _ _ _⟩ | exact ⟨rfl, _, Eq.trans (World.drewN_drewN _ _ _) (congrArg (World.drewN _) (Nat.add_assoc _ _ _))⟩))))
 go_roundg k4
 case measure => have := HJ3.out; have := HK2.out; have := HK3.out; have := HK4.out; omega
 case rel => exact ⟨(wrap64 (x75_4 + 1)), rs1, H', ⟨by have := HJ3.out; have := HK2.out; have := HK3.out; have := HK4.out; omega⟩, ⟨by (with_reducible repeat (first | apply Kd.N_alloc | apply Kd.N_drewN | apply Kd.N_drew)); exact HO_67.out⟩, ⟨by (with_reducible repeat (first | apply Kd.V_alloc | apply Kd.V_drewN | apply Kd.V_drew)); exact HO_111004.out⟩, ⟨by (with_reducible repeat (first | apply Kd.V_alloc | apply Kd.V_drewN | apply Kd.V_drew)); exact HO_111005.out⟩, ⟨by (with_reducible repeat (first | apply Kd.V_alloc | apply Kd.V_drewN | apply Kd.V_drew)); exact HO_111006.out⟩, ⟨bu BK110.out⟩, ⟨by repeat (first | (with_reducible exact HR120_0.out) | (with_reducible refine Kd.C_alloc ?_ _) | (with_reducible refine Kd.C_drewN ?_ _) | (with_reducible refine Kd.C_drew ?_) | exact HR120_0.out)⟩, ⟨bl⟩⟩
end Go.Proofs.YtoaicheopcojoaaDoor.P
