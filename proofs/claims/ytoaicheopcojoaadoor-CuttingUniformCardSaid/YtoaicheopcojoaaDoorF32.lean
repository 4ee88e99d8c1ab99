import Derived.Test.YtoaicheopcojoaaDoorSq
import Derived.Test.YtoaicheopcojoaaDoorF61
namespace Go.Proofs.YtoaicheopcojoaaDoor.P
open Go.RowKit Go.Proofs.YtoaicheopcojoaaDoorW.PrintWords Go.Proofs.YtoaicheopcojoaaDoorW.PrintLast Go.Proofs.YtoaicheopcojoaaDoorW.PrintMore
attribute [local go_sem] max2_int min2_int max_two min_two max_three min_three max_four min_four   -- for this text's walks alone
set_option linter.unusedVariables false
set_option linter.unusedSimpArgs false
/-! ### sawmillref17_SameLine: function 32 -/
mutual
def sawmillref17_SameLine.j0 : Nat → Bool → Int → Int → Int → List Int → List (List Int) → List Int → List Int → Int → Int → Int → List Int → List (List Int) → List Int → List Int → Option (Bool)
  | 0, _, _, _, _, _, _, _, _, _, _, _, _, _, _, _ => none
  | k + 1, x57, x440000, x440001, x440002, x440003, x440004, x440005, x440006, x441000, x441001, x441002, x441003, x441004, x441005, x441006 => if x57 = true then (some false) else (sawmillref17_SameLine.l0 k 0 x440000 x440001 x440002 x440003 x440004 x440005 x440006 x441000 x441001 x441002 x441003 x441004 x441005 x441006)
def sawmillref17_SameLine.l0 : Nat → Int → Int → Int → Int → List Int → List (List Int) → List Int → List Int → Int → Int → Int → List Int → List (List Int) → List Int → List Int → Option (Bool)
  | 0, _, _, _, _, _, _, _, _, _, _, _, _, _, _, _ => none
  | k + 1, x5, x440000, x440001, x440002, x440003, x440004, x440005, x440006, x441000, x441001, x441002, x441003, x441004, x441005, x441006 => if x5 < (x440004.length : Int) then (if 0 ≤ x5 then (if x5 < (x441004.length : Int) then ((sawmillref17_sameInts.f k (rd_L1 x440004 x5) (rd_L1 x441004 x5)).bind fun t446 => (if t446 = true then (sawmillref17_SameLine.l0 k (wrap64 (x5 + 1)) x440000 x440001 x440002 x440003 x440004 x440005 x440006 x441000 x441001 x441002 x441003 x441004 x441005 x441006) else (some false))) else (none)) else (none)) else (some true)
end
def sawmillref17_SameLine.f (k : Nat) (a0_0 : Int) (a0_1 : Int) (a0_2 : Int) (l0_3 : List Int) (l0_4 : List (List Int)) (l0_5 : List Int) (l0_6 : List Int) (a1_0 : Int) (a1_1 : Int) (a1_2 : Int) (l1_3 : List Int) (l1_4 : List (List Int)) (l1_5 : List Int) (l1_6 : List Int) : Option (Bool) := if a0_0 = a1_0 then (if a0_1 = a1_1 then (if a0_2 = a1_2 then ((sawmillref17_sameInts.f k l0_3 l1_3).bind fun t441 => (if t441 = true then (if (l0_4.length : Int) = (l1_4.length : Int) then ((sawmillref17_sameInts.f k l0_5 l1_5).bind fun t442 => (if t442 = true then ((sawmillref17_sameInts.f k l0_6 l1_6).bind fun t443 => (sawmillref17_SameLine.j0 k (!t443) a0_0 a0_1 a0_2 l0_3 l0_4 l0_5 l0_6 a1_0 a1_1 a1_2 l1_3 l1_4 l1_5 l1_6)) else (sawmillref17_SameLine.j0 k true a0_0 a0_1 a0_2 l0_3 l0_4 l0_5 l0_6 a1_0 a1_1 a1_2 l1_3 l1_4 l1_5 l1_6))) else (sawmillref17_SameLine.j0 k true a0_0 a0_1 a0_2 l0_3 l0_4 l0_5 l0_6 a1_0 a1_1 a1_2 l1_3 l1_4 l1_5 l1_6)) else (sawmillref17_SameLine.j0 k true a0_0 a0_1 a0_2 l0_3 l0_4 l0_5 l0_6 a1_0 a1_1 a1_2 l1_3 l1_4 l1_5 l1_6))) else (sawmillref17_SameLine.j0 k true a0_0 a0_1 a0_2 l0_3 l0_4 l0_5 l0_6 a1_0 a1_1 a1_2 l1_3 l1_4 l1_5 l1_6)) else (sawmillref17_SameLine.j0 k true a0_0 a0_1 a0_2 l0_3 l0_4 l0_5 l0_6 a1_0 a1_1 a1_2 l1_3 l1_4 l1_5 l1_6)) else (sawmillref17_SameLine.j0 k true a0_0 a0_1 a0_2 l0_3 l0_4 l0_5 l0_6 a1_0 a1_1 a1_2 l1_3 l1_4 l1_5 l1_6)
theorem sawmillref17_SameLine.mono_l : ∀ k, (∀ y0 y1 y2 y3 y4 y5 y6 y7 y8 y9 y10 y11 y12 y13 y14, LeO (sawmillref17_SameLine.j0 k y0 y1 y2 y3 y4 y5 y6 y7 y8 y9 y10 y11 y12 y13 y14) (sawmillref17_SameLine.j0 (k + 1) y0 y1 y2 y3 y4 y5 y6 y7 y8 y9 y10 y11 y12 y13 y14)) ∧ (∀ y0 y1 y2 y3 y4 y5 y6 y7 y8 y9 y10 y11 y12 y13 y14, LeO (sawmillref17_SameLine.l0 k y0 y1 y2 y3 y4 y5 y6 y7 y8 y9 y10 y11 y12 y13 y14) (sawmillref17_SameLine.l0 (k + 1) y0 y1 y2 y3 y4 y5 y6 y7 y8 y9 y10 y11 y12 y13 y14))
  | 0 => ⟨fun _ _ _ _ _ _ _ _ _ _ _ _ _ _ _ r h => by simp [sawmillref17_SameLine.j0] at h, fun _ _ _ _ _ _ _ _ _ _ _ _ _ _ _ r h => by simp [sawmillref17_SameLine.l0] at h⟩
  | k + 1 => by
    obtain ⟨ih0, ih1⟩ := sawmillref17_SameLine.mono_l k
    refine ⟨?_, ?_⟩
    · intro y0 y1 y2 y3 y4 y5 y6 y7 y8 y9 y10 y11 y12 y13 y14
      unfold sawmillref17_SameLine.j0
      repeat' first
      | (with_reducible exact ih0 _ _ _ _ _ _ _ _ _ _ _ _ _ _ _)
      | (with_reducible exact ih1 _ _ _ _ _ _ _ _ _ _ _ _ _ _ _)
      | (with_reducible exact sawmillref17_sameInts.mono _ _ _)
      | (with_reducible exact LeO.refl _)
      | (with_reducible exact LeO.none _)
      | (with_reducible refine LeO.ite ?_ ?_)
      | (with_reducible refine LeO.bind ?_ (fun _ => ?_))
      | exact ih0 _ _ _ _ _ _ _ _ _ _ _ _ _ _ _
      | exact ih1 _ _ _ _ _ _ _ _ _ _ _ _ _ _ _
      | exact sawmillref17_sameInts.mono _ _ _
      | exact LeO.none _
      | refine LeO.ite ?_ ?_
      | refine LeO.bind ?_ (fun _ => ?_)
    · intro y0 y1 y2 y3 y4 y5 y6 y7 y8 y9 y10 y11 y12 y13 y14
      unfold sawmillref17_SameLine.l0
      repeat' first
      | (with_reducible exact ih0 _ _ _ _ _ _ _ _ _ _ _ _ _ _ _)
      | (with_reducible exact ih1 _ _ _ _ _ _ _ _ _ _ _ _ _ _ _)
      | (with_reducible exact sawmillref17_sameInts.mono _ _ _)
      | (with_reducible exact LeO.refl _)
      | (with_reducible exact LeO.none _)
      | (with_reducible refine LeO.ite ?_ ?_)
      | (with_reducible refine LeO.bind ?_ (fun _ => ?_))
      | exact ih0 _ _ _ _ _ _ _ _ _ _ _ _ _ _ _
      | exact ih1 _ _ _ _ _ _ _ _ _ _ _ _ _ _ _
      | exact sawmillref17_sameInts.mono _ _ _
      | exact LeO.none _
      | refine LeO.ite ?_ ?_
      | refine LeO.bind ?_ (fun _ => ?_)
theorem sawmillref17_SameLine.mono : ∀ a0 a1 a2 a3 a4 a5 a6 a7 a8 a9 a10 a11 a12 a13 k, LeO (sawmillref17_SameLine.f k a0 a1 a2 a3 a4 a5 a6 a7 a8 a9 a10 a11 a12 a13) (sawmillref17_SameLine.f (k + 1) a0 a1 a2 a3 a4 a5 a6 a7 a8 a9 a10 a11 a12 a13) := by
  intro a0 a1 a2 a3 a4 a5 a6 a7 a8 a9 a10 a11 a12 a13 k
  obtain ⟨ih0, ih1⟩ := sawmillref17_SameLine.mono_l k
  unfold sawmillref17_SameLine.f
  repeat' first
      | (with_reducible exact ih0 _ _ _ _ _ _ _ _ _ _ _ _ _ _ _)
      | (with_reducible exact ih1 _ _ _ _ _ _ _ _ _ _ _ _ _ _ _)
      | (with_reducible exact sawmillref17_sameInts.mono _ _ _)
      | (with_reducible exact LeO.refl _)
      | (with_reducible exact LeO.none _)
      | (with_reducible refine LeO.ite ?_ ?_)
      | (with_reducible refine LeO.bind ?_ (fun _ => ?_))
      | exact ih0 _ _ _ _ _ _ _ _ _ _ _ _ _ _ _
      | exact ih1 _ _ _ _ _ _ _ _ _ _ _ _ _ _ _
      | exact sawmillref17_sameInts.mono _ _ _
      | exact LeO.none _
      | refine LeO.ite ?_ ?_
      | refine LeO.bind ?_ (fun _ => ?_)
theorem L32_0 {p_ : Prop} (k_ : p_ := by
  go_wp2
  repeat (go_quiet (fail); try go_wp2)
  go_meet
  case rel => exact ⟨_, (true), rs1, H', ⟨by first | omega | exact Nat.le_refl _⟩, ⟨bu BK439.out⟩, ⟨bu BK440.out⟩, ⟨bl⟩⟩) : p_ := k_
set_option maxHeartbeats 8000000 in
set_option maxRecDepth 100000 in
theorem sawmillref17_SameLine.calls (k : Nat) (a0_0 : Int) (a0_1 : Int) (a0_2 : Int) (A0_3 : Option Addr) (c0_3 : Nat) (l0_3 : List Int) (A0_4 : Option Addr) (c0_4 : Nat) (l0_4 : List (List Int)) (A0_5 : Option Addr) (c0_5 : Nat) (l0_5 : List Int) (A0_6 : Option Addr) (c0_6 : Nat) (l0_6 : List Int) (a1_0 : Int) (a1_1 : Int) (a1_2 : Int) (A1_3 : Option Addr) (c1_3 : Nat) (l1_3 : List Int) (A1_4 : Option Addr) (c1_4 : Nat) (l1_4 : List (List Int)) (A1_5 : Option Addr) (c1_5 : Nat) (l1_5 : List Int) (A1_6 : Option Addr) (c1_6 : Nat) (l1_6 : List Int) (r : Bool) (w : World) (hr0_3 : Kd.C (Kd.int .i64) w A0_3 l0_3.length l0_3) (hc0_3 : l0_3.length ≤ c0_3) (hr0_4 : Kd.C (Kd.slice 3 (Kd.int .i64)) w A0_4 l0_4.length l0_4) (hc0_4 : l0_4.length ≤ c0_4) (hr0_5 : Kd.C (Kd.int .i64) w A0_5 l0_5.length l0_5) (hc0_5 : l0_5.length ≤ c0_5) (hr0_6 : Kd.C (Kd.int .i64) w A0_6 l0_6.length l0_6) (hc0_6 : l0_6.length ≤ c0_6) (hr1_3 : Kd.C (Kd.int .i64) w A1_3 l1_3.length l1_3) (hc1_3 : l1_3.length ≤ c1_3) (hr1_4 : Kd.C (Kd.slice 3 (Kd.int .i64)) w A1_4 l1_4.length l1_4) (hc1_4 : l1_4.length ≤ c1_4) (hr1_5 : Kd.C (Kd.int .i64) w A1_5 l1_5.length l1_5) (hc1_5 : l1_5.length ≤ c1_5) (hr1_6 : Kd.C (Kd.int .i64) w A1_6 l1_6.length l1_6) (hc1_6 : l1_6.length ≤ c1_6) (h : sawmillref17_SameLine.f k a0_0 a0_1 a0_2 l0_3 l0_4 l0_5 l0_6 a1_0 a1_1 a1_2 l1_3 l1_4 l1_5 l1_6 = some r) :
    Calls Tryd.prog 32 #[.agg #[.int .i64 a0_0, .int .i64 a0_1, .int .i64 a0_2, .slice A0_3 l0_3.length c0_3, .slice A0_4 l0_4.length c0_4, .slice A0_5 l0_5.length c0_5, .slice A0_6 l0_6.length c0_6], .agg #[.int .i64 a1_0, .int .i64 a1_1, .int .i64 a1_2, .slice A1_3 l1_3.length c1_3, .slice A1_4 l1_4.length c1_4, .slice A1_5 l1_5.length c1_5, .slice A1_6 l1_6.length c1_6]] w fun e w' => e = .returned (.bool r) ∧ Below w.heap.size w w' := by
 have hu25 := Tryd.underlying25
 have HR0_3 := Aside0.mk hr0_3
 have HC0_3 := Aside0.mk hc0_3
 clear hr0_3 hc0_3
 have HR0_4 := Aside0.mk hr0_4
 have HC0_4 := Aside0.mk hc0_4
 clear hr0_4 hc0_4
 have HR0_5 := Aside0.mk hr0_5
 have HC0_5 := Aside0.mk hc0_5
 clear hr0_5 hc0_5
 have HR0_6 := Aside0.mk hr0_6
 have HC0_6 := Aside0.mk hc0_6
 clear hr0_6 hc0_6
 have HR1_3 := Aside0.mk hr1_3
 have HC1_3 := Aside0.mk hc1_3
 clear hr1_3 hc1_3
 have HR1_4 := Aside0.mk hr1_4
 have HC1_4 := Aside0.mk hc1_4
 clear hr1_4 hc1_4
 have HR1_5 := Aside0.mk hr1_5
 have HC1_5 := Aside0.mk hc1_5
 clear hr1_5 hc1_5
 have HR1_6 := Aside0.mk hr1_6
 have HC1_6 := Aside0.mk hc1_6
 clear hr1_6 hc1_6
 have HB := Aside0.mk (Below.refl w.heap.size w)
 have H : (if a0_0 = a1_0 then (if a0_1 = a1_1 then (if a0_2 = a1_2 then ((sawmillref17_sameInts.f k l0_3 l1_3).bind fun t441 => (if t441 = true then (if (l0_4.length : Int) = (l1_4.length : Int) then ((sawmillref17_sameInts.f k l0_5 l1_5).bind fun t442 => (if t442 = true then ((sawmillref17_sameInts.f k l0_6 l1_6).bind fun t443 => (sawmillref17_SameLine.j0 k (!t443) a0_0 a0_1 a0_2 l0_3 l0_4 l0_5 l0_6 a1_0 a1_1 a1_2 l1_3 l1_4 l1_5 l1_6)) else (sawmillref17_SameLine.j0 k true a0_0 a0_1 a0_2 l0_3 l0_4 l0_5 l0_6 a1_0 a1_1 a1_2 l1_3 l1_4 l1_5 l1_6))) else (sawmillref17_SameLine.j0 k true a0_0 a0_1 a0_2 l0_3 l0_4 l0_5 l0_6 a1_0 a1_1 a1_2 l1_3 l1_4 l1_5 l1_6)) else (sawmillref17_SameLine.j0 k true a0_0 a0_1 a0_2 l0_3 l0_4 l0_5 l0_6 a1_0 a1_1 a1_2 l1_3 l1_4 l1_5 l1_6))) else (sawmillref17_SameLine.j0 k true a0_0 a0_1 a0_2 l0_3 l0_4 l0_5 l0_6 a1_0 a1_1 a1_2 l1_3 l1_4 l1_5 l1_6)) else (sawmillref17_SameLine.j0 k true a0_0 a0_1 a0_2 l0_3 l0_4 l0_5 l0_6 a1_0 a1_1 a1_2 l1_3 l1_4 l1_5 l1_6)) else (sawmillref17_SameLine.j0 k true a0_0 a0_1 a0_2 l0_3 l0_4 l0_5 l0_6 a1_0 a1_1 a1_2 l1_3 l1_4 l1_5 l1_6)) = some r := h
 clear h
 have HC3 := Aside0.mk H
 clear H
 go_enter Tryd.func32, Tryd.ntmps32
 go_upto_region 1 with (first | ((with_reducible refine gate_dst (N := 2) rfl ?_); (try (refine gate_guard (by rfl) ?_; dsimp only)); refine bx1 (N := 2) #[.int .i64 a0_0, .int .i64 a0_1, .int .i64 a0_2, .slice A0_3 l0_3.length c0_3, .slice A0_4 l0_4.length c0_4, .slice A0_5 l0_5.length c0_5, .slice A0_6 l0_6.length c0_6] 25 ?_; intro gb439 hg w4 hbox hb; have n0_ := Aside0.mk (below_step bl hb); have n1_ := Aside0.mk (hbox); have n2_ := Aside0.mk ((gs1 : w.heap.size ≤ gb439)); have n3_ := Aside0.mk ((gs1 : w.heap.size ≤ gb439)); clear HB; have HB := n0_; have BK439 := n1_; have GW439 := n2_; have GE439 := n3_; clear n0_ n1_ n2_ n3_; clear hb hbox hg) | ((with_reducible refine gate_dst (N := 3) rfl ?_); (try (refine gate_guard (by rfl) ?_; dsimp only)); refine bx1 (N := 3) #[.int .i64 a1_0, .int .i64 a1_1, .int .i64 a1_2, .slice A1_3 l1_3.length c1_3, .slice A1_4 l1_4.length c1_4, .slice A1_5 l1_5.length c1_5, .slice A1_6 l1_6.length c1_6] 25 ?_; intro gb440 hg w5 hbox hb; have n0_ := Aside0.mk (blk_below (bu BK439.out) hb); have n1_ := Aside0.mk (below_step bl hb); have n2_ := Aside0.mk (hbox); have n3_ := Aside0.mk ((gs1 : w.heap.size ≤ gb440)); have n4_ := Aside0.mk ((gs1 : w.heap.size ≤ gb440)); have n5_ := Aside0.mk ((nl1 BK439 : gb439 ≠ gb440)); have n6_ := Aside0.mk ((ng1 BK439 : gb440 ≠ gb439)); clear BK439; clear HB; have BK439 := n0_; have HB := n1_; have BK440 := n2_; have GW440 := n3_; have GE440 := n4_; have NB439_440 := n5_; have NB440_439 := n6_; clear n0_ n1_ n2_ n3_ n4_ n5_ n6_; clear hb hbox hg))
 repeat (go_quiet (first | ((with_reducible refine gate_dst (N := 2) rfl ?_); (try (refine gate_guard (by rfl) ?_; dsimp only)); refine bx1 (N := 2) #[.int .i64 a0_0, .int .i64 a0_1, .int .i64 a0_2, .slice A0_3 l0_3.length c0_3, .slice A0_4 l0_4.length c0_4, .slice A0_5 l0_5.length c0_5, .slice A0_6 l0_6.length c0_6] 25 ?_; intro gb439 hg w4 hbox hb; have n0_ := Aside0.mk (below_step bl hb); have n1_ := Aside0.mk (hbox); have n2_ := Aside0.mk ((gs1 : w.heap.size ≤ gb439)); have n3_ := Aside0.mk ((gs1 : w.heap.size ≤ gb439)); clear HB; have HB := n0_; have BK439 := n1_; have GW439 := n2_; have GE439 := n3_; clear n0_ n1_ n2_ n3_; clear hb hbox hg) | ((with_reducible refine gate_dst (N := 3) rfl ?_); (try (refine gate_guard (by rfl) ?_; dsimp only)); refine bx1 (N := 3) #[.int .i64 a1_0, .int .i64 a1_1, .int .i64 a1_2, .slice A1_3 l1_3.length c1_3, .slice A1_4 l1_4.length c1_4, .slice A1_5 l1_5.length c1_5, .slice A1_6 l1_6.length c1_6] 25 ?_; intro gb440 hg w5 hbox hb; have n0_ := Aside0.mk (blk_below (bu BK439.out) hb); have n1_ := Aside0.mk (below_step bl hb); have n2_ := Aside0.mk (hbox); have n3_ := Aside0.mk ((gs1 : w.heap.size ≤ gb440)); have n4_ := Aside0.mk ((gs1 : w.heap.size ≤ gb440)); have n5_ := Aside0.mk ((nl1 BK439 : gb439 ≠ gb440)); have n6_ := Aside0.mk ((ng1 BK439 : gb440 ≠ gb439)); clear BK439; clear HB; have BK439 := n0_; have HB := n1_; have BK440 := n2_; have GW440 := n3_; have GE440 := n4_; have NB439_440 := n5_; have NB440_439 := n6_; clear n0_ n1_ n2_ n3_ n4_ n5_ n6_; clear hb hbox hg)); go_upto_region 1 with (first | ((with_reducible refine gate_dst (N := 2) rfl ?_); (try (refine gate_guard (by rfl) ?_; dsimp only)); refine bx1 (N := 2) #[.int .i64 a0_0, .int .i64 a0_1, .int .i64 a0_2, .slice A0_3 l0_3.length c0_3, .slice A0_4 l0_4.length c0_4, .slice A0_5 l0_5.length c0_5, .slice A0_6 l0_6.length c0_6] 25 ?_; intro gb439 hg w4 hbox hb; have n0_ := Aside0.mk (below_step bl hb); have n1_ := Aside0.mk (hbox); have n2_ := Aside0.mk ((gs1 : w.heap.size ≤ gb439)); have n3_ := Aside0.mk ((gs1 : w.heap.size ≤ gb439)); clear HB; have HB := n0_; have BK439 := n1_; have GW439 := n2_; have GE439 := n3_; clear n0_ n1_ n2_ n3_; clear hb hbox hg) | ((with_reducible refine gate_dst (N := 3) rfl ?_); (try (refine gate_guard (by rfl) ?_; dsimp only)); refine bx1 (N := 3) #[.int .i64 a1_0, .int .i64 a1_1, .int .i64 a1_2, .slice A1_3 l1_3.length c1_3, .slice A1_4 l1_4.length c1_4, .slice A1_5 l1_5.length c1_5, .slice A1_6 l1_6.length c1_6] 25 ?_; intro gb440 hg w5 hbox hb; have n0_ := Aside0.mk (blk_below (bu BK439.out) hb); have n1_ := Aside0.mk (below_step bl hb); have n2_ := Aside0.mk (hbox); have n3_ := Aside0.mk ((gs1 : w.heap.size ≤ gb440)); have n4_ := Aside0.mk ((gs1 : w.heap.size ≤ gb440)); have n5_ := Aside0.mk ((nl1 BK439 : gb439 ≠ gb440)); have n6_ := Aside0.mk ((ng1 BK439 : gb440 ≠ gb439)); clear BK439; clear HB; have BK439 := n0_; have HB := n1_; have BK440 := n2_; have GW440 := n3_; have GE440 := n4_; have NB439_440 := n5_; have NB440_439 := n6_; clear n0_ n1_ n2_ n3_ n4_ n5_ n6_; clear hb hbox hg)))
 (try simp only [Act.put, List.setIfInBounds_toArray, List.set_cons_zero, List.set_cons_succ])
 go_cut [57] (fun v57 wc => ∃ (kq : Nat) (x57_2 : Bool), v57 = .bool x57_2 ∧ Aside0 (sawmillref17_SameLine.j0 kq x57_2 a0_0 a0_1 a0_2 l0_3 l0_4 l0_5 l0_6 a1_0 a1_1 a1_2 l1_3 l1_4 l1_5 l1_6 = some r) ∧ Aside0 (kq ≤ k) ∧ Aside0 (wc.heap[gb439]? = some (.cells #[.int .i64 a0_0, .int .i64 a0_1, .int .i64 a0_2, (.slice A0_3 l0_3.length c0_3), (.slice A0_4 l0_4.length c0_4), (.slice A0_5 l0_5.length c0_5), (.slice A0_6 l0_6.length c0_6)] 25 (0, 0))) ∧ Aside0 (wc.heap[gb440]? = some (.cells #[.int .i64 a1_0, .int .i64 a1_1, .int .i64 a1_2, (.slice A1_3 l1_3.length c1_3), (.slice A1_4 l1_4.length c1_4), (.slice A1_5 l1_5.length c1_5), (.slice A1_6 l1_6.length c1_6)] 25 (0, 0))) ∧ Aside0 (Below w.heap.size w wc))
 case first =>
  have H := HC3.out
  clear HC3
  by_cases c6 : a0_0 = a1_0
  rotate_left
  · rw [if_neg c6] at H
    have c6b0 : (a0_0 == a1_0) = false := beq_eq_false_iff_ne.mpr c6
    have c6b1 : (a0_0 != a1_0) = true := bne_iff_ne.mpr c6
    (first | rw [c6b0] | (simp only [i64_w, i32_w]; rw [c6b0]) | skip)
    have H' := Aside0.mk H
    clear H
    have hnb33 := NB439_440.out
    have hnc33 := NB440_439.out
    have hcz34 := blk_cells BK439.out
    have hfz34 := blk_frozens BK439.out
    have hcz35 := blk_cells BK440.out
    have hfz35 := blk_frozens BK440.out
    exact L32_0
  rw [if_pos c6] at H
  have c6b0 : (a0_0 == a1_0) = true := beq_iff_eq.mpr c6
  have c6b1 : (a0_0 != a1_0) = false := bne_eq_false_iff_eq.mpr c6
  clear c6
  (first | rw [c6b0] | (simp only [i64_w, i32_w]; rw [c6b0]) | skip)
  by_cases c7 : a0_1 = a1_1
  rotate_left
  · rw [if_neg c7] at H
    have c7b0 : (a0_1 == a1_1) = false := beq_eq_false_iff_ne.mpr c7
    have c7b1 : (a0_1 != a1_1) = true := bne_iff_ne.mpr c7
    have H' := Aside0.mk H
    clear H
    have hnb30 := NB439_440.out
    have hnc30 := NB440_439.out
    have hcz31 := blk_cells BK439.out
    have hfz31 := blk_frozens BK439.out
    have hcz32 := blk_cells BK440.out
    have hfz32 := blk_frozens BK440.out
    exact L32_0
  rw [if_pos c7] at H
  have c7b0 : (a0_1 == a1_1) = true := beq_iff_eq.mpr c7
  have c7b1 : (a0_1 != a1_1) = false := bne_eq_false_iff_eq.mpr c7
  clear c7
  by_cases c8 : a0_2 = a1_2
  rotate_left
  · rw [if_neg c8] at H
    have c8b0 : (a0_2 == a1_2) = false := beq_eq_false_iff_ne.mpr c8
    have c8b1 : (a0_2 != a1_2) = true := bne_iff_ne.mpr c8
    have H' := Aside0.mk H
    clear H
    have hnb27 := NB439_440.out
    have hnc27 := NB440_439.out
    have hcz28 := blk_cells BK439.out
    have hfz28 := blk_frozens BK439.out
    have hcz29 := blk_cells BK440.out
    have hfz29 := blk_frozens BK440.out
    exact L32_0
  rw [if_pos c8] at H
  have c8b0 : (a0_2 == a1_2) = true := beq_iff_eq.mpr c8
  have c8b1 : (a0_2 != a1_2) = false := bne_eq_false_iff_eq.mpr c8
  clear c8
  replace H := Option.bind_eq_some_iff.mp H
  obtain ⟨t441, A90, H⟩ := H
  replace H : (if t441 = true then (if (l0_4.length : Int) = (l1_4.length : Int) then ((sawmillref17_sameInts.f k l0_5 l1_5).bind fun t442 => (if t442 = true then ((sawmillref17_sameInts.f k l0_6 l1_6).bind fun t443 => (sawmillref17_SameLine.j0 k (!t443) a0_0 a0_1 a0_2 l0_3 l0_4 l0_5 l0_6 a1_0 a1_1 a1_2 l1_3 l1_4 l1_5 l1_6)) else (sawmillref17_SameLine.j0 k true a0_0 a0_1 a0_2 l0_3 l0_4 l0_5 l0_6 a1_0 a1_1 a1_2 l1_3 l1_4 l1_5 l1_6))) else (sawmillref17_SameLine.j0 k true a0_0 a0_1 a0_2 l0_3 l0_4 l0_5 l0_6 a1_0 a1_1 a1_2 l1_3 l1_4 l1_5 l1_6)) else (sawmillref17_SameLine.j0 k true a0_0 a0_1 a0_2 l0_3 l0_4 l0_5 l0_6 a1_0 a1_1 a1_2 l1_3 l1_4 l1_5 l1_6)) = some r := H
  have A9 := Aside0.mk A90
  clear A90
  by_cases c10 : t441 = true
  rotate_left
  · replace c10 := Bool.eq_false_iff.mpr c10
    subst c10
    have H1 : (sawmillref17_SameLine.j0 k true a0_0 a0_1 a0_2 l0_3 l0_4 l0_5 l0_6 a1_0 a1_1 a1_2 l1_3 l1_4 l1_5 l1_6) = some r := by rw [if_neg (show ¬ (false = true) by decide)] at H; exact H
    clear H
    have H := H1
    clear H1
    have H' := Aside0.mk H
    clear H
    have hnb24 := NB439_440.out
    have hnc24 := NB440_439.out
    have hcz25 := blk_cells BK439.out
    have hfz25 := blk_frozens BK439.out
    have hcz26 := blk_cells BK440.out
    have hfz26 := blk_frozens BK440.out
    go_wp2_with (first | (go_at_call 61; (with_reducible refine (sawmillref17_sameInts.calls k _ _ l0_3 _ _ l1_3 false _ ?side1 ?side2 ?side3 ?side4 A9.out).mono ?_); (case side1 => exact cu1 (Kd.C_below HR0_3.out HB.out)); (case side2 => exact HC0_3.out); (case side3 => exact cu1 (Kd.C_below HR1_3.out HB.out)); (case side4 => exact HC1_3.out); rintro e w' ⟨rfl, ⟨nd, rfl⟩⟩; (try first | exact ⟨rfl, _, World.drewN_drewN _ _ _⟩ | exact ⟨rfl, _, Eq.trans (World.drewN_drewN _ _ _) (congrArg (World.drewN _) (Nat.add_assoc _ _ _))⟩)))
    repeat (go_quiet (first | (go_at_call 61; (with_reducible refine (sawmillref17_sameInts.calls k _ _ l0_3 _ _ l1_3 false _ ?side1 ?side2 ?side3 ?side4 A9.out).mono ?_); (case side1 => exact cu1 (Kd.C_below HR0_3.out HB.out)); (case side2 => exact HC0_3.out); (case side3 => exact cu1 (Kd.C_below HR1_3.out HB.out)); (case side4 => exact HC1_3.out); rintro e w' ⟨rfl, ⟨nd, rfl⟩⟩; (try first | exact ⟨rfl, _, World.drewN_drewN _ _ _⟩ | exact ⟨rfl, _, Eq.trans (World.drewN_drewN _ _ _) (congrArg (World.drewN _) (Nat.add_assoc _ _ _))⟩))); try go_wp2_with (first | (go_at_call 61; (with_reducible refine (sawmillref17_sameInts.calls k _ _ l0_3 _ _ l1_3 false _ ?side1 ?side2 ?side3 ?side4 A9.out).mono ?_); (case side1 => exact cu1 (Kd.C_below HR0_3.out HB.out)); (case side2 => exact HC0_3.out); (case side3 => exact cu1 (Kd.C_below HR1_3.out HB.out)); (case side4 => exact HC1_3.out); rintro e w' ⟨rfl, ⟨nd, rfl⟩⟩; (try first | exact ⟨rfl, _, World.drewN_drewN _ _ _⟩ | exact ⟨rfl, _, Eq.trans (World.drewN_drewN _ _ _) (congrArg (World.drewN _) (Nat.add_assoc _ _ _))⟩))))
    go_meet
    case rel => exact ⟨_, (true), rs1, H', ⟨by first | omega | exact Nat.le_refl _⟩, ⟨bu BK439.out⟩, ⟨bu BK440.out⟩, ⟨bl⟩⟩
  subst c10
  have H1 : (if (l0_4.length : Int) = (l1_4.length : Int) then ((sawmillref17_sameInts.f k l0_5 l1_5).bind fun t442 => (if t442 = true then ((sawmillref17_sameInts.f k l0_6 l1_6).bind fun t443 => (sawmillref17_SameLine.j0 k (!t443) a0_0 a0_1 a0_2 l0_3 l0_4 l0_5 l0_6 a1_0 a1_1 a1_2 l1_3 l1_4 l1_5 l1_6)) else (sawmillref17_SameLine.j0 k true a0_0 a0_1 a0_2 l0_3 l0_4 l0_5 l0_6 a1_0 a1_1 a1_2 l1_3 l1_4 l1_5 l1_6))) else (sawmillref17_SameLine.j0 k true a0_0 a0_1 a0_2 l0_3 l0_4 l0_5 l0_6 a1_0 a1_1 a1_2 l1_3 l1_4 l1_5 l1_6)) = some r := by rw [if_pos rfl] at H; exact H
  clear H
  have H := H1
  clear H1
  by_cases c11 : (l0_4.length : Int) = (l1_4.length : Int)
  rotate_left
  · rw [if_neg c11] at H
    have c11b0 : ((l0_4.length : Int) == (l1_4.length : Int)) = false := beq_eq_false_iff_ne.mpr c11
    have c11b1 : ((l0_4.length : Int) != (l1_4.length : Int)) = true := bne_iff_ne.mpr c11
    have c11b2 : (l0_4.length == l1_4.length) = false := by first | simpa using c11 | (simp at c11 ⊢; omega)
    have H' := Aside0.mk H
    clear H
    have hnb21 := NB439_440.out
    have hnc21 := NB440_439.out
    have hcz22 := blk_cells BK439.out
    have hfz22 := blk_frozens BK439.out
    have hcz23 := blk_cells BK440.out
    have hfz23 := blk_frozens BK440.out
    go_wp2_with (first | (go_at_call 61; (with_reducible refine (sawmillref17_sameInts.calls k _ _ l0_3 _ _ l1_3 true _ ?side1 ?side2 ?side3 ?side4 A9.out).mono ?_); (case side1 => exact cu1 (Kd.C_below HR0_3.out HB.out)); (case side2 => exact HC0_3.out); (case side3 => exact cu1 (Kd.C_below HR1_3.out HB.out)); (case side4 => exact HC1_3.out); rintro e w' ⟨rfl, ⟨nd, rfl⟩⟩; (try first | exact ⟨rfl, _, World.drewN_drewN _ _ _⟩ | exact ⟨rfl, _, Eq.trans (World.drewN_drewN _ _ _) (congrArg (World.drewN _) (Nat.add_assoc _ _ _))⟩)))
    repeat (go_quiet (first | (go_at_call 61; (with_reducible refine (sawmillref17_sameInts.calls k _ _ l0_3 _ _ l1_3 true _ ?side1 ?side2 ?side3 ?side4 A9.out).mono ?_); (case side1 => exact cu1 (Kd.C_below HR0_3.out HB.out)); (case side2 => exact HC0_3.out); (case side3 => exact cu1 (Kd.C_below HR1_3.out HB.out)); (case side4 => exact HC1_3.out); rintro e w' ⟨rfl, ⟨nd, rfl⟩⟩; (try first | exact ⟨rfl, _, World.drewN_drewN _ _ _⟩ | exact ⟨rfl, _, Eq.trans (World.drewN_drewN _ _ _) (congrArg (World.drewN _) (Nat.add_assoc _ _ _))⟩))); try go_wp2_with (first | (go_at_call 61; (with_reducible refine (sawmillref17_sameInts.calls k _ _ l0_3 _ _ l1_3 true _ ?side1 ?side2 ?side3 ?side4 A9.out).mono ?_); (case side1 => exact cu1 (Kd.C_below HR0_3.out HB.out)); (case side2 => exact HC0_3.out); (case side3 => exact cu1 (Kd.C_below HR1_3.out HB.out)); (case side4 => exact HC1_3.out); rintro e w' ⟨rfl, ⟨nd, rfl⟩⟩; (try first | exact ⟨rfl, _, World.drewN_drewN _ _ _⟩ | exact ⟨rfl, _, Eq.trans (World.drewN_drewN _ _ _) (congrArg (World.drewN _) (Nat.add_assoc _ _ _))⟩))))
    go_meet
    case rel => exact ⟨_, (true), rs1, H', ⟨by first | omega | exact Nat.le_refl _⟩, ⟨bu BK439.out⟩, ⟨bu BK440.out⟩, ⟨bl⟩⟩
  rw [if_pos c11] at H
  have c11b0 : ((l0_4.length : Int) == (l1_4.length : Int)) = true := beq_iff_eq.mpr c11
  have c11b1 : ((l0_4.length : Int) != (l1_4.length : Int)) = false := bne_eq_false_iff_eq.mpr c11
  have c11b2 : (l0_4.length == l1_4.length) = true := by first | simpa using c11 | (simp at c11 ⊢; omega)
  clear c11
  replace H := Option.bind_eq_some_iff.mp H
  obtain ⟨t442, A120, H⟩ := H
  replace H : (if t442 = true then ((sawmillref17_sameInts.f k l0_6 l1_6).bind fun t443 => (sawmillref17_SameLine.j0 k (!t443) a0_0 a0_1 a0_2 l0_3 l0_4 l0_5 l0_6 a1_0 a1_1 a1_2 l1_3 l1_4 l1_5 l1_6)) else (sawmillref17_SameLine.j0 k true a0_0 a0_1 a0_2 l0_3 l0_4 l0_5 l0_6 a1_0 a1_1 a1_2 l1_3 l1_4 l1_5 l1_6)) = some r := H
  have A12 := Aside0.mk A120
  clear A120
  by_cases c13 : t442 = true
  rotate_left
  · replace c13 := Bool.eq_false_iff.mpr c13
    subst c13
    have H1 : (sawmillref17_SameLine.j0 k true a0_0 a0_1 a0_2 l0_3 l0_4 l0_5 l0_6 a1_0 a1_1 a1_2 l1_3 l1_4 l1_5 l1_6) = some r := by rw [if_neg (show ¬ (false = true) by decide)] at H; exact H
    clear H
    have H := H1
    clear H1
    have H' := Aside0.mk H
    clear H
    have hnb18 := NB439_440.out
    have hnc18 := NB440_439.out
    have hcz19 := blk_cells BK439.out
    have hfz19 := blk_frozens BK439.out
    have hcz20 := blk_cells BK440.out
    have hfz20 := blk_frozens BK440.out
    go_wp2_with (first | (go_at_call 61; (with_reducible refine (sawmillref17_sameInts.calls k _ _ l0_3 _ _ l1_3 true _ ?side1 ?side2 ?side3 ?side4 A9.out).mono ?_); (case side1 => exact cu1 (Kd.C_below HR0_3.out HB.out)); (case side2 => exact HC0_3.out); (case side3 => exact cu1 (Kd.C_below HR1_3.out HB.out)); (case side4 => exact HC1_3.out); rintro e w' ⟨rfl, ⟨nd, rfl⟩⟩; (try first | exact ⟨rfl, _, World.drewN_drewN _ _ _⟩ | exact ⟨rfl, _, Eq.trans (World.drewN_drewN _ _ _) (congrArg (World.drewN _) (Nat.add_assoc _ _ _))⟩)) | (go_at_call 61; (with_reducible refine (sawmillref17_sameInts.calls k _ _ l0_5 _ _ l1_5 false _ ?side1 ?side2 ?side3 ?side4 A12.out).mono ?_); (case side1 => repeat (first | exact (Kd.C_below HR0_5.out bl) | (with_reducible refine Kd.C_alloc ?_ _) | (with_reducible refine Kd.C_drewN ?_ _) | (with_reducible refine Kd.C_drew ?_))); (case side2 => exact HC0_5.out); (case side3 => repeat (first | exact (Kd.C_below HR1_5.out bl) | (with_reducible refine Kd.C_alloc ?_ _) | (with_reducible refine Kd.C_drewN ?_ _) | (with_reducible refine Kd.C_drew ?_))); (case side4 => exact HC1_5.out); rintro e w' ⟨rfl, ⟨nd, rfl⟩⟩; (try first | exact ⟨rfl, _, World.drewN_drewN _ _ _⟩ | exact ⟨rfl, _, Eq.trans (World.drewN_drewN _ _ _) (congrArg (World.drewN _) (Nat.add_assoc _ _ _))⟩)))
    repeat (go_quiet (first | (go_at_call 61; (with_reducible refine (sawmillref17_sameInts.calls k _ _ l0_3 _ _ l1_3 true _ ?side1 ?side2 ?side3 ?side4 A9.out).mono ?_); (case side1 => exact cu1 (Kd.C_below HR0_3.out HB.out)); (case side2 => exact HC0_3.out); (case side3 => exact cu1 (Kd.C_below HR1_3.out HB.out)); (case side4 => exact HC1_3.out); rintro e w' ⟨rfl, ⟨nd, rfl⟩⟩; (try first | exact ⟨rfl, _, World.drewN_drewN _ _ _⟩ | exact ⟨rfl, _, Eq.trans (World.drewN_drewN _ _ _) (congrArg (World.drewN _) (Nat.add_assoc _ _ _))⟩)) | (go_at_call 61; (with_reducible refine (sawmillref17_sameInts.calls k _ _ l0_5 _ _ l1_5 false _ ?side1 ?side2 ?side3 ?side4 A12.out).mono ?_); (case side1 => repeat (first | exact (Kd.C_below HR0_5.out bl) | (with_reducible refine Kd.C_alloc ?_ _) | (with_reducible refine Kd.C_drewN ?_ _) | (with_reducible refine Kd.C_drew ?_))); (case side2 => exact HC0_5.out); (case side3 => repeat (first | exact (Kd.C_below HR1_5.out bl) | (with_reducible refine Kd.C_alloc ?_ _) | (with_reducible refine Kd.C_drewN ?_ _) | (with_reducible refine Kd.C_drew ?_))); (case side4 => exact HC1_5.out); rintro e w' ⟨rfl, ⟨nd, rfl⟩⟩; (try first | exact ⟨rfl, _, World.drewN_drewN _ _ _⟩ | exact ⟨rfl, _, Eq.trans (World.drewN_drewN _ _ _) (congrArg (World.drewN _) (Nat.add_assoc _ _ _))⟩))); try go_wp2_with (first | (go_at_call 61; (with_reducible refine (sawmillref17_sameInts.calls k _ _ l0_3 _ _ l1_3 true _ ?side1 ?side2 ?side3 ?side4 A9.out).mono ?_); (case side1 => exact cu1 (Kd.C_below HR0_3.out HB.out)); (case side2 => exact HC0_3.out); (case side3 => exact cu1 (Kd.C_below HR1_3.out HB.out)); (case side4 => exact HC1_3.out); rintro e w' ⟨rfl, ⟨nd, rfl⟩⟩; (try first | exact ⟨rfl, _, World.drewN_drewN _ _ _⟩ | exact ⟨rfl, _, Eq.trans (World.drewN_drewN _ _ _) (congrArg (World.drewN _) (Nat.add_assoc _ _ _))⟩)) | (go_at_call 61; (with_reducible refine (sawmillref17_sameInts.calls k _ _ l0_5 _ _ l1_5 false _ ?side1 ?side2 ?side3 ?side4 A12.out).mono ?_); (case side1 => repeat (first | exact (Kd.C_below HR0_5.out bl) | (with_reducible refine Kd.C_alloc ?_ _) | (with_reducible refine Kd.C_drewN ?_ _) | (with_reducible refine Kd.C_drew ?_))); (case side2 => exact HC0_5.out); (case side3 => repeat (first | exact (Kd.C_below HR1_5.out bl) | (with_reducible refine Kd.C_alloc ?_ _) | (with_reducible refine Kd.C_drewN ?_ _) | (with_reducible refine Kd.C_drew ?_))); (case side4 => exact HC1_5.out); rintro e w' ⟨rfl, ⟨nd, rfl⟩⟩; (try first | exact ⟨rfl, _, World.drewN_drewN _ _ _⟩ | exact ⟨rfl, _, Eq.trans (World.drewN_drewN _ _ _) (congrArg (World.drewN _) (Nat.add_assoc _ _ _))⟩))))
    go_meet
    case rel => exact ⟨_, (true), rs1, H', ⟨by first | omega | exact Nat.le_refl _⟩, ⟨bu BK439.out⟩, ⟨bu BK440.out⟩, ⟨bl⟩⟩
  subst c13
  have H1 : ((sawmillref17_sameInts.f k l0_6 l1_6).bind fun t443 => (sawmillref17_SameLine.j0 k (!t443) a0_0 a0_1 a0_2 l0_3 l0_4 l0_5 l0_6 a1_0 a1_1 a1_2 l1_3 l1_4 l1_5 l1_6)) = some r := by rw [if_pos rfl] at H; exact H
  clear H
  have H := H1
  clear H1
  replace H := Option.bind_eq_some_iff.mp H
  obtain ⟨t443, A140, H⟩ := H
  replace H : (sawmillref17_SameLine.j0 k (!t443) a0_0 a0_1 a0_2 l0_3 l0_4 l0_5 l0_6 a1_0 a1_1 a1_2 l1_3 l1_4 l1_5 l1_6) = some r := H
  have A14 := Aside0.mk A140
  clear A140
  have H' := Aside0.mk H
  clear H
  have hnb15 := NB439_440.out
  have hnc15 := NB440_439.out
  have hcz16 := blk_cells BK439.out
  have hfz16 := blk_frozens BK439.out
  have hcz17 := blk_cells BK440.out
  have hfz17 := blk_frozens BK440.out
  go_wp2_with (first | (go_at_call 61; (with_reducible refine (sawmillref17_sameInts.calls k _ _ l0_3 _ _ l1_3 true _ ?side1 ?side2 ?side3 ?side4 A9.out).mono ?_); (case side1 => exact cu1 (Kd.C_below HR0_3.out HB.out)); (case side2 => exact HC0_3.out); (case side3 => exact cu1 (Kd.C_below HR1_3.out HB.out)); (case side4 => exact HC1_3.out); rintro e w' ⟨rfl, ⟨nd, rfl⟩⟩; (try first | exact ⟨rfl, _, World.drewN_drewN _ _ _⟩ | exact ⟨rfl, _, Eq.trans (World.drewN_drewN _ _ _) (congrArg (World.drewN _) (Nat.add_assoc _ _ _))⟩)) | (go_at_call 61; (with_reducible refine (sawmillref17_sameInts.calls k _ _ l0_5 _ _ l1_5 true _ ?side1 ?side2 ?side3 ?side4 A12.out).mono ?_); (case side1 => repeat (first | exact (Kd.C_below HR0_5.out bl) | (with_reducible refine Kd.C_alloc ?_ _) | (with_reducible refine Kd.C_drewN ?_ _) | (with_reducible refine Kd.C_drew ?_))); (case side2 => exact HC0_5.out); (case side3 => repeat (first | exact (Kd.C_below HR1_5.out bl) | (with_reducible refine Kd.C_alloc ?_ _) | (with_reducible refine Kd.C_drewN ?_ _) | (with_reducible refine Kd.C_drew ?_))); (case side4 => exact HC1_5.out); rintro e w' ⟨rfl, ⟨nd, rfl⟩⟩; (try first | exact ⟨rfl, _, World.drewN_drewN _ _ _⟩ | exact ⟨rfl, _, Eq.trans (World.drewN_drewN _ _ _) (congrArg (World.drewN _) (Nat.add_assoc _ _ _))⟩)) | (go_at_call 61; (with_reducible refine (sawmillref17_sameInts.calls k _ _ l0_6 _ _ l1_6 t443 _ ?side1 ?side2 ?side3 ?side4 A14.out).mono ?_); (case side1 => repeat (first | exact (Kd.C_below HR0_6.out bl) | (with_reducible refine Kd.C_alloc ?_ _) | (with_reducible refine Kd.C_drewN ?_ _) | (with_reducible refine Kd.C_drew ?_))); (case side2 => exact HC0_6.out); (case side3 => repeat (first | exact (Kd.C_below HR1_6.out bl) | (with_reducible refine Kd.C_alloc ?_ _) | (with_reducible refine Kd.C_drewN ?_ _) | (with_reducible refine Kd.C_drew ?_))); (case side4 => exact HC1_6.out); rintro e w' ⟨rfl, ⟨nd, rfl⟩⟩; (try first | exact ⟨rfl, _, World.drewN_drewN _ _ _⟩ | exact ⟨rfl, _, Eq.trans (World.drewN_drewN _ _ _) (congrArg (World.drewN _) (Nat.add_assoc _ _ _))⟩)))
  repeat (go_quiet (first | (go_at_call 61; (with_reducible refine (sawmillref17_sameInts.calls k _ _ l0_3 _ _ l1_3 true _ ?side1 ?side2 ?side3 ?side4 A9.out).mono ?_); (case side1 => exact cu1 (Kd.C_below HR0_3.out HB.out)); (case side2 => exact HC0_3.out); (case side3 => exact cu1 (Kd.C_below HR1_3.out HB.out)); (case side4 => exact HC1_3.out); rintro e w' ⟨rfl, ⟨nd, rfl⟩⟩; (try first | exact ⟨rfl, _, World.drewN_drewN _ _ _⟩ | exact ⟨rfl, _, Eq.trans (World.drewN_drewN _ _ _) (congrArg (World.drewN _) (Nat.add_assoc _ _ _))⟩)) | (go_at_call 61; (with_reducible refine (sawmillref17_sameInts.calls k _ _ l0_5 _ _ l1_5 true _ ?side1 ?side2 ?side3 ?side4 A12.out).mono ?_); (case side1 => repeat (first | exact (Kd.C_below HR0_5.out bl) | (with_reducible refine Kd.C_alloc ?_ _) | (with_reducible refine Kd.C_drewN ?_ _) | (with_reducible refine Kd.C_drew ?_))); (case side2 => exact HC0_5.out); (case side3 => repeat (first | exact (Kd.C_below HR1_5.out bl) | (with_reducible refine Kd.C_alloc ?_ _) | (with_reducible refine Kd.C_drewN ?_ _) | (with_reducible refine Kd.C_drew ?_))); (case side4 => exact HC1_5.out); rintro e w' ⟨rfl, ⟨nd, rfl⟩⟩; (try first | exact ⟨rfl, _, World.drewN_drewN _ _ _⟩ | exact ⟨rfl, _, Eq.trans (World.drewN_drewN _ _ _) (congrArg (World.drewN _) (Nat.add_assoc _ _ _))⟩)) | (go_at_call 61; (with_reducible refine (sawmillref17_sameInts.calls k _ _ l0_6 _ _ l1_6 t443 _ ?side1 ?side2 ?side3 ?side4 A14.out).mono ?_); (case side1 => repeat (first | exact (Kd.C_below HR0_6.out bl) | (with_reducible refine Kd.C_alloc ?_ _) | (with_reducible refine Kd.C_drewN ?_ _) | (with_reducible refine Kd.C_drew ?_))); (case side2 => exact HC0_6.out); (case side3 => repeat (first | exact (Kd.C_below HR1_6.out bl) | (with_reducible refine Kd.C_alloc ?_ _) | (with_reducible refine Kd.C_drewN ?_ _) | (with_reducible refine Kd.C_drew ?_))); (case side4 => exact HC1_6.out); rintro e w' ⟨rfl, ⟨nd, rfl⟩⟩; (try first | exact ⟨rfl, _, World.drewN_drewN _ _ _⟩ | exact ⟨rfl, _, Eq.trans (World.drewN_drewN _ _ _) (congrArg (World.drewN _) (Nat.add_assoc _ _ _))⟩))); try go_wp2_with (first | (go_at_call 61; (with_reducible refine (sawmillref17_sameInts.calls k _ _ l0_3 _ _ l1_3 true _ ?side1 ?side2 ?side3 ?side4 A9.out).mono ?_); (case side1 => exact cu1 (Kd.C_below HR0_3.out HB.out)); (case side2 => exact HC0_3.out); (case side3 => exact cu1 (Kd.C_below HR1_3.out HB.out)); (case side4 => exact HC1_3.out); rintro e w' ⟨rfl, ⟨nd, rfl⟩⟩; (try first | exact ⟨rfl, _, World.drewN_drewN _ _ _⟩ | exact ⟨rfl, _, Eq.trans (World.drewN_drewN _ _ _) (congrArg (World.drewN _) (Nat.add_assoc _ _ _))⟩)) | (go_at_call 61; (with_reducible refine (sawmillref17_sameInts.calls k _ _ l0_5 _ _ l1_5 true _ ?side1 ?side2 ?side3 ?side4 A12.out).mono ?_); (case side1 => repeat (first | exact (Kd.C_below HR0_5.out bl) | (with_reducible refine Kd.C_alloc ?_ _) | (with_reducible refine Kd.C_drewN ?_ _) | (with_reducible refine Kd.C_drew ?_))); (case side2 => exact HC0_5.out); (case side3 => repeat (first | exact (Kd.C_below HR1_5.out bl) | (with_reducible refine Kd.C_alloc ?_ _) | (with_reducible refine Kd.C_drewN ?_ _) | (with_reducible refine Kd.C_drew ?_))); (case side4 => exact HC1_5.out); rintro e w' ⟨rfl, ⟨nd, rfl⟩⟩; (try first | exact ⟨rfl, _, World.drewN_drewN _ _ _⟩ | exact ⟨rfl, _, Eq.trans (World.drewN_drewN _ _ _) (congrArg (World.drewN _) (Nat.add_assoc _ _ _))⟩)) | (go_at_call 61; (with_reducible refine (sawmillref17_sameInts.calls k _ _ l0_6 _ _ l1_6 t443 _ ?side1 ?side2 ?side3 ?side4 A14.out).mono ?_); (case side1 => repeat (first | exact (Kd.C_below HR0_6.out bl) | (with_reducible refine Kd.C_alloc ?_ _) | (with_reducible refine Kd.C_drewN ?_ _) | (with_reducible refine Kd.C_drew ?_))); (case side2 => exact HC0_6.out); (case side3 => repeat (first | exact (Kd.C_below HR1_6.out bl) | (with_reducible refine Kd.C_alloc ?_ _) | (with_reducible refine Kd.C_drewN ?_ _) | (with_reducible refine Kd.C_drew ?_))); (case side4 => exact HC1_6.out); rintro e w' ⟨rfl, ⟨nd, rfl⟩⟩; (try first | exact ⟨rfl, _, World.drewN_drewN _ _ _⟩ | exact ⟨rfl, _, Eq.trans (World.drewN_drewN _ _ _) (congrArg (World.drewN _) (Nat.add_assoc _ _ _))⟩))))
  go_meet
  case rel => exact ⟨_, (!t443), rs1, H', ⟨by first | omega | exact Nat.le_refl _⟩, ⟨bu BK439.out⟩, ⟨bu BK440.out⟩, ⟨bl⟩⟩
 clear HC3; (try clear c1); (try clear c2); (try clear p2); (try clear c3); (try clear c6); (try clear c6b0); (try clear c6b1); (try clear c7); (try clear c7b0); (try clear c7b1); (try clear c8); (try clear c8b0); (try clear c8b1); (try clear c10); (try clear c11); (try clear c11b0); (try clear c11b1); (try clear c11b2); (try clear c13); (try clear c15); (try clear c18); (try clear c21); (try clear c24); (try clear c27); (try clear c30); (try clear c32); (try clear c33); (try clear hcz16); (try clear hcz17); (try clear hcz19); (try clear hcz20); (try clear hcz22); (try clear hcz23); (try clear hcz25); (try clear hcz26); (try clear hcz28); (try clear hcz29); (try clear hcz31); (try clear hcz32); (try clear hcz34); (try clear hcz35); (try clear hfz16); (try clear hfz17); (try clear hfz19); (try clear hfz20); (try clear hfz22); (try clear hfz23); (try clear hfz25); (try clear hfz26); (try clear hfz28); (try clear hfz29); (try clear hfz31); (try clear hfz32); (try clear hfz34); (try clear hfz35)
 obtain ⟨kq, x57_2, rfl, HA, HJ2, BK439, BK440, HB⟩ := hcut
 rcases kq with _ | kj2
 · exact absurd HA.out (by simp [sawmillref17_SameLine.j0])
 have H := HA.out
 clear HA
 simp only [sawmillref17_SameLine.j0] at H
 by_cases c36 : x57_2 = true
 · subst c36
   have H1 : (some false) = some r := by rw [if_pos rfl] at H; exact H
   clear H
   have H := H1
   clear H1
   obtain rfl := Option.some.inj H
   go_wp2
   repeat (go_quiet (fail); try go_wp2)
   go_ret
   exact ⟨fe1, bl⟩
 replace c36 := Bool.eq_false_iff.mpr c36
 subst c36
 have H1 : (sawmillref17_SameLine.l0 kj2 0 a0_0 a0_1 a0_2 l0_3 l0_4 l0_5 l0_6 a1_0 a1_1 a1_2 l1_3 l1_4 l1_5 l1_6) = some r := by rw [if_neg (show ¬ (false = true) by decide)] at H; exact H
 clear H
 have H := H1
 clear H1
 have H' := Aside0.mk H
 clear H
 go_wp2
 repeat (go_quiet (fail); try go_wp2)
 go_loopg [5] kj2 (fun kq v5 w' => ∃ (x5_2 : Int), v5 = .int .i64 x5_2 ∧ Aside0 (sawmillref17_SameLine.l0 kq x5_2 a0_0 a0_1 a0_2 l0_3 l0_4 l0_5 l0_6 a1_0 a1_1 a1_2 l1_3 l1_4 l1_5 l1_6 = some r) ∧ Aside0 (kq ≤ kj2) ∧ Aside0 (w'.heap[gb439]? = some (.cells #[.int .i64 a0_0, .int .i64 a0_1, .int .i64 a0_2, (.slice A0_3 l0_3.length c0_3), (.slice A0_4 l0_4.length c0_4), (.slice A0_5 l0_5.length c0_5), (.slice A0_6 l0_6.length c0_6)] 25 (0, 0))) ∧ Aside0 (w'.heap[gb440]? = some (.cells #[.int .i64 a1_0, .int .i64 a1_1, .int .i64 a1_2, (.slice A1_3 l1_3.length c1_3), (.slice A1_4 l1_4.length c1_4), (.slice A1_5 l1_5.length c1_5), (.slice A1_6 l1_6.length c1_6)] 25 (0, 0))) ∧ Aside0 (Below w.heap.size w w'))
 case atStart => exact ⟨(0), rs1, H', ⟨Nat.le_refl _⟩, ⟨bu BK439.out⟩, ⟨bu BK440.out⟩, ⟨bl⟩⟩
 clear H'; (try clear c1); (try clear c2); (try clear p2); (try clear c3); (try clear c6); (try clear c6b0); (try clear c6b1); (try clear c7); (try clear c7b0); (try clear c7b1); (try clear c8); (try clear c8b0); (try clear c8b1); (try clear c10); (try clear c11); (try clear c11b0); (try clear c11b1); (try clear c11b2); (try clear c13); (try clear c15); (try clear c18); (try clear c21); (try clear c24); (try clear c27); (try clear c30); (try clear c32); (try clear c33); (try clear c36); (try clear hcz16); (try clear hcz17); (try clear hcz19); (try clear hcz20); (try clear hcz22); (try clear hcz23); (try clear hcz25); (try clear hcz26); (try clear hcz28); (try clear hcz29); (try clear hcz31); (try clear hcz32); (try clear hcz34); (try clear hcz35); (try clear hfz16); (try clear hfz17); (try clear hfz19); (try clear hfz20); (try clear hfz22); (try clear hfz23); (try clear hfz25); (try clear hfz26); (try clear hfz28); (try clear hfz29); (try clear hfz31); (try clear hfz32); (try clear hfz34); (try clear hfz35); (try clear p2)
 obtain ⟨x5_2, rfl, HA, HK2, BK439, BK440, HB⟩ := hrel
 rcases gk with _ | k2
 · exact absurd HA.out (by simp [sawmillref17_SameLine.l0])
 have H := HA.out
 clear HA
 simp only [sawmillref17_SameLine.l0] at H
 by_cases c37 : x5_2 < (l0_4.length : Int)
 rotate_left
 · rw [if_neg c37] at H
   have c37b0 : decide (x5_2 < (l0_4.length : Int)) = false := decide_eq_false c37
   clear c37
   obtain rfl := Option.some.inj H
   have hnb48 := NB439_440.out
   have hnc48 := NB440_439.out
   have hcz49 := blk_cells BK439.out
   have hfz49 := blk_frozens BK439.out
   go_wp2
   repeat (go_quiet (fail); try go_wp2)
   go_ret
   exact ⟨fe1, bl⟩
 rw [if_pos c37] at H
 have c37b0 : decide (x5_2 < (l0_4.length : Int)) = true := decide_eq_true c37
 clear c37
 obtain ⟨c38, H⟩ := gd1 H
 have c38b0 : decide (0 ≤ x5_2) = true := decide_eq_true c38
 clear c38
 obtain ⟨c39, H⟩ := gd1 H
 have c39b0 : decide (x5_2 < (l1_4.length : Int)) = true := decide_eq_true c39
 clear c39
 replace H := Option.bind_eq_some_iff.mp H
 obtain ⟨t446, A400, H⟩ := H
 replace H : (if t446 = true then (sawmillref17_SameLine.l0 k2 (wrap64 (x5_2 + 1)) a0_0 a0_1 a0_2 l0_3 l0_4 l0_5 l0_6 a1_0 a1_1 a1_2 l1_3 l1_4 l1_5 l1_6) else (some false)) = some r := H
 have A40 := Aside0.mk A400
 clear A400
 by_cases c41 : t446 = true
 rotate_left
 · replace c41 := Bool.eq_false_iff.mpr c41
   subst c41
   have H1 : (some false) = some r := by rw [if_neg (show ¬ (false = true) by decide)] at H; exact H
   clear H
   have H := H1
   clear H1
   obtain rfl := Option.some.inj H
   have hnb45 := NB439_440.out
   have hnc45 := NB440_439.out
   have hcz46 := blk_cells BK439.out
   have hfz46 := blk_frozens BK439.out
   have p444 : 0 ≤ (x5_2 : Int) := da1
   have q444 : x5_2 < (l0_4.length : Int) := da1
   obtain ⟨ad444, A444_0, c444_0, e444, hx444_0, hl444_0, hi444_0⟩ := at_L1 HR0_4.out x5_2 p444 q444
   cases e444
   (try replace hx444_0 := (HB.out.cell (World.block_lt_of_cell? w _ hx444_0)).trans hx444_0)
   have HR444_0 := Aside0.mk hi444_0
   have HC444_0 := Aside0.mk hl444_0
   clear hi444_0 hl444_0
   replace p444 := eq_true p444
   replace q444 := eq_true q444
   have hcz47 := blk_cells BK440.out
   have hfz47 := blk_frozens BK440.out
   have p445 : 0 ≤ (x5_2 : Int) := da1
   have q445 : x5_2 < (l1_4.length : Int) := da1
   obtain ⟨ad445, A445_0, c445_0, e445, hx445_0, hl445_0, hi445_0⟩ := at_L1 HR1_4.out x5_2 p445 q445
   cases e445
   (try replace hx445_0 := (HB.out.cell (World.block_lt_of_cell? w _ hx445_0)).trans hx445_0)
   have HR445_0 := Aside0.mk hi445_0
   have HC445_0 := Aside0.mk hl445_0
   clear hi445_0 hl445_0
   replace p445 := eq_true p445
   replace q445 := eq_true q445
   go_wp2_with (first | (go_at_call 61; (with_reducible refine (sawmillref17_sameInts.calls k2 _ _ (rd_L1 l0_4 x5_2) _ _ (rd_L1 l1_4 x5_2) false _ ?side1 ?side2 ?side3 ?side4 A40.out).mono ?_); (case side1 => exact cu1 (Kd.C_below HR444_0.out HB.out)); (case side2 => exact HC444_0.out); (case side3 => exact cu1 (Kd.C_below HR445_0.out HB.out)); (case side4 => exact HC445_0.out); rintro e w' ⟨rfl, ⟨nd, rfl⟩⟩; (try first | exact ⟨rfl, _, World.drewN_drewN _ _ _⟩ | exact ⟨rfl, _, Eq.trans (World.drewN_drewN _ _ _) (congrArg (World.drewN _) (Nat.add_assoc _ _ _))⟩)))
   repeat (go_quiet (first | (go_at_call 61; (with_reducible refine (sawmillref17_sameInts.calls k2 _ _ (rd_L1 l0_4 x5_2) _ _ (rd_L1 l1_4 x5_2) false _ ?side1 ?side2 ?side3 ?side4 A40.out).mono ?_); (case side1 => exact cu1 (Kd.C_below HR444_0.out HB.out)); (case side2 => exact HC444_0.out); (case side3 => exact cu1 (Kd.C_below HR445_0.out HB.out)); (case side4 => exact HC445_0.out); rintro e w' ⟨rfl, ⟨nd, rfl⟩⟩; (try first | exact ⟨rfl, _, World.drewN_drewN _ _ _⟩ | exact ⟨rfl, _, Eq.trans (World.drewN_drewN _ _ _) (congrArg (World.drewN _) (Nat.add_assoc _ _ _))⟩))); try go_wp2_with (first | (go_at_call 61; (with_reducible refine (sawmillref17_sameInts.calls k2 _ _ (rd_L1 l0_4 x5_2) _ _ (rd_L1 l1_4 x5_2) false _ ?side1 ?side2 ?side3 ?side4 A40.out).mono ?_); (case side1 => exact cu1 (Kd.C_below HR444_0.out HB.out)); (case side2 => exact HC444_0.out); (case side3 => exact cu1 (Kd.C_below HR445_0.out HB.out)); (case side4 => exact HC445_0.out); rintro e w' ⟨rfl, ⟨nd, rfl⟩⟩; (try first | exact ⟨rfl, _, World.drewN_drewN _ _ _⟩ | exact ⟨rfl, _, Eq.trans (World.drewN_drewN _ _ _) (congrArg (World.drewN _) (Nat.add_assoc _ _ _))⟩))))
   go_ret
   exact ⟨fe1, bl⟩
 subst c41
 have H1 : (sawmillref17_SameLine.l0 k2 (wrap64 (x5_2 + 1)) a0_0 a0_1 a0_2 l0_3 l0_4 l0_5 l0_6 a1_0 a1_1 a1_2 l1_3 l1_4 l1_5 l1_6) = some r := by rw [if_pos rfl] at H; exact H
 clear H
 have H := H1
 clear H1
 have H' := Aside0.mk H
 clear H
 have hnb42 := NB439_440.out
 have hnc42 := NB440_439.out
 have hcz43 := blk_cells BK439.out
 have hfz43 := blk_frozens BK439.out
 have p444 : 0 ≤ (x5_2 : Int) := da1
 have q444 : x5_2 < (l0_4.length : Int) := da1
 obtain ⟨ad444, A444_0, c444_0, e444, hx444_0, hl444_0, hi444_0⟩ := at_L1 HR0_4.out x5_2 p444 q444
 cases e444
 (try replace hx444_0 := (HB.out.cell (World.block_lt_of_cell? w _ hx444_0)).trans hx444_0)
 have HR444_0 := Aside0.mk hi444_0
 have HC444_0 := Aside0.mk hl444_0
 clear hi444_0 hl444_0
 replace p444 := eq_true p444
 replace q444 := eq_true q444
 have hcz44 := blk_cells BK440.out
 have hfz44 := blk_frozens BK440.out
 have p445 : 0 ≤ (x5_2 : Int) := da1
 have q445 : x5_2 < (l1_4.length : Int) := da1
 obtain ⟨ad445, A445_0, c445_0, e445, hx445_0, hl445_0, hi445_0⟩ := at_L1 HR1_4.out x5_2 p445 q445
 cases e445
 (try replace hx445_0 := (HB.out.cell (World.block_lt_of_cell? w _ hx445_0)).trans hx445_0)
 have HR445_0 := Aside0.mk hi445_0
 have HC445_0 := Aside0.mk hl445_0
 clear hi445_0 hl445_0
 replace p445 := eq_true p445
 replace q445 := eq_true q445
 go_wp2_with (first | (go_at_call 61; (with_reducible refine (sawmillref17_sameInts.calls k2 _ _ (rd_L1 l0_4 x5_2) _ _ (rd_L1 l1_4 x5_2) true _ ?side1 ?side2 ?side3 ?side4 A40.out).mono ?_); (case side1 => exact cu1 (Kd.C_below HR444_0.out HB.out)); (case side2 => exact HC444_0.out); (case side3 => exact cu1 (Kd.C_below HR445_0.out HB.out)); (case side4 => exact HC445_0.out); rintro e w' ⟨rfl, ⟨nd, rfl⟩⟩; (try first | exact ⟨rfl, _, World.drewN_drewN _ _ _⟩ | exact ⟨rfl, _, Eq.trans (World.drewN_drewN _ _ _) (congrArg (World.drewN _) (Nat.add_assoc _ _ _))⟩)))
 repeat (go_quiet (first | (go_at_call 61; (with_reducible refine (sawmillref17_sameInts.calls k2 _ _ (rd_L1 l0_4 x5_2) _ _ (rd_L1 l1_4 x5_2) true _ ?side1 ?side2 ?side3 ?side4 A40.out).mono ?_); (case side1 => exact cu1 (Kd.C_below HR444_0.out HB.out)); (case side2 => exact HC444_0.out); (case side3 => exact cu1 (Kd.C_below HR445_0.out HB.out)); (case side4 => exact HC445_0.out); rintro e w' ⟨rfl, ⟨nd, rfl⟩⟩; (try first | exact ⟨rfl, _, World.drewN_drewN _ _ _⟩ | exact ⟨rfl, _, Eq.trans (World.drewN_drewN _ _ _) (congrArg (World.drewN _) (Nat.add_assoc _ _ _))⟩))); try go_wp2_with (first | (go_at_call 61; (with_reducible refine (sawmillref17_sameInts.calls k2 _ _ (rd_L1 l0_4 x5_2) _ _ (rd_L1 l1_4 x5_2) true _ ?side1 ?side2 ?side3 ?side4 A40.out).mono ?_); (case side1 => exact cu1 (Kd.C_below HR444_0.out HB.out)); (case side2 => exact HC444_0.out); (case side3 => exact cu1 (Kd.C_below HR445_0.out HB.out)); (case side4 => exact HC445_0.out); rintro e w' ⟨rfl, ⟨nd, rfl⟩⟩; (try first | exact ⟨rfl, _, World.drewN_drewN _ _ _⟩ | exact ⟨rfl, _, Eq.trans (World.drewN_drewN _ _ _) (congrArg (World.drewN _) (Nat.add_assoc _ _ _))⟩))))
 go_roundg k2
 case measure => have := HJ2.out; have := HK2.out; omega
 case rel => exact ⟨(wrap64 (x5_2 + 1)), rs1, H', ⟨by have := HJ2.out; have := HK2.out; omega⟩, ⟨bu BK439.out⟩, ⟨bu BK440.out⟩, ⟨bl⟩⟩
end Go.Proofs.YtoaicheopcojoaaDoor.P
