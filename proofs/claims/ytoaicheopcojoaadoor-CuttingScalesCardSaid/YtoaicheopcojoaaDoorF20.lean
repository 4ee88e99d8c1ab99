import Derived.Test.YtoaicheopcojoaaDoorSq
import Derived.Test.YtoaicheopcojoaaDoorF52
namespace Go.Proofs.YtoaicheopcojoaaDoor.P
open Go.RowKit Go.Proofs.YtoaicheopcojoaaDoorW.PrintWords Go.Proofs.YtoaicheopcojoaaDoorW.PrintLast Go.Proofs.YtoaicheopcojoaaDoorW.PrintMore
attribute [local go_sem] max2_int min2_int max_two min_two max_three min_three max_four min_four   -- for this text's walks alone
set_option linter.unusedVariables false
set_option linter.unusedSimpArgs false
/-! ### sawmillref17_Check: function 20 -/
mutual
def sawmillref17_Check.j0 : Nat → Bool → Int → Int → Int → List Int → List (List Int) → List Int → List Int → Option (Int)
  | 0, _, _, _, _, _, _, _, _ => none
  | k + 1, x34, x254000, x254001, x254002, x254003, x254004, x254005, x254006 => if x34 = true then (some 9) else (if (x254003.length : Int) > 32 then (some 4) else (sawmillref17_Check.l0 k 0 x254000 x254001 x254002 x254003 x254004 x254005 x254006))
def sawmillref17_Check.l0 : Nat → Int → Int → Int → Int → List Int → List (List Int) → List Int → List Int → Option (Int)
  | 0, _, _, _, _, _, _, _, _ => none
  | k + 1, x3, x254000, x254001, x254002, x254003, x254004, x254005, x254006 => if x3 < (x254003.length : Int) then (if 0 ≤ x3 then (if (rd x254003 x3) < 1 then (some 9) else (if (rd x254003 x3) > 2000 then (some 9) else (sawmillref17_Check.l0 k (wrap64 (x3 + 1)) x254000 x254001 x254002 x254003 x254004 x254005 x254006))) else (none)) else (if (x254004.length : Int) = (x254003.length : Int) then (if (x254005.length : Int) = x254000 then (sawmillref17_Check.j2 k ((x254006.length : Int) != x254000) x254000 x254001 x254002 x254003 x254004 x254005 x254006) else (sawmillref17_Check.j2 k true x254000 x254001 x254002 x254003 x254004 x254005 x254006)) else (sawmillref17_Check.j2 k true x254000 x254001 x254002 x254003 x254004 x254005 x254006))
def sawmillref17_Check.j2 : Nat → Bool → Int → Int → Int → List Int → List (List Int) → List Int → List Int → Option (Int)
  | 0, _, _, _, _, _, _, _, _ => none
  | k + 1, x82, x254000, x254001, x254002, x254003, x254004, x254005, x254006 => if x82 = true then (some 19) else (sawmillref17_Check.l1 k 0 x254000 x254001 x254002 x254003 x254004 x254005 x254006)
def sawmillref17_Check.l1 : Nat → Int → Int → Int → Int → List Int → List (List Int) → List Int → List Int → Option (Int)
  | 0, _, _, _, _, _, _, _, _ => none
  | k + 1, x4, x254000, x254001, x254002, x254003, x254004, x254005, x254006 => if x4 < (x254004.length : Int) then (if 0 ≤ x4 then (if x4 < (x254003.length : Int) then (if ((rd_L1 x254004 x4).length : Int) = (mx 0 (wrap64 ((wrap64 (x254000 - (rd x254003 x4))) + 1))) then (sawmillref17_Check.l1 k (wrap64 (x4 + 1)) x254000 x254001 x254002 x254003 x254004 x254005 x254006) else (some 19)) else (none)) else (none)) else ((sawmillref17_small.f k x254005).bind fun t258 => (if t258 = true then ((sawmillref17_small.f k x254006).bind fun t259 => (sawmillref17_Check.j4 k t259 x254000 x254001 x254002 x254003 x254004 x254005 x254006)) else (sawmillref17_Check.j4 k false x254000 x254001 x254002 x254003 x254004 x254005 x254006)))
def sawmillref17_Check.j4 : Nat → Bool → Int → Int → Int → List Int → List (List Int) → List Int → List Int → Option (Int)
  | 0, _, _, _, _, _, _, _, _ => none
  | k + 1, x5, x254000, x254001, x254002, x254003, x254004, x254005, x254006 => sawmillref17_Check.l2 k x5 0 x254000 x254001 x254002 x254003 x254004 x254005 x254006
def sawmillref17_Check.l2 : Nat → Bool → Int → Int → Int → Int → List Int → List (List Int) → List Int → List Int → Option (Int)
  | 0, _, _, _, _, _, _, _, _, _ => none
  | k + 1, x5, x6, x254000, x254001, x254002, x254003, x254004, x254005, x254006 => if x6 < (x254004.length : Int) then (if x5 = true then (if 0 ≤ x6 then ((sawmillref17_small.f k (rd_L1 x254004 x6)).bind fun t261 => (sawmillref17_Check.l2 k t261 (wrap64 (x6 + 1)) x254000 x254001 x254002 x254003 x254004 x254005 x254006)) else (none)) else (sawmillref17_Check.l2 k false (wrap64 (x6 + 1)) x254000 x254001 x254002 x254003 x254004 x254005 x254006)) else (if x5 = true then (some 0) else (some 9))
end
def sawmillref17_Check.f (k : Nat) (a0_0 : Int) (a0_1 : Int) (a0_2 : Int) (l0_3 : List Int) (l0_4 : List (List Int)) (l0_5 : List Int) (l0_6 : List Int) : Option (Int) := if a0_0 < 0 then (sawmillref17_Check.j0 k true a0_0 a0_1 a0_2 l0_3 l0_4 l0_5 l0_6) else (if a0_0 > 2000 then (sawmillref17_Check.j0 k true a0_0 a0_1 a0_2 l0_3 l0_4 l0_5 l0_6) else (if a0_1 < 0 then (sawmillref17_Check.j0 k true a0_0 a0_1 a0_2 l0_3 l0_4 l0_5 l0_6) else (if a0_1 > 20 then (sawmillref17_Check.j0 k true a0_0 a0_1 a0_2 l0_3 l0_4 l0_5 l0_6) else (if a0_2 < 1 then (sawmillref17_Check.j0 k true a0_0 a0_1 a0_2 l0_3 l0_4 l0_5 l0_6) else (sawmillref17_Check.j0 k (decide (a0_2 > 2000)) a0_0 a0_1 a0_2 l0_3 l0_4 l0_5 l0_6)))))
theorem sawmillref17_Check.mono_l : ∀ k, (∀ y0 y1 y2 y3 y4 y5 y6 y7, LeO (sawmillref17_Check.j0 k y0 y1 y2 y3 y4 y5 y6 y7) (sawmillref17_Check.j0 (k + 1) y0 y1 y2 y3 y4 y5 y6 y7)) ∧ (∀ y0 y1 y2 y3 y4 y5 y6 y7, LeO (sawmillref17_Check.l0 k y0 y1 y2 y3 y4 y5 y6 y7) (sawmillref17_Check.l0 (k + 1) y0 y1 y2 y3 y4 y5 y6 y7)) ∧ (∀ y0 y1 y2 y3 y4 y5 y6 y7, LeO (sawmillref17_Check.j2 k y0 y1 y2 y3 y4 y5 y6 y7) (sawmillref17_Check.j2 (k + 1) y0 y1 y2 y3 y4 y5 y6 y7)) ∧ (∀ y0 y1 y2 y3 y4 y5 y6 y7, LeO (sawmillref17_Check.l1 k y0 y1 y2 y3 y4 y5 y6 y7) (sawmillref17_Check.l1 (k + 1) y0 y1 y2 y3 y4 y5 y6 y7)) ∧ (∀ y0 y1 y2 y3 y4 y5 y6 y7, LeO (sawmillref17_Check.j4 k y0 y1 y2 y3 y4 y5 y6 y7) (sawmillref17_Check.j4 (k + 1) y0 y1 y2 y3 y4 y5 y6 y7)) ∧ (∀ y0 y1 y2 y3 y4 y5 y6 y7 y8, LeO (sawmillref17_Check.l2 k y0 y1 y2 y3 y4 y5 y6 y7 y8) (sawmillref17_Check.l2 (k + 1) y0 y1 y2 y3 y4 y5 y6 y7 y8))
  | 0 => ⟨fun _ _ _ _ _ _ _ _ r h => by simp [sawmillref17_Check.j0] at h, fun _ _ _ _ _ _ _ _ r h => by simp [sawmillref17_Check.l0] at h, fun _ _ _ _ _ _ _ _ r h => by simp [sawmillref17_Check.j2] at h, fun _ _ _ _ _ _ _ _ r h => by simp [sawmillref17_Check.l1] at h, fun _ _ _ _ _ _ _ _ r h => by simp [sawmillref17_Check.j4] at h, fun _ _ _ _ _ _ _ _ _ r h => by simp [sawmillref17_Check.l2] at h⟩
  | k + 1 => by
    obtain ⟨ih0, ih1, ih2, ih3, ih4, ih5⟩ := sawmillref17_Check.mono_l k
    refine ⟨?_, ?_, ?_, ?_, ?_, ?_⟩
    · intro y0 y1 y2 y3 y4 y5 y6 y7
      unfold sawmillref17_Check.j0
      repeat' first
      | (with_reducible exact ih0 _ _ _ _ _ _ _ _)
      | (with_reducible exact ih1 _ _ _ _ _ _ _ _)
      | (with_reducible exact ih2 _ _ _ _ _ _ _ _)
      | (with_reducible exact ih3 _ _ _ _ _ _ _ _)
      | (with_reducible exact ih4 _ _ _ _ _ _ _ _)
      | (with_reducible exact ih5 _ _ _ _ _ _ _ _ _)
      | (with_reducible exact sawmillref17_small.mono _ _)
      | (with_reducible exact LeO.refl _)
      | (with_reducible exact LeO.none _)
      | (with_reducible refine LeO.ite ?_ ?_)
      | (with_reducible refine LeO.bind ?_ (fun _ => ?_))
      | exact ih0 _ _ _ _ _ _ _ _
      | exact ih1 _ _ _ _ _ _ _ _
      | exact ih2 _ _ _ _ _ _ _ _
      | exact ih3 _ _ _ _ _ _ _ _
      | exact ih4 _ _ _ _ _ _ _ _
      | exact ih5 _ _ _ _ _ _ _ _ _
      | exact sawmillref17_small.mono _ _
      | exact LeO.none _
      | refine LeO.ite ?_ ?_
      | refine LeO.bind ?_ (fun _ => ?_)
    · intro y0 y1 y2 y3 y4 y5 y6 y7
      unfold sawmillref17_Check.l0
      repeat' first
      | (with_reducible exact ih0 _ _ _ _ _ _ _ _)
      | (with_reducible exact ih1 _ _ _ _ _ _ _ _)
      | (with_reducible exact ih2 _ _ _ _ _ _ _ _)
      | (with_reducible exact ih3 _ _ _ _ _ _ _ _)
      | (with_reducible exact ih4 _ _ _ _ _ _ _ _)
      | (with_reducible exact ih5 _ _ _ _ _ _ _ _ _)
      | (with_reducible exact sawmillref17_small.mono _ _)
      | (with_reducible exact LeO.refl _)
      | (with_reducible exact LeO.none _)
      | (with_reducible refine LeO.ite ?_ ?_)
      | (with_reducible refine LeO.bind ?_ (fun _ => ?_))
      | exact ih0 _ _ _ _ _ _ _ _
      | exact ih1 _ _ _ _ _ _ _ _
      | exact ih2 _ _ _ _ _ _ _ _
      | exact ih3 _ _ _ _ _ _ _ _
      | exact ih4 _ _ _ _ _ _ _ _
      | exact ih5 _ _ _ _ _ _ _ _ _
      | exact sawmillref17_small.mono _ _
      | exact LeO.none _
      | refine LeO.ite ?_ ?_
      | refine LeO.bind ?_ (fun _ => ?_)
    · intro y0 y1 y2 y3 y4 y5 y6 y7
      unfold sawmillref17_Check.j2
      repeat' first
      | (with_reducible exact ih0 _ _ _ _ _ _ _ _)
      | (with_reducible exact ih1 _ _ _ _ _ _ _ _)
      | (with_reducible exact ih2 _ _ _ _ _ _ _ _)
      | (with_reducible exact ih3 _ _ _ _ _ _ _ _)
      | (with_reducible exact ih4 _ _ _ _ _ _ _ _)
      | (with_reducible exact ih5 _ _ _ _ _ _ _ _ _)
      | (with_reducible exact sawmillref17_small.mono _ _)
      | (with_reducible exact LeO.refl _)
      | (with_reducible exact LeO.none _)
      | (with_reducible refine LeO.ite ?_ ?_)
      | (with_reducible refine LeO.bind ?_ (fun _ => ?_))
      | exact ih0 _ _ _ _ _ _ _ _
      | exact ih1 _ _ _ _ _ _ _ _
      | exact ih2 _ _ _ _ _ _ _ _
      | exact ih3 _ _ _ _ _ _ _ _
      | exact ih4 _ _ _ _ _ _ _ _
      | exact ih5 _ _ _ _ _ _ _ _ _
      | exact sawmillref17_small.mono _ _
      | exact LeO.none _
      | refine LeO.ite ?_ ?_
      | refine LeO.bind ?_ (fun _ => ?_)
    · intro y0 y1 y2 y3 y4 y5 y6 y7
      unfold sawmillref17_Check.l1
      repeat' first
      | (with_reducible exact ih0 _ _ _ _ _ _ _ _)
      | (with_reducible exact ih1 _ _ _ _ _ _ _ _)
      | (with_reducible exact ih2 _ _ _ _ _ _ _ _)
      | (with_reducible exact ih3 _ _ _ _ _ _ _ _)
      | (with_reducible exact ih4 _ _ _ _ _ _ _ _)
      | (with_reducible exact ih5 _ _ _ _ _ _ _ _ _)
      | (with_reducible exact sawmillref17_small.mono _ _)
      | (with_reducible exact LeO.refl _)
      | (with_reducible exact LeO.none _)
      | (with_reducible refine LeO.ite ?_ ?_)
      | (with_reducible refine LeO.bind ?_ (fun _ => ?_))
      | exact ih0 _ _ _ _ _ _ _ _
      | exact ih1 _ _ _ _ _ _ _ _
      | exact ih2 _ _ _ _ _ _ _ _
      | exact ih3 _ _ _ _ _ _ _ _
      | exact ih4 _ _ _ _ _ _ _ _
      | exact ih5 _ _ _ _ _ _ _ _ _
      | exact sawmillref17_small.mono _ _
      | exact LeO.none _
      | refine LeO.ite ?_ ?_
      | refine LeO.bind ?_ (fun _ => ?_)
    · intro y0 y1 y2 y3 y4 y5 y6 y7
      unfold sawmillref17_Check.j4
      repeat' first
      | (with_reducible exact ih0 _ _ _ _ _ _ _ _)
      | (with_reducible exact ih1 _ _ _ _ _ _ _ _)
      | (with_reducible exact ih2 _ _ _ _ _ _ _ _)
      | (with_reducible exact ih3 _ _ _ _ _ _ _ _)
      | (with_reducible exact ih4 _ _ _ _ _ _ _ _)
      | (with_reducible exact ih5 _ _ _ _ _ _ _ _ _)
      | (with_reducible exact sawmillref17_small.mono _ _)
      | (with_reducible exact LeO.refl _)
      | (with_reducible exact LeO.none _)
      | (with_reducible refine LeO.ite ?_ ?_)
      | (with_reducible refine LeO.bind ?_ (fun _ => ?_))
      | exact ih0 _ _ _ _ _ _ _ _
      | exact ih1 _ _ _ _ _ _ _ _
      | exact ih2 _ _ _ _ _ _ _ _
      | exact ih3 _ _ _ _ _ _ _ _
      | exact ih4 _ _ _ _ _ _ _ _
      | exact ih5 _ _ _ _ _ _ _ _ _
      | exact sawmillref17_small.mono _ _
      | exact LeO.none _
      | refine LeO.ite ?_ ?_
      | refine LeO.bind ?_ (fun _ => ?_)
    · intro y0 y1 y2 y3 y4 y5 y6 y7 y8
      unfold sawmillref17_Check.l2
      repeat' first
      | (with_reducible exact ih0 _ _ _ _ _ _ _ _)
      | (with_reducible exact ih1 _ _ _ _ _ _ _ _)
      | (with_reducible exact ih2 _ _ _ _ _ _ _ _)
      | (with_reducible exact ih3 _ _ _ _ _ _ _ _)
      | (with_reducible exact ih4 _ _ _ _ _ _ _ _)
      | (with_reducible exact ih5 _ _ _ _ _ _ _ _ _)
      | (with_reducible exact sawmillref17_small.mono _ _)
      | (with_reducible exact LeO.refl _)
      | (with_reducible exact LeO.none _)
      | (with_reducible refine LeO.ite ?_ ?_)
      | (with_reducible refine LeO.bind ?_ (fun _ => ?_))
      | exact ih0 _ _ _ _ _ _ _ _
      | exact ih1 _ _ _ _ _ _ _ _
      | exact ih2 _ _ _ _ _ _ _ _
      | exact ih3 _ _ _ _ _ _ _ _
      | exact ih4 _ _ _ _ _ _ _ _
      | exact ih5 _ _ _ _ _ _ _ _ _
      | exact sawmillref17_small.mono _ _
      | exact LeO.none _
      | refine LeO.ite ?_ ?_
      | refine LeO.bind ?_ (fun _ => ?_)
theorem sawmillref17_Check.mono : ∀ a0 a1 a2 a3 a4 a5 a6 k, LeO (sawmillref17_Check.f k a0 a1 a2 a3 a4 a5 a6) (sawmillref17_Check.f (k + 1) a0 a1 a2 a3 a4 a5 a6) := by
  intro a0 a1 a2 a3 a4 a5 a6 k
  obtain ⟨ih0, ih1, ih2, ih3, ih4, ih5⟩ := sawmillref17_Check.mono_l k
  unfold sawmillref17_Check.f
  repeat' first
      | (with_reducible exact ih0 _ _ _ _ _ _ _ _)
      | (with_reducible exact ih1 _ _ _ _ _ _ _ _)
      | (with_reducible exact ih2 _ _ _ _ _ _ _ _)
      | (with_reducible exact ih3 _ _ _ _ _ _ _ _)
      | (with_reducible exact ih4 _ _ _ _ _ _ _ _)
      | (with_reducible exact ih5 _ _ _ _ _ _ _ _ _)
      | (with_reducible exact sawmillref17_small.mono _ _)
      | (with_reducible exact LeO.refl _)
      | (with_reducible exact LeO.none _)
      | (with_reducible refine LeO.ite ?_ ?_)
      | (with_reducible refine LeO.bind ?_ (fun _ => ?_))
      | exact ih0 _ _ _ _ _ _ _ _
      | exact ih1 _ _ _ _ _ _ _ _
      | exact ih2 _ _ _ _ _ _ _ _
      | exact ih3 _ _ _ _ _ _ _ _
      | exact ih4 _ _ _ _ _ _ _ _
      | exact ih5 _ _ _ _ _ _ _ _ _
      | exact sawmillref17_small.mono _ _
      | exact LeO.none _
      | refine LeO.ite ?_ ?_
      | refine LeO.bind ?_ (fun _ => ?_)
theorem L20_0 {p_ : Prop} (k_ : p_ := by
  go_wp2
  repeat (go_quiet (fail); try go_wp2)
  go_meet
  case rel => exact ⟨_, (true), rs1, H', ⟨by first | omega | exact Nat.le_refl _⟩, ⟨bu BK253.out⟩, ⟨bl⟩⟩) : p_ := k_
theorem L20_1 {p_ : Prop} (k_ : p_ := by
  go_wp2
  repeat (go_quiet (fail); try go_wp2)
  go_meet
  case rel => exact ⟨_, (true), rs1, H', ⟨by have := HJ1.out; have := HK2.out; first | omega | exact Nat.le_refl _⟩, ⟨bu BK253.out⟩, ⟨bl⟩⟩) : p_ := k_
set_option maxHeartbeats 8000000 in
set_option maxRecDepth 100000 in
theorem sawmillref17_Check.calls (k : Nat) (a0_0 : Int) (a0_1 : Int) (a0_2 : Int) (A0_3 : Option Addr) (c0_3 : Nat) (l0_3 : List Int) (A0_4 : Option Addr) (c0_4 : Nat) (l0_4 : List (List Int)) (A0_5 : Option Addr) (c0_5 : Nat) (l0_5 : List Int) (A0_6 : Option Addr) (c0_6 : Nat) (l0_6 : List Int) (r : Int) (w : World) (hr0_3 : Kd.C (Kd.int .i64) w A0_3 l0_3.length l0_3) (hc0_3 : l0_3.length ≤ c0_3) (hr0_4 : Kd.C (Kd.slice 3 (Kd.int .i64)) w A0_4 l0_4.length l0_4) (hc0_4 : l0_4.length ≤ c0_4) (hr0_5 : Kd.C (Kd.int .i64) w A0_5 l0_5.length l0_5) (hc0_5 : l0_5.length ≤ c0_5) (hr0_6 : Kd.C (Kd.int .i64) w A0_6 l0_6.length l0_6) (hc0_6 : l0_6.length ≤ c0_6) (h : sawmillref17_Check.f k a0_0 a0_1 a0_2 l0_3 l0_4 l0_5 l0_6 = some r) :
    Calls Tryd.prog 20 #[.agg #[.int .i64 a0_0, .int .i64 a0_1, .int .i64 a0_2, .slice A0_3 l0_3.length c0_3, .slice A0_4 l0_4.length c0_4, .slice A0_5 l0_5.length c0_5, .slice A0_6 l0_6.length c0_6]] w fun e w' => e = .returned (.int .i64 r) ∧ Below w.heap.size w w' := by
 have hu25 := Tryd.underlying25
 have HR0_3 := Aside0.mk hr0_3
 have HC0_3 := Aside0.mk hc0_3
 clear hr0_3 hc0_3
 have HR0_4 := Aside0.mk hr0_4
 have HC0_4 := Aside0.mk hc0_4
 clear hr0_4 hc0_4
 have HR0_5 := Aside0.mk hr0_5
 have HC0_5 := Aside0.mk hc0_5
 clear hr0_5 hc0_5
 have HR0_6 := Aside0.mk hr0_6
 have HC0_6 := Aside0.mk hc0_6
 clear hr0_6 hc0_6
 have HB := Aside0.mk (Below.refl w.heap.size w)
 have H : (if a0_0 < 0 then (sawmillref17_Check.j0 k true a0_0 a0_1 a0_2 l0_3 l0_4 l0_5 l0_6) else (if a0_0 > 2000 then (sawmillref17_Check.j0 k true a0_0 a0_1 a0_2 l0_3 l0_4 l0_5 l0_6) else (if a0_1 < 0 then (sawmillref17_Check.j0 k true a0_0 a0_1 a0_2 l0_3 l0_4 l0_5 l0_6) else (if a0_1 > 20 then (sawmillref17_Check.j0 k true a0_0 a0_1 a0_2 l0_3 l0_4 l0_5 l0_6) else (if a0_2 < 1 then (sawmillref17_Check.j0 k true a0_0 a0_1 a0_2 l0_3 l0_4 l0_5 l0_6) else (sawmillref17_Check.j0 k (decide (a0_2 > 2000)) a0_0 a0_1 a0_2 l0_3 l0_4 l0_5 l0_6)))))) = some r := h
 clear h
 have HC2 := Aside0.mk H
 clear H
 go_enter Tryd.func20, Tryd.ntmps20
 go_upto_region 1 with (first | ((with_reducible refine gate_dst (N := 1) rfl ?_); (try (refine gate_guard (by rfl) ?_; dsimp only)); refine bx1 (N := 1) #[.int .i64 a0_0, .int .i64 a0_1, .int .i64 a0_2, .slice A0_3 l0_3.length c0_3, .slice A0_4 l0_4.length c0_4, .slice A0_5 l0_5.length c0_5, .slice A0_6 l0_6.length c0_6] 25 ?_; intro gb253 hg w3 hbox hb; have n0_ := Aside0.mk (below_step bl hb); have n1_ := Aside0.mk (hbox); have n2_ := Aside0.mk ((gs1 : w.heap.size ≤ gb253)); have n3_ := Aside0.mk ((gs1 : w.heap.size ≤ gb253)); clear HB; have HB := n0_; have BK253 := n1_; have GW253 := n2_; have GE253 := n3_; clear n0_ n1_ n2_ n3_; clear hb hbox hg))
 repeat (go_quiet (first | ((with_reducible refine gate_dst (N := 1) rfl ?_); (try (refine gate_guard (by rfl) ?_; dsimp only)); refine bx1 (N := 1) #[.int .i64 a0_0, .int .i64 a0_1, .int .i64 a0_2, .slice A0_3 l0_3.length c0_3, .slice A0_4 l0_4.length c0_4, .slice A0_5 l0_5.length c0_5, .slice A0_6 l0_6.length c0_6] 25 ?_; intro gb253 hg w3 hbox hb; have n0_ := Aside0.mk (below_step bl hb); have n1_ := Aside0.mk (hbox); have n2_ := Aside0.mk ((gs1 : w.heap.size ≤ gb253)); have n3_ := Aside0.mk ((gs1 : w.heap.size ≤ gb253)); clear HB; have HB := n0_; have BK253 := n1_; have GW253 := n2_; have GE253 := n3_; clear n0_ n1_ n2_ n3_; clear hb hbox hg)); go_upto_region 1 with (first | ((with_reducible refine gate_dst (N := 1) rfl ?_); (try (refine gate_guard (by rfl) ?_; dsimp only)); refine bx1 (N := 1) #[.int .i64 a0_0, .int .i64 a0_1, .int .i64 a0_2, .slice A0_3 l0_3.length c0_3, .slice A0_4 l0_4.length c0_4, .slice A0_5 l0_5.length c0_5, .slice A0_6 l0_6.length c0_6] 25 ?_; intro gb253 hg w3 hbox hb; have n0_ := Aside0.mk (below_step bl hb); have n1_ := Aside0.mk (hbox); have n2_ := Aside0.mk ((gs1 : w.heap.size ≤ gb253)); have n3_ := Aside0.mk ((gs1 : w.heap.size ≤ gb253)); clear HB; have HB := n0_; have BK253 := n1_; have GW253 := n2_; have GE253 := n3_; clear n0_ n1_ n2_ n3_; clear hb hbox hg)))
 (try simp only [Act.put, List.setIfInBounds_toArray, List.set_cons_zero, List.set_cons_succ])
 go_cut [34] (fun v34 wc => ∃ (kq : Nat) (x34_1 : Bool), v34 = .bool x34_1 ∧ Aside0 (sawmillref17_Check.j0 kq x34_1 a0_0 a0_1 a0_2 l0_3 l0_4 l0_5 l0_6 = some r) ∧ Aside0 (kq ≤ k) ∧ Aside0 (wc.heap[gb253]? = some (.cells #[.int .i64 a0_0, .int .i64 a0_1, .int .i64 a0_2, (.slice A0_3 l0_3.length c0_3), (.slice A0_4 l0_4.length c0_4), (.slice A0_5 l0_5.length c0_5), (.slice A0_6 l0_6.length c0_6)] 25 (0, 0))) ∧ Aside0 (Below w.heap.size w wc))
 case first =>
  have H := HC2.out
  clear HC2
  by_cases c4 : a0_0 < 0
  · rw [if_pos c4] at H
    have c4b0 : decide (a0_0 < 0) = true := decide_eq_true c4
    clear c4
    (first | rw [c4b0] | (simp only [i64_w, i32_w]; rw [c4b0]) | skip)
    have H' := Aside0.mk H
    clear H
    have hcz5 := blk_cells BK253.out
    have hfz5 := blk_frozens BK253.out
    exact L20_0
  rw [if_neg c4] at H
  have c4b0 : decide (a0_0 < 0) = false := decide_eq_false c4
  clear c4
  (first | rw [c4b0] | (simp only [i64_w, i32_w]; rw [c4b0]) | skip)
  by_cases c6 : a0_0 > 2000
  · rw [if_pos c6] at H
    have c6b0 : decide (2000 < a0_0) = true := decide_eq_true c6
    clear c6
    have H' := Aside0.mk H
    clear H
    have hcz7 := blk_cells BK253.out
    have hfz7 := blk_frozens BK253.out
    exact L20_0
  rw [if_neg c6] at H
  have c6b0 : decide (2000 < a0_0) = false := decide_eq_false c6
  clear c6
  by_cases c8 : a0_1 < 0
  · rw [if_pos c8] at H
    have c8b0 : decide (a0_1 < 0) = true := decide_eq_true c8
    clear c8
    have H' := Aside0.mk H
    clear H
    have hcz9 := blk_cells BK253.out
    have hfz9 := blk_frozens BK253.out
    exact L20_0
  rw [if_neg c8] at H
  have c8b0 : decide (a0_1 < 0) = false := decide_eq_false c8
  clear c8
  by_cases c10 : a0_1 > 20
  · rw [if_pos c10] at H
    have c10b0 : decide (20 < a0_1) = true := decide_eq_true c10
    clear c10
    have H' := Aside0.mk H
    clear H
    have hcz11 := blk_cells BK253.out
    have hfz11 := blk_frozens BK253.out
    exact L20_0
  rw [if_neg c10] at H
  have c10b0 : decide (20 < a0_1) = false := decide_eq_false c10
  clear c10
  by_cases c12 : a0_2 < 1
  · rw [if_pos c12] at H
    have c12b0 : decide (a0_2 < 1) = true := decide_eq_true c12
    clear c12
    have H' := Aside0.mk H
    clear H
    have hcz13 := blk_cells BK253.out
    have hfz13 := blk_frozens BK253.out
    exact L20_0
  rw [if_neg c12] at H
  have c12b0 : decide (a0_2 < 1) = false := decide_eq_false c12
  clear c12
  have H' := Aside0.mk H
  clear H
  have hcz14 := blk_cells BK253.out
  have hfz14 := blk_frozens BK253.out
  go_wp2
  repeat (go_quiet (fail); try go_wp2)
  go_meet
  case rel => exact ⟨_, (decide (a0_2 > 2000)), rs1, H', ⟨by first | omega | exact Nat.le_refl _⟩, ⟨bu BK253.out⟩, ⟨bl⟩⟩
 clear HC2; (try clear c1); (try clear c2); (try clear p2); (try clear c4); (try clear c4b0); (try clear c6); (try clear c6b0); (try clear c8); (try clear c8b0); (try clear c10); (try clear c10b0); (try clear c12); (try clear c12b0); (try clear hcz11); (try clear hcz13); (try clear hcz14); (try clear hcz5); (try clear hcz7); (try clear hcz9); (try clear hfz11); (try clear hfz13); (try clear hfz14); (try clear hfz5); (try clear hfz7); (try clear hfz9)
 obtain ⟨kq, x34_1, rfl, HA, HJ1, BK253, HB⟩ := hcut
 rcases kq with _ | kj1
 · exact absurd HA.out (by simp [sawmillref17_Check.j0])
 have H := HA.out
 clear HA
 simp only [sawmillref17_Check.j0] at H
 by_cases c15 : x34_1 = true
 · subst c15
   have H1 : (some 9) = some r := by rw [if_pos rfl] at H; exact H
   clear H
   have H := H1
   clear H1
   obtain rfl := Option.some.inj H
   go_wp2
   repeat (go_quiet (fail); try go_wp2)
   go_ret
   exact ⟨fe1, bl⟩
 replace c15 := Bool.eq_false_iff.mpr c15
 subst c15
 have H1 : (if (l0_3.length : Int) > 32 then (some 4) else (sawmillref17_Check.l0 kj1 0 a0_0 a0_1 a0_2 l0_3 l0_4 l0_5 l0_6)) = some r := by rw [if_neg (show ¬ (false = true) by decide)] at H; exact H
 clear H
 have H := H1
 clear H1
 by_cases c16 : (l0_3.length : Int) > 32
 · rw [if_pos c16] at H
   have c16b0 : decide (32 < (l0_3.length : Int)) = true := decide_eq_true c16
   have c16b1 : decide (32 < l0_3.length) = true := decide_eq_true (by omega)
   clear c16
   obtain rfl := Option.some.inj H
   have hcz17 := blk_cells BK253.out
   have hfz17 := blk_frozens BK253.out
   go_wp2
   repeat (go_quiet (fail); try go_wp2)
   go_ret
   exact ⟨fe1, bl⟩
 rw [if_neg c16] at H
 have c16b0 : decide (32 < (l0_3.length : Int)) = false := decide_eq_false c16
 have c16b1 : decide (32 < l0_3.length) = false := decide_eq_false (by omega)
 clear c16
 have H' := Aside0.mk H
 clear H
 have hcz18 := blk_cells BK253.out
 have hfz18 := blk_frozens BK253.out
 go_wp2
 repeat (go_quiet (fail); try go_wp2)
 go_loopg [3] kj1 (fun kq v3 w' => ∃ (x3_2 : Int), v3 = .int .i64 x3_2 ∧ Aside0 (sawmillref17_Check.l0 kq x3_2 a0_0 a0_1 a0_2 l0_3 l0_4 l0_5 l0_6 = some r) ∧ Aside0 (kq ≤ kj1) ∧ Aside0 (w'.heap[gb253]? = some (.cells #[.int .i64 a0_0, .int .i64 a0_1, .int .i64 a0_2, (.slice A0_3 l0_3.length c0_3), (.slice A0_4 l0_4.length c0_4), (.slice A0_5 l0_5.length c0_5), (.slice A0_6 l0_6.length c0_6)] 25 (0, 0))) ∧ Aside0 (Below w.heap.size w w'))
 case atStart => exact ⟨(0), rs1, H', ⟨Nat.le_refl _⟩, ⟨bu BK253.out⟩, ⟨bl⟩⟩
 clear H'; (try clear c1); (try clear c2); (try clear p2); (try clear c4); (try clear c4b0); (try clear c6); (try clear c6b0); (try clear c8); (try clear c8b0); (try clear c10); (try clear c10b0); (try clear c12); (try clear c12b0); (try clear c15); (try clear c16); (try clear c16b0); (try clear c16b1); (try clear hcz11); (try clear hcz13); (try clear hcz14); (try clear hcz17); (try clear hcz18); (try clear hcz5); (try clear hcz7); (try clear hcz9); (try clear hfz11); (try clear hfz13); (try clear hfz14); (try clear hfz17); (try clear hfz18); (try clear hfz5); (try clear hfz7); (try clear hfz9); (try clear p2)
 obtain ⟨x3_2, rfl, HA, HK2, BK253, HB⟩ := hrel
 rcases gk with _ | k2
 · exact absurd HA.out (by simp [sawmillref17_Check.l0])
 have H := HA.out
 clear HA
 simp only [sawmillref17_Check.l0] at H
 by_cases c19 : x3_2 < (l0_3.length : Int)
 · rw [if_pos c19] at H
   have c19b0 : decide (x3_2 < (l0_3.length : Int)) = true := decide_eq_true c19
   clear c19
   obtain ⟨c20, H⟩ := gd1 H
   have c20b0 : decide (0 ≤ x3_2) = true := decide_eq_true c20
   clear c20
   by_cases c21 : (rd l0_3 x3_2) < 1
   · rw [if_pos c21] at H
     have c21b0 : decide ((rd l0_3 x3_2) < 1) = true := decide_eq_true c21
     clear c21
     obtain rfl := Option.some.inj H
     have hcz22 := blk_cells BK253.out
     have hfz22 := blk_frozens BK253.out
     have p254 : 0 ≤ (x3_2 : Int) := da1
     have q254 : x3_2 < (l0_3.length : Int) := da1
     obtain ⟨ad254, e254, hx254_0⟩ := Kd.at_int HR0_3.out x3_2 p254 q254
     cases e254
     (try replace hx254_0 := (HB.out.cell (World.block_lt_of_cell? w _ hx254_0)).trans hx254_0)
     replace p254 := eq_true p254
     replace q254 := eq_true q254
     go_wp2
     repeat (go_quiet (fail); try go_wp2)
     go_ret
     exact ⟨fe1, bl⟩
   rw [if_neg c21] at H
   have c21b0 : decide ((rd l0_3 x3_2) < 1) = false := decide_eq_false c21
   clear c21
   by_cases c23 : (rd l0_3 x3_2) > 2000
   · rw [if_pos c23] at H
     have c23b0 : decide (2000 < (rd l0_3 x3_2)) = true := decide_eq_true c23
     clear c23
     obtain rfl := Option.some.inj H
     have hcz24 := blk_cells BK253.out
     have hfz24 := blk_frozens BK253.out
     have p254 : 0 ≤ (x3_2 : Int) := da1
     have q254 : x3_2 < (l0_3.length : Int) := da1
     obtain ⟨ad254, e254, hx254_0⟩ := Kd.at_int HR0_3.out x3_2 p254 q254
     cases e254
     (try replace hx254_0 := (HB.out.cell (World.block_lt_of_cell? w _ hx254_0)).trans hx254_0)
     replace p254 := eq_true p254
     replace q254 := eq_true q254
     have p255 : 0 ≤ (x3_2 : Int) := da1
     have q255 : x3_2 < (l0_3.length : Int) := da1
     obtain ⟨ad255, e255, hx255_0⟩ := Kd.at_int HR0_3.out x3_2 p255 q255
     obtain rfl : ad254 = ad255 := (by injection e255)
     (try replace hx255_0 := (HB.out.cell (World.block_lt_of_cell? w _ hx255_0)).trans hx255_0)
     replace p255 := eq_true p255
     replace q255 := eq_true q255
     go_wp2
     repeat (go_quiet (fail); try go_wp2)
     go_ret
     exact ⟨fe1, bl⟩
   rw [if_neg c23] at H
   have c23b0 : decide (2000 < (rd l0_3 x3_2)) = false := decide_eq_false c23
   clear c23
   have H' := Aside0.mk H
   clear H
   have hcz25 := blk_cells BK253.out
   have hfz25 := blk_frozens BK253.out
   have p254 : 0 ≤ (x3_2 : Int) := da1
   have q254 : x3_2 < (l0_3.length : Int) := da1
   obtain ⟨ad254, e254, hx254_0⟩ := Kd.at_int HR0_3.out x3_2 p254 q254
   cases e254
   (try replace hx254_0 := (HB.out.cell (World.block_lt_of_cell? w _ hx254_0)).trans hx254_0)
   replace p254 := eq_true p254
   replace q254 := eq_true q254
   have p255 : 0 ≤ (x3_2 : Int) := da1
   have q255 : x3_2 < (l0_3.length : Int) := da1
   obtain ⟨ad255, e255, hx255_0⟩ := Kd.at_int HR0_3.out x3_2 p255 q255
   obtain rfl : ad254 = ad255 := (by injection e255)
   (try replace hx255_0 := (HB.out.cell (World.block_lt_of_cell? w _ hx255_0)).trans hx255_0)
   replace p255 := eq_true p255
   replace q255 := eq_true q255
   go_wp2
   repeat (go_quiet (fail); try go_wp2)
   go_roundg k2
   case measure => have := HJ1.out; have := HK2.out; omega
   case rel => exact ⟨(wrap64 (x3_2 + 1)), rs1, H', ⟨by have := HJ1.out; have := HK2.out; omega⟩, ⟨bu BK253.out⟩, ⟨bl⟩⟩
 rw [if_neg c19] at H
 have c19b0 : decide (x3_2 < (l0_3.length : Int)) = false := decide_eq_false c19
 clear c19
 have HC26 := Aside0.mk H
 clear H
 have hcz27 := blk_cells BK253.out
 have hfz27 := blk_frozens BK253.out
 go_upto_region 10 with (fail)
 repeat (go_quiet (fail); go_upto_region 10 with (fail))
 go_cut [82] (fun v82 wc => ∃ (kq : Nat) (x82_25 : Bool), v82 = .bool x82_25 ∧ Aside0 (sawmillref17_Check.j2 kq x82_25 a0_0 a0_1 a0_2 l0_3 l0_4 l0_5 l0_6 = some r) ∧ Aside0 (kq ≤ k2) ∧ Aside0 (wc.heap[gb253]? = some (.cells #[.int .i64 a0_0, .int .i64 a0_1, .int .i64 a0_2, (.slice A0_3 l0_3.length c0_3), (.slice A0_4 l0_4.length c0_4), (.slice A0_5 l0_5.length c0_5), (.slice A0_6 l0_6.length c0_6)] 25 (0, 0))) ∧ Aside0 (Below w.heap.size w wc))
 case first =>
  have H := HC26.out
  clear HC26
  by_cases c28 : (l0_4.length : Int) = (l0_3.length : Int)
  rotate_left
  · rw [if_neg c28] at H
    have c28b0 : ((l0_4.length : Int) == (l0_3.length : Int)) = false := beq_eq_false_iff_ne.mpr c28
    have c28b1 : ((l0_4.length : Int) != (l0_3.length : Int)) = true := bne_iff_ne.mpr c28
    have c28b2 : (l0_4.length == l0_3.length) = false := by first | simpa using c28 | (simp at c28 ⊢; omega)
    (first | rw [c28b0] | (simp only [i64_w, i32_w]; rw [c28b0]) | skip)
    have H' := Aside0.mk H
    clear H
    have hcz32 := blk_cells BK253.out
    have hfz32 := blk_frozens BK253.out
    exact L20_1
  rw [if_pos c28] at H
  have c28b0 : ((l0_4.length : Int) == (l0_3.length : Int)) = true := beq_iff_eq.mpr c28
  have c28b1 : ((l0_4.length : Int) != (l0_3.length : Int)) = false := bne_eq_false_iff_eq.mpr c28
  have c28b2 : (l0_4.length == l0_3.length) = true := by first | simpa using c28 | (simp at c28 ⊢; omega)
  clear c28
  (first | rw [c28b0] | (simp only [i64_w, i32_w]; rw [c28b0]) | skip)
  by_cases c29 : (l0_5.length : Int) = a0_0
  rotate_left
  · rw [if_neg c29] at H
    have c29b0 : ((l0_5.length : Int) == a0_0) = false := beq_eq_false_iff_ne.mpr c29
    have c29b1 : ((l0_5.length : Int) != a0_0) = true := bne_iff_ne.mpr c29
    have H' := Aside0.mk H
    clear H
    have hcz31 := blk_cells BK253.out
    have hfz31 := blk_frozens BK253.out
    exact L20_1
  rw [if_pos c29] at H
  have c29b0 : ((l0_5.length : Int) == a0_0) = true := beq_iff_eq.mpr c29
  have c29b1 : ((l0_5.length : Int) != a0_0) = false := bne_eq_false_iff_eq.mpr c29
  clear c29
  have H' := Aside0.mk H
  clear H
  have hcz30 := blk_cells BK253.out
  have hfz30 := blk_frozens BK253.out
  go_wp2
  repeat (go_quiet (fail); try go_wp2)
  go_meet
  case rel => exact ⟨_, (((l0_6.length : Int) != a0_0)), rs1, H', ⟨by have := HJ1.out; have := HK2.out; first | omega | exact Nat.le_refl _⟩, ⟨bu BK253.out⟩, ⟨bl⟩⟩
 clear HC26; (try clear c1); (try clear c2); (try clear p2); (try clear q2); (try clear hx2); (try clear c4); (try clear c4b0); (try clear c6); (try clear c6b0); (try clear p6); (try clear c8); (try clear c8b0); (try clear c10); (try clear c10b0); (try clear c12); (try clear c12b0); (try clear c15); (try clear c16); (try clear c16b0); (try clear c16b1); (try clear c19); (try clear c19b0); (try clear c20); (try clear c20b0); (try clear c21); (try clear c21b0); (try clear c23); (try clear c23b0); (try clear p25); (try clear q25); (try clear hx25); (try clear c28); (try clear c28b0); (try clear c28b1); (try clear c28b2); (try clear c29); (try clear c29b0); (try clear c29b1); (try clear hcz11); (try clear hcz13); (try clear hcz14); (try clear hcz17); (try clear hcz18); (try clear hcz22); (try clear hcz24); (try clear hcz25); (try clear hcz27); (try clear hcz30); (try clear hcz31); (try clear hcz32); (try clear hcz5); (try clear hcz7); (try clear hcz9); (try clear hfz11); (try clear hfz13); (try clear hfz14); (try clear hfz17); (try clear hfz18); (try clear hfz22); (try clear hfz24); (try clear hfz25); (try clear hfz27); (try clear hfz30); (try clear hfz31); (try clear hfz32); (try clear hfz5); (try clear hfz7); (try clear hfz9); (try clear hx254_0); (try clear hx255_0); (try clear p2); (try clear p254); (try clear p255); (try clear q254); (try clear q255)
 obtain ⟨kq, x82_25, rfl, HA, HJ25, BK253, HB⟩ := hcut
 rcases kq with _ | kj25
 · exact absurd HA.out (by simp [sawmillref17_Check.j2])
 have H := HA.out
 clear HA
 simp only [sawmillref17_Check.j2] at H
 by_cases c33 : x82_25 = true
 · subst c33
   have H1 : (some 19) = some r := by rw [if_pos rfl] at H; exact H
   clear H
   have H := H1
   clear H1
   obtain rfl := Option.some.inj H
   go_wp2
   repeat (go_quiet (fail); try go_wp2)
   go_ret
   exact ⟨fe1, bl⟩
 replace c33 := Bool.eq_false_iff.mpr c33
 subst c33
 have H1 : (sawmillref17_Check.l1 kj25 0 a0_0 a0_1 a0_2 l0_3 l0_4 l0_5 l0_6) = some r := by rw [if_neg (show ¬ (false = true) by decide)] at H; exact H
 clear H
 have H := H1
 clear H1
 have H' := Aside0.mk H
 clear H
 go_wp2
 repeat (go_quiet (fail); try go_wp2)
 go_loopg [4] kj25 (fun kq v4 w' => ∃ (x4_4 : Int), v4 = .int .i64 x4_4 ∧ Aside0 (sawmillref17_Check.l1 kq x4_4 a0_0 a0_1 a0_2 l0_3 l0_4 l0_5 l0_6 = some r) ∧ Aside0 (kq ≤ kj25) ∧ Aside0 (w'.heap[gb253]? = some (.cells #[.int .i64 a0_0, .int .i64 a0_1, .int .i64 a0_2, (.slice A0_3 l0_3.length c0_3), (.slice A0_4 l0_4.length c0_4), (.slice A0_5 l0_5.length c0_5), (.slice A0_6 l0_6.length c0_6)] 25 (0, 0))) ∧ Aside0 (Below w.heap.size w w'))
 case atStart => exact ⟨(0), rs1, H', ⟨Nat.le_refl _⟩, ⟨bu BK253.out⟩, ⟨bl⟩⟩
 clear H'; (try clear c1); (try clear c2); (try clear p2); (try clear q2); (try clear hx2); (try clear c3); (try clear c4); (try clear c4b0); (try clear c6); (try clear c6b0); (try clear p6); (try clear c8); (try clear c8b0); (try clear c10); (try clear c10b0); (try clear c12); (try clear c12b0); (try clear c15); (try clear c16); (try clear c16b0); (try clear c16b1); (try clear c19); (try clear c19b0); (try clear c20); (try clear c20b0); (try clear c21); (try clear c21b0); (try clear c23); (try clear c23b0); (try clear p25); (try clear q25); (try clear hx25); (try clear c28); (try clear c28b0); (try clear c28b1); (try clear c28b2); (try clear c29); (try clear c29b0); (try clear c29b1); (try clear c33); (try clear hcz11); (try clear hcz13); (try clear hcz14); (try clear hcz17); (try clear hcz18); (try clear hcz22); (try clear hcz24); (try clear hcz25); (try clear hcz27); (try clear hcz30); (try clear hcz31); (try clear hcz32); (try clear hcz5); (try clear hcz7); (try clear hcz9); (try clear hfz11); (try clear hfz13); (try clear hfz14); (try clear hfz17); (try clear hfz18); (try clear hfz22); (try clear hfz24); (try clear hfz25); (try clear hfz27); (try clear hfz30); (try clear hfz31); (try clear hfz32); (try clear hfz5); (try clear hfz7); (try clear hfz9); (try clear hx254_0); (try clear hx255_0); (try clear p2); (try clear p25); (try clear p254); (try clear p255); (try clear p6); (try clear q2); (try clear q25); (try clear q254); (try clear q255)
 obtain ⟨x4_4, rfl, HA, HK4, BK253, HB⟩ := hrel
 rcases gk with _ | k4
 · exact absurd HA.out (by simp [sawmillref17_Check.l1])
 have H := HA.out
 clear HA
 simp only [sawmillref17_Check.l1] at H
 by_cases c34 : x4_4 < (l0_4.length : Int)
 · rw [if_pos c34] at H
   have c34b0 : decide (x4_4 < (l0_4.length : Int)) = true := decide_eq_true c34
   clear c34
   obtain ⟨c35, H⟩ := gd1 H
   have c35b0 : decide (0 ≤ x4_4) = true := decide_eq_true c35
   clear c35
   obtain ⟨c36, H⟩ := gd1 H
   have c36b0 : decide (x4_4 < (l0_3.length : Int)) = true := decide_eq_true c36
   clear c36
   obtain ⟨ji37, hji37⟩ : ∃ j_ : Int, (mx 0 (wrap64 ((wrap64 (a0_0 - (rd l0_3 x4_4))) + 1))) = j_ := ⟨_, rfl⟩
   replace H : (if ((rd_L1 l0_4 x4_4).length : Int) = (ji37) then (sawmillref17_Check.l1 k4 (wrap64 (x4_4 + 1)) a0_0 a0_1 a0_2 l0_3 l0_4 l0_5 l0_6) else (some 19)) = some r := by first | (rw [hji37] at H; exact H) | (simp only [hji37] at H ⊢; exact H)
   have hji37_ : (if 0 < (wrap64 ((wrap64 (a0_0 - (rd l0_3 x4_4))) + 1)) then (wrap64 ((wrap64 (a0_0 - (rd l0_3 x4_4))) + 1)) else 0) = ji37 := hji37
   by_cases c38 : ((rd_L1 l0_4 x4_4).length : Int) = (ji37)
   rotate_left
   · rw [if_neg c38] at H
     have c38b0 : (((rd_L1 l0_4 x4_4).length : Int) == (ji37)) = false := beq_eq_false_iff_ne.mpr c38
     have c38b1 : (((rd_L1 l0_4 x4_4).length : Int) != (ji37)) = true := bne_iff_ne.mpr c38
     obtain rfl := Option.some.inj H
     have hcz40 := blk_cells BK253.out
     have hfz40 := blk_frozens BK253.out
     have p256 : 0 ≤ (x4_4 : Int) := da1
     have q256 : x4_4 < (l0_4.length : Int) := da1
     obtain ⟨ad256, A256_0, c256_0, e256, hx256_0, hl256_0, hi256_0⟩ := at_L1 HR0_4.out x4_4 p256 q256
     cases e256
     (try replace hx256_0 := (HB.out.cell (World.block_lt_of_cell? w _ hx256_0)).trans hx256_0)
     have HR256_0 := Aside0.mk hi256_0
     have HC256_0 := Aside0.mk hl256_0
     clear hi256_0 hl256_0
     replace p256 := eq_true p256
     replace q256 := eq_true q256
     have p257 : 0 ≤ (x4_4 : Int) := da1
     have q257 : x4_4 < (l0_3.length : Int) := da1
     obtain ⟨ad257, e257, hx257_0⟩ := Kd.at_int HR0_3.out x4_4 p257 q257
     cases e257
     (try replace hx257_0 := (HB.out.cell (World.block_lt_of_cell? w _ hx257_0)).trans hx257_0)
     replace p257 := eq_true p257
     replace q257 := eq_true q257
     go_wp2
     repeat (go_quiet (fail); try go_wp2)
     go_ret
     exact ⟨by first | rfl | (simp [errW_none, errW_some] <;> rfl) | (simp only [← hji37]; first | rfl | (simp [errW_none, errW_some] <;> rfl)) | (simp [*, errW_none, errW_some] <;> rfl), bl⟩
   rw [if_pos c38] at H
   have c38b0 : (((rd_L1 l0_4 x4_4).length : Int) == (ji37)) = true := beq_iff_eq.mpr c38
   have c38b1 : (((rd_L1 l0_4 x4_4).length : Int) != (ji37)) = false := bne_eq_false_iff_eq.mpr c38
   clear c38
   have H' := Aside0.mk H
   clear H
   have hcz39 := blk_cells BK253.out
   have hfz39 := blk_frozens BK253.out
   have p256 : 0 ≤ (x4_4 : Int) := da1
   have q256 : x4_4 < (l0_4.length : Int) := da1
   obtain ⟨ad256, A256_0, c256_0, e256, hx256_0, hl256_0, hi256_0⟩ := at_L1 HR0_4.out x4_4 p256 q256
   cases e256
   (try replace hx256_0 := (HB.out.cell (World.block_lt_of_cell? w _ hx256_0)).trans hx256_0)
   have HR256_0 := Aside0.mk hi256_0
   have HC256_0 := Aside0.mk hl256_0
   clear hi256_0 hl256_0
   replace p256 := eq_true p256
   replace q256 := eq_true q256
   have p257 : 0 ≤ (x4_4 : Int) := da1
   have q257 : x4_4 < (l0_3.length : Int) := da1
   obtain ⟨ad257, e257, hx257_0⟩ := Kd.at_int HR0_3.out x4_4 p257 q257
   cases e257
   (try replace hx257_0 := (HB.out.cell (World.block_lt_of_cell? w _ hx257_0)).trans hx257_0)
   replace p257 := eq_true p257
   replace q257 := eq_true q257
   go_wp2
   repeat (go_quiet (fail); try go_wp2)
   go_roundg k4
   case measure => have := HJ1.out; have := HK2.out; have := HJ25.out; have := HK4.out; omega
   case rel => exact ⟨(wrap64 (x4_4 + 1)), rs1, H', ⟨by have := HJ1.out; have := HK2.out; have := HJ25.out; have := HK4.out; omega⟩, ⟨bu BK253.out⟩, ⟨bl⟩⟩
 rw [if_neg c34] at H
 have c34b0 : decide (x4_4 < (l0_4.length : Int)) = false := decide_eq_false c34
 clear c34
 have HC41 := Aside0.mk H
 clear H
 have hcz42 := blk_cells BK253.out
 have hfz42 := blk_frozens BK253.out
 go_upto_region 17 with (fail)
 repeat (go_quiet (fail); go_upto_region 17 with (fail))
 go_cut [5] (fun v5 wc => ∃ (kq : Nat) (x5_40 : Bool), v5 = .bool x5_40 ∧ Aside0 (sawmillref17_Check.j4 kq x5_40 a0_0 a0_1 a0_2 l0_3 l0_4 l0_5 l0_6 = some r) ∧ Aside0 (kq ≤ k4) ∧ Aside0 (wc.heap[gb253]? = some (.cells #[.int .i64 a0_0, .int .i64 a0_1, .int .i64 a0_2, (.slice A0_3 l0_3.length c0_3), (.slice A0_4 l0_4.length c0_4), (.slice A0_5 l0_5.length c0_5), (.slice A0_6 l0_6.length c0_6)] 25 (0, 0))) ∧ Aside0 (Below w.heap.size w wc))
 case first =>
  have H := HC41.out
  clear HC41
  replace H := Option.bind_eq_some_iff.mp H
  obtain ⟨t258, A430, H⟩ := H
  replace H : (if t258 = true then ((sawmillref17_small.f k4 l0_6).bind fun t259 => (sawmillref17_Check.j4 k4 t259 a0_0 a0_1 a0_2 l0_3 l0_4 l0_5 l0_6)) else (sawmillref17_Check.j4 k4 false a0_0 a0_1 a0_2 l0_3 l0_4 l0_5 l0_6)) = some r := H
  have A43 := Aside0.mk A430
  clear A430
  by_cases c44 : t258 = true
  rotate_left
  · replace c44 := Bool.eq_false_iff.mpr c44
    subst c44
    have H1 : (sawmillref17_Check.j4 k4 false a0_0 a0_1 a0_2 l0_3 l0_4 l0_5 l0_6) = some r := by rw [if_neg (show ¬ (false = true) by decide)] at H; exact H
    clear H
    have H := H1
    clear H1
    have H' := Aside0.mk H
    clear H
    have hcz47 := blk_cells BK253.out
    have hfz47 := blk_frozens BK253.out
    go_wp2_with (first | (go_at_call 52; (with_reducible refine (sawmillref17_small.calls k4 _ _ l0_5 false _ ?side1 ?side2 A43.out).mono ?_); (case side1 => exact cu1 (Kd.C_below HR0_5.out HB.out)); (case side2 => exact HC0_5.out); rintro e w' ⟨rfl, ⟨nd, rfl⟩⟩; (try first | exact ⟨rfl, _, World.drewN_drewN _ _ _⟩ | exact ⟨rfl, _, Eq.trans (World.drewN_drewN _ _ _) (congrArg (World.drewN _) (Nat.add_assoc _ _ _))⟩)))
    repeat (go_quiet (first | (go_at_call 52; (with_reducible refine (sawmillref17_small.calls k4 _ _ l0_5 false _ ?side1 ?side2 A43.out).mono ?_); (case side1 => exact cu1 (Kd.C_below HR0_5.out HB.out)); (case side2 => exact HC0_5.out); rintro e w' ⟨rfl, ⟨nd, rfl⟩⟩; (try first | exact ⟨rfl, _, World.drewN_drewN _ _ _⟩ | exact ⟨rfl, _, Eq.trans (World.drewN_drewN _ _ _) (congrArg (World.drewN _) (Nat.add_assoc _ _ _))⟩))); try go_wp2_with (first | (go_at_call 52; (with_reducible refine (sawmillref17_small.calls k4 _ _ l0_5 false _ ?side1 ?side2 A43.out).mono ?_); (case side1 => exact cu1 (Kd.C_below HR0_5.out HB.out)); (case side2 => exact HC0_5.out); rintro e w' ⟨rfl, ⟨nd, rfl⟩⟩; (try first | exact ⟨rfl, _, World.drewN_drewN _ _ _⟩ | exact ⟨rfl, _, Eq.trans (World.drewN_drewN _ _ _) (congrArg (World.drewN _) (Nat.add_assoc _ _ _))⟩))))
    go_meet
    case rel => exact ⟨_, (false), rs1, H', ⟨by have := HJ1.out; have := HK2.out; have := HJ25.out; have := HK4.out; first | omega | exact Nat.le_refl _⟩, ⟨bu BK253.out⟩, ⟨bl⟩⟩
  subst c44
  have H1 : ((sawmillref17_small.f k4 l0_6).bind fun t259 => (sawmillref17_Check.j4 k4 t259 a0_0 a0_1 a0_2 l0_3 l0_4 l0_5 l0_6)) = some r := by rw [if_pos rfl] at H; exact H
  clear H
  have H := H1
  clear H1
  replace H := Option.bind_eq_some_iff.mp H
  obtain ⟨t259, A450, H⟩ := H
  replace H : (sawmillref17_Check.j4 k4 t259 a0_0 a0_1 a0_2 l0_3 l0_4 l0_5 l0_6) = some r := H
  have A45 := Aside0.mk A450
  clear A450
  have H' := Aside0.mk H
  clear H
  have hcz46 := blk_cells BK253.out
  have hfz46 := blk_frozens BK253.out
  go_wp2_with (first | (go_at_call 52; (with_reducible refine (sawmillref17_small.calls k4 _ _ l0_5 true _ ?side1 ?side2 A43.out).mono ?_); (case side1 => exact cu1 (Kd.C_below HR0_5.out HB.out)); (case side2 => exact HC0_5.out); rintro e w' ⟨rfl, ⟨nd, rfl⟩⟩; (try first | exact ⟨rfl, _, World.drewN_drewN _ _ _⟩ | exact ⟨rfl, _, Eq.trans (World.drewN_drewN _ _ _) (congrArg (World.drewN _) (Nat.add_assoc _ _ _))⟩)) | (go_at_call 52; (with_reducible refine (sawmillref17_small.calls k4 _ _ l0_6 t259 _ ?side1 ?side2 A45.out).mono ?_); (case side1 => repeat (first | exact (Kd.C_below HR0_6.out bl) | (with_reducible refine Kd.C_alloc ?_ _) | (with_reducible refine Kd.C_drewN ?_ _) | (with_reducible refine Kd.C_drew ?_))); (case side2 => exact HC0_6.out); rintro e w' ⟨rfl, ⟨nd, rfl⟩⟩; (try first | exact ⟨rfl, _, World.drewN_drewN _ _ _⟩ | exact ⟨rfl, _, Eq.trans (World.drewN_drewN _ _ _) (congrArg (World.drewN _) (Nat.add_assoc _ _ _))⟩)))
  repeat (go_quiet (first | (go_at_call 52; (with_reducible refine (sawmillref17_small.calls k4 _ _ l0_5 true _ ?side1 ?side2 A43.out).mono ?_); (case side1 => exact cu1 (Kd.C_below HR0_5.out HB.out)); (case side2 => exact HC0_5.out); rintro e w' ⟨rfl, ⟨nd, rfl⟩⟩; (try first | exact ⟨rfl, _, World.drewN_drewN _ _ _⟩ | exact ⟨rfl, _, Eq.trans (World.drewN_drewN _ _ _) (congrArg (World.drewN _) (Nat.add_assoc _ _ _))⟩)) | (go_at_call 52; (with_reducible refine (sawmillref17_small.calls k4 _ _ l0_6 t259 _ ?side1 ?side2 A45.out).mono ?_); (case side1 => repeat (first | exact (Kd.C_below HR0_6.out bl) | (with_reducible refine Kd.C_alloc ?_ _) | (with_reducible refine Kd.C_drewN ?_ _) | (with_reducible refine Kd.C_drew ?_))); (case side2 => exact HC0_6.out); rintro e w' ⟨rfl, ⟨nd, rfl⟩⟩; (try first | exact ⟨rfl, _, World.drewN_drewN _ _ _⟩ | exact ⟨rfl, _, Eq.trans (World.drewN_drewN _ _ _) (congrArg (World.drewN _) (Nat.add_assoc _ _ _))⟩))); try go_wp2_with (first | (go_at_call 52; (with_reducible refine (sawmillref17_small.calls k4 _ _ l0_5 true _ ?side1 ?side2 A43.out).mono ?_); (case side1 => exact cu1 (Kd.C_below HR0_5.out HB.out)); (case side2 => exact HC0_5.out); rintro e w' ⟨rfl, ⟨nd, rfl⟩⟩; (try first | exact ⟨rfl, _, World.drewN_drewN _ _ _⟩ | exact ⟨rfl, _, Eq.trans (World.drewN_drewN _ _ _) (congrArg (World.drewN _) (Nat.add_assoc _ _ _))⟩)) | (go_at_call 52; (with_reducible refine (sawmillref17_small.calls k4 _ _ l0_6 t259 _ ?side1 ?side2 A45.out).mono ?_); (case side1 => repeat (first | exact (Kd.C_below HR0_6.out bl) | (with_reducible refine Kd.C_alloc ?_ _) | (with_reducible refine Kd.C_drewN ?_ _) | (with_reducible refine Kd.C_drew ?_))); (case side2 => exact HC0_6.out); rintro e w' ⟨rfl, ⟨nd, rfl⟩⟩; (try first | exact ⟨rfl, _, World.drewN_drewN _ _ _⟩ | exact ⟨rfl, _, Eq.trans (World.drewN_drewN _ _ _) (congrArg (World.drewN _) (Nat.add_assoc _ _ _))⟩))))
  go_meet
  case rel => exact ⟨_, (t259), rs1, H', ⟨by have := HJ1.out; have := HK2.out; have := HJ25.out; have := HK4.out; first | omega | exact Nat.le_refl _⟩, ⟨bu BK253.out⟩, ⟨bl⟩⟩
 clear HC41; (try clear c1); (try clear c2); (try clear p2); (try clear q2); (try clear hx2); (try clear c3); (try clear c4); (try clear c4b0); (try clear c6); (try clear c6b0); (try clear p6); (try clear c8); (try clear c8b0); (try clear c10); (try clear c10b0); (try clear c12); (try clear c12b0); (try clear c15); (try clear c16); (try clear c16b0); (try clear c16b1); (try clear c19); (try clear c19b0); (try clear c20); (try clear c20b0); (try clear c21); (try clear c21b0); (try clear c23); (try clear c23b0); (try clear c25); (try clear p25); (try clear q25); (try clear hx25); (try clear c28); (try clear c28b0); (try clear c28b1); (try clear c28b2); (try clear c29); (try clear c29b0); (try clear c29b1); (try clear c33); (try clear c34); (try clear c34b0); (try clear c35); (try clear c35b0); (try clear c36); (try clear c36b0); (try clear c38); (try clear c38b0); (try clear c38b1); (try clear c44); (try clear hcz11); (try clear hcz13); (try clear hcz14); (try clear hcz17); (try clear hcz18); (try clear hcz22); (try clear hcz24); (try clear hcz25); (try clear hcz27); (try clear hcz30); (try clear hcz31); (try clear hcz32); (try clear hcz39); (try clear hcz40); (try clear hcz42); (try clear hcz46); (try clear hcz47); (try clear hcz5); (try clear hcz7); (try clear hcz9); (try clear hfz11); (try clear hfz13); (try clear hfz14); (try clear hfz17); (try clear hfz18); (try clear hfz22); (try clear hfz24); (try clear hfz25); (try clear hfz27); (try clear hfz30); (try clear hfz31); (try clear hfz32); (try clear hfz39); (try clear hfz40); (try clear hfz42); (try clear hfz46); (try clear hfz47); (try clear hfz5); (try clear hfz7); (try clear hfz9); (try clear hx254_0); (try clear hx255_0); (try clear hx256_0); (try clear hx257_0); (try clear p2); (try clear p25); (try clear p254); (try clear p255); (try clear p256); (try clear p257); (try clear p6); (try clear q2); (try clear q25); (try clear q254); (try clear q255); (try clear q256); (try clear q257)
 obtain ⟨kq, x5_40, rfl, HA, HJ40, BK253, HB⟩ := hcut
 rcases kq with _ | kj40
 · exact absurd HA.out (by simp [sawmillref17_Check.j4])
 have H := HA.out
 clear HA
 simp only [sawmillref17_Check.j4] at H
 have H' := Aside0.mk H
 clear H
 go_wp2
 repeat (go_quiet (fail); try go_wp2)
 go_loopg [5, 6] kj40 (fun kq v5 v6 w' => ∃ (x5_6 : Bool) (x6_6 : Int), v5 = .bool x5_6 ∧ v6 = .int .i64 x6_6 ∧ Aside0 (sawmillref17_Check.l2 kq x5_6 x6_6 a0_0 a0_1 a0_2 l0_3 l0_4 l0_5 l0_6 = some r) ∧ Aside0 (kq ≤ kj40) ∧ Aside0 (w'.heap[gb253]? = some (.cells #[.int .i64 a0_0, .int .i64 a0_1, .int .i64 a0_2, (.slice A0_3 l0_3.length c0_3), (.slice A0_4 l0_4.length c0_4), (.slice A0_5 l0_5.length c0_5), (.slice A0_6 l0_6.length c0_6)] 25 (0, 0))) ∧ Aside0 (Below w.heap.size w w'))
 case atStart => exact ⟨(x5_40), (0), rs1, rs1, H', ⟨Nat.le_refl _⟩, ⟨bu BK253.out⟩, ⟨bl⟩⟩
 clear H'; (try clear c1); (try clear c2); (try clear p2); (try clear q2); (try clear hx2); (try clear c3); (try clear c4); (try clear c4b0); (try clear c6); (try clear c6b0); (try clear p6); (try clear c8); (try clear c8b0); (try clear c10); (try clear c10b0); (try clear c12); (try clear c12b0); (try clear c15); (try clear c16); (try clear c16b0); (try clear c16b1); (try clear c19); (try clear c19b0); (try clear c20); (try clear c20b0); (try clear c21); (try clear c21b0); (try clear c23); (try clear c23b0); (try clear c25); (try clear p25); (try clear q25); (try clear hx25); (try clear c28); (try clear c28b0); (try clear c28b1); (try clear c28b2); (try clear c29); (try clear c29b0); (try clear c29b1); (try clear c33); (try clear c34); (try clear c34b0); (try clear c35); (try clear c35b0); (try clear c36); (try clear c36b0); (try clear c38); (try clear c38b0); (try clear c38b1); (try clear c44); (try clear hcz11); (try clear hcz13); (try clear hcz14); (try clear hcz17); (try clear hcz18); (try clear hcz22); (try clear hcz24); (try clear hcz25); (try clear hcz27); (try clear hcz30); (try clear hcz31); (try clear hcz32); (try clear hcz39); (try clear hcz40); (try clear hcz42); (try clear hcz46); (try clear hcz47); (try clear hcz5); (try clear hcz7); (try clear hcz9); (try clear hfz11); (try clear hfz13); (try clear hfz14); (try clear hfz17); (try clear hfz18); (try clear hfz22); (try clear hfz24); (try clear hfz25); (try clear hfz27); (try clear hfz30); (try clear hfz31); (try clear hfz32); (try clear hfz39); (try clear hfz40); (try clear hfz42); (try clear hfz46); (try clear hfz47); (try clear hfz5); (try clear hfz7); (try clear hfz9); (try clear hx254_0); (try clear hx255_0); (try clear hx256_0); (try clear hx257_0); (try clear p2); (try clear p25); (try clear p254); (try clear p255); (try clear p256); (try clear p257); (try clear p6); (try clear q2); (try clear q25); (try clear q254); (try clear q255); (try clear q256); (try clear q257)
 obtain ⟨x5_6, x6_6, rfl, rfl, HA, HK6, BK253, HB⟩ := hrel
 rcases gk with _ | k6
 · exact absurd HA.out (by simp [sawmillref17_Check.l2])
 have H := HA.out
 clear HA
 simp only [sawmillref17_Check.l2] at H
 by_cases c48 : x6_6 < (l0_4.length : Int)
 rotate_left
 · rw [if_neg c48] at H
   have c48b0 : decide (x6_6 < (l0_4.length : Int)) = false := decide_eq_false c48
   clear c48
   by_cases c54 : x5_6 = true
   · subst c54
     have H1 : (some 0) = some r := by rw [if_pos rfl] at H; exact H
     clear H
     have H := H1
     clear H1
     obtain rfl := Option.some.inj H
     have hcz55 := blk_cells BK253.out
     have hfz55 := blk_frozens BK253.out
     go_wp2
     repeat (go_quiet (fail); try go_wp2)
     go_ret
     exact ⟨fe1, bl⟩
   replace c54 := Bool.eq_false_iff.mpr c54
   subst c54
   have H1 : (some 9) = some r := by rw [if_neg (show ¬ (false = true) by decide)] at H; exact H
   clear H
   have H := H1
   clear H1
   obtain rfl := Option.some.inj H
   have hcz56 := blk_cells BK253.out
   have hfz56 := blk_frozens BK253.out
   go_wp2
   repeat (go_quiet (fail); try go_wp2)
   go_ret
   exact ⟨fe1, bl⟩
 rw [if_pos c48] at H
 have c48b0 : decide (x6_6 < (l0_4.length : Int)) = true := decide_eq_true c48
 clear c48
 by_cases c49 : x5_6 = true
 rotate_left
 · replace c49 := Bool.eq_false_iff.mpr c49
   subst c49
   have H1 : (sawmillref17_Check.l2 k6 false (wrap64 (x6_6 + 1)) a0_0 a0_1 a0_2 l0_3 l0_4 l0_5 l0_6) = some r := by rw [if_neg (show ¬ (false = true) by decide)] at H; exact H
   clear H
   have H := H1
   clear H1
   have H' := Aside0.mk H
   clear H
   have hcz53 := blk_cells BK253.out
   have hfz53 := blk_frozens BK253.out
   go_wp2
   repeat (go_quiet (fail); try go_wp2)
   go_roundg k6
   case measure => have := HJ1.out; have := HK2.out; have := HJ25.out; have := HK4.out; have := HJ40.out; have := HK6.out; omega
   case rel => exact ⟨(false), (wrap64 (x6_6 + 1)), rs1, rs1, H', ⟨by have := HJ1.out; have := HK2.out; have := HJ25.out; have := HK4.out; have := HJ40.out; have := HK6.out; omega⟩, ⟨bu BK253.out⟩, ⟨bl⟩⟩
 subst c49
 have H1 : (if 0 ≤ x6_6 then ((sawmillref17_small.f k6 (rd_L1 l0_4 x6_6)).bind fun t261 => (sawmillref17_Check.l2 k6 t261 (wrap64 (x6_6 + 1)) a0_0 a0_1 a0_2 l0_3 l0_4 l0_5 l0_6)) else (none)) = some r := by rw [if_pos rfl] at H; exact H
 clear H
 have H := H1
 clear H1
 obtain ⟨c50, H⟩ := gd1 H
 have c50b0 : decide (0 ≤ x6_6) = true := decide_eq_true c50
 clear c50
 replace H := Option.bind_eq_some_iff.mp H
 obtain ⟨t261, A510, H⟩ := H
 replace H : (sawmillref17_Check.l2 k6 t261 (wrap64 (x6_6 + 1)) a0_0 a0_1 a0_2 l0_3 l0_4 l0_5 l0_6) = some r := H
 have A51 := Aside0.mk A510
 clear A510
 have H' := Aside0.mk H
 clear H
 have hcz52 := blk_cells BK253.out
 have hfz52 := blk_frozens BK253.out
 have p260 : 0 ≤ (x6_6 : Int) := da1
 have q260 : x6_6 < (l0_4.length : Int) := da1
 obtain ⟨ad260, A260_0, c260_0, e260, hx260_0, hl260_0, hi260_0⟩ := at_L1 HR0_4.out x6_6 p260 q260
 cases e260
 (try replace hx260_0 := (HB.out.cell (World.block_lt_of_cell? w _ hx260_0)).trans hx260_0)
 have HR260_0 := Aside0.mk hi260_0
 have HC260_0 := Aside0.mk hl260_0
 clear hi260_0 hl260_0
 replace p260 := eq_true p260
 replace q260 := eq_true q260
 go_wp2_with (first | (go_at_call 52; (with_reducible refine (sawmillref17_small.calls k6 _ _ (rd_L1 l0_4 x6_6) t261 _ ?side1 ?side2 A51.out).mono ?_); (case side1 => exact cu1 (Kd.C_below HR260_0.out HB.out)); (case side2 => exact HC260_0.out); rintro e w' ⟨rfl, ⟨nd, rfl⟩⟩; (try first | exact ⟨rfl, _, World.drewN_drewN _ _ _⟩ | exact ⟨rfl, _, Eq.trans (World.drewN_drewN _ _ _) (congrArg (World.drewN _) (Nat.add_assoc _ _ _))⟩)))
 repeat (go_quiet (first | (go_at_call 52; (with_reducible refine (sawmillref17_small.calls k6 _ _ (rd_L1 l0_4 x6_6) t261 _ ?side1 ?side2 A51.out).mono ?_); (case side1 => exact cu1 (Kd.C_below HR260_0.out HB.out)); (case side2 => exact HC260_0.out); rintro e w' ⟨rfl, ⟨nd, rfl⟩⟩; (try first | exact ⟨rfl, _, World.drewN_drewN _ _ _⟩ | exact ⟨rfl, _, Eq.trans (World.drewN_drewN _ _ _) (congrArg (World.drewN _) (Nat.add_assoc _ _ _))⟩))); try go_wp2_with (first | (go_at_call 52; (with_reducible refine (sawmillref17_small.calls k6 _ _ (rd_L1 l0_4 x6_6) t261 _ ?side1 ?side2 A51.out).mono ?_); (case side1 => exact cu1 (Kd.C_below HR260_0.out HB.out)); (case side2 => exact HC260_0.out); rintro e w' ⟨rfl, ⟨nd, rfl⟩⟩; (try first | exact ⟨rfl, _, World.drewN_drewN _ _ _⟩ | exact ⟨rfl, _, Eq.trans (World.drewN_drewN _ _ _) (congrArg (World.drewN _) (Nat.add_assoc _ _ _))⟩))))
 go_roundg k6
 case measure => have := HJ1.out; have := HK2.out; have := HJ25.out; have := HK4.out; have := HJ40.out; have := HK6.out; omega
 case rel => exact ⟨(t261), (wrap64 (x6_6 + 1)), rs1, rs1, H', ⟨by have := HJ1.out; have := HK2.out; have := HJ25.out; have := HK4.out; have := HJ40.out; have := HK6.out; omega⟩, ⟨bu BK253.out⟩, ⟨bl⟩⟩
end Go.Proofs.YtoaicheopcojoaaDoor.P
