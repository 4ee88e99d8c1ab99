import Derived.Test.YtoaicheopcojoaaDoorSq
namespace Go.Proofs.YtoaicheopcojoaaDoor.P
open Go.RowKit Go.Proofs.YtoaicheopcojoaaDoorW.PrintWords Go.Proofs.YtoaicheopcojoaaDoorW.PrintLast Go.Proofs.YtoaicheopcojoaaDoorW.PrintMore
attribute [local go_sem] max2_int min2_int max_two min_two max_three min_three max_four min_four   -- for this text's walks alone
set_option linter.unusedVariables false
set_option linter.unusedSimpArgs false
/-! ### sawmillref17_headless: function 60 -/
def sawmillref17_headless.f (a0_0 : Int) (a0_1 : Int) (a0_2 : Int) (l0_3 : List Int) (l0_4 : List (List Int)) (l0_5 : List Int) (l0_6 : List Int) : Option (Int) := if a0_1 < 0 then (some 9) else (if a0_1 > 20 then (some 9) else (if a0_2 < 1 then (some 9) else (if a0_2 > 2000 then (some 9) else (some 4))))
theorem L60_0 {p_ : Prop} (k_ : p_ := by
  go_enter Tryd.func60, Tryd.ntmps60
  go_wp2_with (first | ((with_reducible refine gate_dst (N := 1) rfl ?_); refine bx1 (N := 1) #[.int .i64 a0_0, .int .i64 a0_1, .int .i64 a0_2, .slice A0_3 l0_3.length c0_3, .slice A0_4 l0_4.length c0_4, .slice A0_5 l0_5.length c0_5, .slice A0_6 l0_6.length c0_6] 25 ?_; intro gbq1 hg wq1 hbox hb; have nq1 := Aside0.mk (below_step bl hb); have nq2 := Aside0.mk (hbox); have nq3 := Aside0.mk ((gs1 : w.heap.size ≤ gbq1)); have nq4 := Aside0.mk ((gs1 : w.heap.size ≤ gbq1)); clear HB; have HB := nq1; have BKq1 := nq2; have GWq1 := nq3; have GEq1 := nq4; clear nq1 nq2 nq3 nq4; clear hb hbox hg; have hczq1 := blk_cells BKq1.out; have hfzq1 := blk_frozens BKq1.out))
  go_ret
  exact ⟨fe1, bl⟩) : p_ := k_
set_option maxHeartbeats 8000000 in
set_option maxRecDepth 100000 in
theorem sawmillref17_headless.calls (a0_0 : Int) (a0_1 : Int) (a0_2 : Int) (A0_3 : Option Addr) (c0_3 : Nat) (l0_3 : List Int) (A0_4 : Option Addr) (c0_4 : Nat) (l0_4 : List (List Int)) (A0_5 : Option Addr) (c0_5 : Nat) (l0_5 : List Int) (A0_6 : Option Addr) (c0_6 : Nat) (l0_6 : List Int) (r : Int) (w : World) (hr0_3 : Kd.C (Kd.int .i64) w A0_3 l0_3.length l0_3) (hc0_3 : l0_3.length ≤ c0_3) (hr0_4 : Kd.C (Kd.slice 3 (Kd.int .i64)) w A0_4 l0_4.length l0_4) (hc0_4 : l0_4.length ≤ c0_4) (hr0_5 : Kd.C (Kd.int .i64) w A0_5 l0_5.length l0_5) (hc0_5 : l0_5.length ≤ c0_5) (hr0_6 : Kd.C (Kd.int .i64) w A0_6 l0_6.length l0_6) (hc0_6 : l0_6.length ≤ c0_6) (h : sawmillref17_headless.f a0_0 a0_1 a0_2 l0_3 l0_4 l0_5 l0_6 = some r) :
    Calls Tryd.prog 60 #[.agg #[.int .i64 a0_0, .int .i64 a0_1, .int .i64 a0_2, .slice A0_3 l0_3.length c0_3, .slice A0_4 l0_4.length c0_4, .slice A0_5 l0_5.length c0_5, .slice A0_6 l0_6.length c0_6]] w fun e w' => e = .returned (.int .i64 r) ∧ Below w.heap.size w w' := by
 have hu25 := Tryd.underlying25
 have HR0_3 := Aside0.mk hr0_3
 have HC0_3 := Aside0.mk hc0_3
 clear hr0_3 hc0_3
 have HR0_4 := Aside0.mk hr0_4
 have HC0_4 := Aside0.mk hc0_4
 clear hr0_4 hc0_4
 have HR0_5 := Aside0.mk hr0_5
 have HC0_5 := Aside0.mk hc0_5
 clear hr0_5 hc0_5
 have HR0_6 := Aside0.mk hr0_6
 have HC0_6 := Aside0.mk hc0_6
 clear hr0_6 hc0_6
 have HB := Aside0.mk (Below.refl w.heap.size w)
 have H : (if a0_1 < 0 then (some 9) else (if a0_1 > 20 then (some 9) else (if a0_2 < 1 then (some 9) else (if a0_2 > 2000 then (some 9) else (some 4))))) = some r := h
 clear h
 by_cases c2 : a0_1 < 0
 · rw [if_pos c2] at H
   have c2b0 : decide (a0_1 < 0) = true := decide_eq_true c2
   clear c2
   obtain rfl := Option.some.inj H
   exact L60_0
 rw [if_neg c2] at H
 have c2b0 : decide (a0_1 < 0) = false := decide_eq_false c2
 clear c2
 by_cases c5 : a0_1 > 20
 · rw [if_pos c5] at H
   have c5b0 : decide (20 < a0_1) = true := decide_eq_true c5
   clear c5
   obtain rfl := Option.some.inj H
   exact L60_0
 rw [if_neg c5] at H
 have c5b0 : decide (20 < a0_1) = false := decide_eq_false c5
 clear c5
 by_cases c8 : a0_2 < 1
 · rw [if_pos c8] at H
   have c8b0 : decide (a0_2 < 1) = true := decide_eq_true c8
   clear c8
   obtain rfl := Option.some.inj H
   exact L60_0
 rw [if_neg c8] at H
 have c8b0 : decide (a0_2 < 1) = false := decide_eq_false c8
 clear c8
 by_cases c11 : a0_2 > 2000
 · rw [if_pos c11] at H
   have c11b0 : decide (2000 < a0_2) = true := decide_eq_true c11
   clear c11
   obtain rfl := Option.some.inj H
   exact L60_0
 rw [if_neg c11] at H
 have c11b0 : decide (2000 < a0_2) = false := decide_eq_false c11
 clear c11
 obtain rfl := Option.some.inj H
 exact L60_0
end Go.Proofs.YtoaicheopcojoaaDoor.P
