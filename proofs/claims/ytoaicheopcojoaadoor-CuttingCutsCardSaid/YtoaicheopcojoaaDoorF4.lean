import Derived.Test.YtoaicheopcojoaaDoorSq
import Derived.Test.YtoaicheopcojoaaDoorF17
import Derived.Test.YtoaicheopcojoaaDoorF21
import Derived.Test.YtoaicheopcojoaaDoorF22
import Derived.Test.YtoaicheopcojoaaDoorF23
import Derived.Test.YtoaicheopcojoaaDoorF24
import Derived.Test.YtoaicheopcojoaaDoorF25
import Derived.Test.YtoaicheopcojoaaDoorHAwake
namespace Go.Proofs.YtoaicheopcojoaaDoor.P
open Go.RowKit Go.Proofs.YtoaicheopcojoaaDoorW.PrintWords Go.Proofs.YtoaicheopcojoaaDoorW.PrintLast Go.Proofs.YtoaicheopcojoaaDoorW.PrintMore
attribute [local go_sem] max2_int min2_int max_two min_two max_three min_three max_four min_four   -- for this text's walks alone
set_option linter.unusedVariables false
set_option linter.unusedSimpArgs false
/-! ### sawmilllaw17_CuttingCuts: function 4 -/
noncomputable def sawmilllaw17_CuttingCuts.j0 : Nat → List (S69) → Bool → Int → Int → Int → List Int → List (List Int) → List Int → List Int → Option (Bool)
  | 0, _, _, _, _, _, _, _, _, _ => none
  | k + 1, x1, x22, x315000, x315001, x315002, x315003, x315004, x315005, x315006 => if x22 = true then ((sawmilllaw17_awake.f).bind fun t316 => (some t316)) else ((cutting_Cuts.f k x315000 x315001 x315002 x315003 x315004 x315005 x315006 x1).bind fun bt317 => ((sawmillref17_Cuts.f k x315000 x315001 x315002 x315003 x315004 x315005 x315006 x1).bind fun bt324 => ((cutting_Value.f k x315000 x315001 x315002 x315003 x315004 x315005 x315006 x1).bind fun bt331 => ((sawmillref17_Value.f k x315000 x315001 x315002 x315003 x315004 x315005 x315006 x1).bind fun bt333 => ((sawmillref17_SameSpans.f k bt317.1 bt324.1).bind fun t335 => (if t335 = true then ((sawmillref17_SameSpans.f k bt317.2.1 bt324.2.1).bind fun t336 => (if t336 = true then (if bt317.2.2 = bt324.2.2 then (if bt331.1 = bt333.1 then (if bt331.2 = bt333.2 then ((sawmilllaw17_awake.f).bind fun t337 => (some t337)) else (some false)) else (some false)) else (some false)) else (some false))) else (some false)))))))
noncomputable def sawmilllaw17_CuttingCuts.f (k : Nat) (a0_0 : Int) (a0_1 : Int) (a0_2 : Int) (l0_3 : List Int) (l0_4 : List (List Int)) (l0_5 : List Int) (l0_6 : List Int) (l1 : List (S69)) : Option (Bool) := (sawmilllaw17_few.f k a0_0 a0_1 a0_2 l0_3 l0_4 l0_5 l0_6).bind fun t315 => (if t315 = true then (sawmilllaw17_CuttingCuts.j0 k l1 (decide ((l1.length : Int) > 300)) a0_0 a0_1 a0_2 l0_3 l0_4 l0_5 l0_6) else (sawmilllaw17_CuttingCuts.j0 k l1 true a0_0 a0_1 a0_2 l0_3 l0_4 l0_5 l0_6))
theorem sawmilllaw17_CuttingCuts.mono_l : ∀ k, (∀ y0 y1 y2 y3 y4 y5 y6 y7 y8, LeO (sawmilllaw17_CuttingCuts.j0 k y0 y1 y2 y3 y4 y5 y6 y7 y8) (sawmilllaw17_CuttingCuts.j0 (k + 1) y0 y1 y2 y3 y4 y5 y6 y7 y8))
  | 0 => fun _ _ _ _ _ _ _ _ _ r h => by simp [sawmilllaw17_CuttingCuts.j0] at h
  | k + 1 => by
    have ih0 := sawmilllaw17_CuttingCuts.mono_l k
    · intro y0 y1 y2 y3 y4 y5 y6 y7 y8
      unfold sawmilllaw17_CuttingCuts.j0
      repeat' first
      | (with_reducible exact ih0 _ _ _ _ _ _ _ _ _)
      | (with_reducible exact cutting_Cuts.mono _ _ _ _ _ _ _ _ _)
      | (with_reducible exact cutting_Value.mono _ _ _ _ _ _ _ _ _)
      | (with_reducible exact sawmilllaw17_few.mono _ _ _ _ _ _ _ _)
      | (with_reducible exact sawmillref17_Cuts.mono _ _ _ _ _ _ _ _ _)
      | (with_reducible exact sawmillref17_SameSpans.mono _ _ _)
      | (with_reducible exact sawmillref17_Value.mono _ _ _ _ _ _ _ _ _)
      | (with_reducible exact LeO.refl _)
      | (with_reducible exact LeO.none _)
      | (with_reducible refine LeO.ite ?_ ?_)
      | (with_reducible refine LeO.bind ?_ (fun _ => ?_))
      | exact ih0 _ _ _ _ _ _ _ _ _
      | exact cutting_Cuts.mono _ _ _ _ _ _ _ _ _
      | exact cutting_Value.mono _ _ _ _ _ _ _ _ _
      | exact sawmilllaw17_few.mono _ _ _ _ _ _ _ _
      | exact sawmillref17_Cuts.mono _ _ _ _ _ _ _ _ _
      | exact sawmillref17_SameSpans.mono _ _ _
      | exact sawmillref17_Value.mono _ _ _ _ _ _ _ _ _
      | exact LeO.none _
      | refine LeO.ite ?_ ?_
      | refine LeO.bind ?_ (fun _ => ?_)
theorem sawmilllaw17_CuttingCuts.mono : ∀ a0 a1 a2 a3 a4 a5 a6 a7 k, LeO (sawmilllaw17_CuttingCuts.f k a0 a1 a2 a3 a4 a5 a6 a7) (sawmilllaw17_CuttingCuts.f (k + 1) a0 a1 a2 a3 a4 a5 a6 a7) := by
  intro a0 a1 a2 a3 a4 a5 a6 a7 k
  have ih0 := sawmilllaw17_CuttingCuts.mono_l k
  unfold sawmilllaw17_CuttingCuts.f
  repeat' first
      | (with_reducible exact ih0 _ _ _ _ _ _ _ _ _)
      | (with_reducible exact cutting_Cuts.mono _ _ _ _ _ _ _ _ _)
      | (with_reducible exact cutting_Value.mono _ _ _ _ _ _ _ _ _)
      | (with_reducible exact sawmilllaw17_few.mono _ _ _ _ _ _ _ _)
      | (with_reducible exact sawmillref17_Cuts.mono _ _ _ _ _ _ _ _ _)
      | (with_reducible exact sawmillref17_SameSpans.mono _ _ _)
      | (with_reducible exact sawmillref17_Value.mono _ _ _ _ _ _ _ _ _)
      | (with_reducible exact LeO.refl _)
      | (with_reducible exact LeO.none _)
      | (with_reducible refine LeO.ite ?_ ?_)
      | (with_reducible refine LeO.bind ?_ (fun _ => ?_))
      | exact ih0 _ _ _ _ _ _ _ _ _
      | exact cutting_Cuts.mono _ _ _ _ _ _ _ _ _
      | exact cutting_Value.mono _ _ _ _ _ _ _ _ _
      | exact sawmilllaw17_few.mono _ _ _ _ _ _ _ _
      | exact sawmillref17_Cuts.mono _ _ _ _ _ _ _ _ _
      | exact sawmillref17_SameSpans.mono _ _ _
      | exact sawmillref17_Value.mono _ _ _ _ _ _ _ _ _
      | exact LeO.none _
      | refine LeO.ite ?_ ?_
      | refine LeO.bind ?_ (fun _ => ?_)
theorem L4_0 {p_ : Prop} (k_ : p_ := by
  go_wp2_with (first | ((with_reducible refine gate_callee (f := 21) rfl ?_); refine goesL_ (some 27) rfl rfl Tryd.func21 (by kernel_rfl) rfl #[.agg #[.int .i64 a0_0, .int .i64 a0_1, .int .i64 a0_2, .slice A0_3 l0_3.length c0_3, .slice A0_4 l0_4.length c0_4, .slice A0_5 l0_5.length c0_5, .slice A0_6 l0_6.length c0_6], .slice A1 l1.length c1] rfl mp1 ?_; (with_reducible refine (cutting_Cuts.calls kj2 a0_0 a0_1 a0_2 _ _ l0_3 _ _ l0_4 _ _ l0_5 _ _ l0_6 _ _ l1 t317 t320 t323 _ ?side1 ?side2 ?side3 ?side4 ?side5 ?side6 ?side7 ?side8 ?side9 ?side10 A16.out).mono ?_); (case side1 => exact cu1 (Kd.C_below HR0_3.out HB.out)); (case side2 => exact HC0_3.out); (case side3 => exact cu1 (Kd.C_below HR0_4.out HB.out)); (case side4 => exact HC0_4.out); (case side5 => exact cu1 (Kd.C_below HR0_5.out HB.out)); (case side6 => exact HC0_5.out); (case side7 => exact cu1 (Kd.C_below HR0_6.out HB.out)); (case side8 => exact HC0_6.out); (case side9 => exact cu1 (Kd.C_below HR1.out HB.out)); (case side10 => exact HC1.out); rintro e wq1 ⟨vq1, vq2, rfl, hoq1, hoq2, hb⟩; refine ⟨_, rfl, ?_⟩; have nq1 := Aside0.mk (Kd.R_lower hoq1 (below_size bl)); have nq2 := Aside0.mk (Kd.R_lower hoq2 (below_size bl)); have nq3 := Aside0.mk (blk_below (bu BK313.out) hb); have nq4 := Aside0.mk (blk_below (bu BK314.out) hb); have nq5 := Aside0.mk (below_step bl hb); clear BK313; clear BK314; clear HB; have HOq1 := nq1; have HOq2 := nq2; have BK313 := nq3; have BK314 := nq4; have HB := nq5; clear nq1 nq2 nq3 nq4 nq5; (try clear hb); (try clear hb2); (try clear hk); (try clear hi); (try clear hoq1); (try clear hoq2); have hczq1 := blk_cells BK314.out; have hfzq1 := blk_frozens BK314.out) | ((with_reducible refine gate_callee (f := 22) rfl ?_); refine goesL_ (some 34) rfl rfl Tryd.func22 (by kernel_rfl) rfl #[.agg #[.int .i64 a0_0, .int .i64 a0_1, .int .i64 a0_2, .slice A0_3 l0_3.length c0_3, .slice A0_4 l0_4.length c0_4, .slice A0_5 l0_5.length c0_5, .slice A0_6 l0_6.length c0_6], .slice A1 l1.length c1] rfl mp1 ?_; (with_reducible refine (sawmillref17_Cuts.calls kj2 a0_0 a0_1 a0_2 _ _ l0_3 _ _ l0_4 _ _ l0_5 _ _ l0_6 _ _ l1 t324 t327 t330 _ ?side1 ?side2 ?side3 ?side4 ?side5 ?side6 ?side7 ?side8 ?side9 ?side10 A17.out).mono ?_); (case side1 => exact cu1 (Kd.C_below HR0_3.out HB.out)); (case side2 => exact HC0_3.out); (case side3 => exact cu1 (Kd.C_below HR0_4.out HB.out)); (case side4 => exact HC0_4.out); (case side5 => exact cu1 (Kd.C_below HR0_5.out HB.out)); (case side6 => exact HC0_5.out); (case side7 => exact cu1 (Kd.C_below HR0_6.out HB.out)); (case side8 => exact HC0_6.out); (case side9 => exact cu1 (Kd.C_below HR1.out HB.out)); (case side10 => exact HC1.out); rintro e wq2 ⟨vq3, vq4, rfl, hoq1, hoq2, hb⟩; refine ⟨_, rfl, ?_⟩; have nq1 := Aside0.mk (Kd.R_mono (Kd.R_told (Kd.R_told (Kd.R_old (ru HOq1.out) hb) (Kd.R_base hoq1)) (Kd.R_base hoq2)) (fun _ h_ => h_.1)); have nq2 := Aside0.mk (Kd.R_mono (Kd.R_told (Kd.R_told (Kd.R_old (ru HOq2.out) hb) (Kd.R_base hoq1)) (Kd.R_base hoq2)) (fun _ h_ => h_.1)); have nq3 := Aside0.mk (Kd.R_lower (Kd.R_new' (Kd.R_new' hoq1 (Kd.R_lt (ru HOq1.out))) (Kd.R_lt (ru HOq2.out))) (below_size bl)); have nq4 := Aside0.mk (Kd.R_lower (Kd.R_new' (Kd.R_new' hoq2 (Kd.R_lt (ru HOq1.out))) (Kd.R_lt (ru HOq2.out))) (below_size bl)); have nq5 := Aside0.mk (blk_below (bu BK313.out) hb); have nq6 := Aside0.mk (blk_below (bu BK314.out) hb); have nq7 := Aside0.mk (below_step bl hb); clear HOq1; clear HOq2; clear BK313; clear BK314; clear HB; have HOq1 := nq1; have HOq2 := nq2; have HOq3 := nq3; have HOq4 := nq4; have BK313 := nq5; have BK314 := nq6; have HB := nq7; clear nq1 nq2 nq3 nq4 nq5 nq6 nq7; (try clear hb); (try clear hb2); (try clear hk); (try clear hi); (try clear hoq1); (try clear hoq2); have hczq2 := blk_cells BK314.out; have hfzq2 := blk_frozens BK314.out) | ((with_reducible refine gate_callee (f := 23) rfl ?_); refine goesL_ (some 41) rfl rfl Tryd.func23 (by kernel_rfl) rfl #[.agg #[.int .i64 a0_0, .int .i64 a0_1, .int .i64 a0_2, .slice A0_3 l0_3.length c0_3, .slice A0_4 l0_4.length c0_4, .slice A0_5 l0_5.length c0_5, .slice A0_6 l0_6.length c0_6], .slice A1 l1.length c1] rfl mp1 ?_; (with_reducible refine (cutting_Value.calls kj2 a0_0 a0_1 a0_2 _ _ l0_3 _ _ l0_4 _ _ l0_5 _ _ l0_6 _ _ l1 t331 t332 _ ?side1 ?side2 ?side3 ?side4 ?side5 ?side6 ?side7 ?side8 ?side9 ?side10 A18.out).mono ?_); (case side1 => exact cu1 (Kd.C_below HR0_3.out HB.out)); (case side2 => exact HC0_3.out); (case side3 => exact cu1 (Kd.C_below HR0_4.out HB.out)); (case side4 => exact HC0_4.out); (case side5 => exact cu1 (Kd.C_below HR0_5.out HB.out)); (case side6 => exact HC0_5.out); (case side7 => exact cu1 (Kd.C_below HR0_6.out HB.out)); (case side8 => exact HC0_6.out); (case side9 => exact cu1 (Kd.C_below HR1.out HB.out)); (case side10 => exact HC1.out); rintro e wq3 ⟨rfl, hb⟩; refine ⟨_, rfl, ?_⟩; have nq1 := Aside0.mk (Kd.R_below (ru HOq1.out) hb); have nq2 := Aside0.mk (Kd.R_below (ru HOq2.out) hb); have nq3 := Aside0.mk (Kd.R_below (ru HOq3.out) hb); have nq4 := Aside0.mk (Kd.R_below (ru HOq4.out) hb); have nq5 := Aside0.mk (blk_below (bu BK313.out) hb); have nq6 := Aside0.mk (blk_below (bu BK314.out) hb); have nq7 := Aside0.mk (below_step bl hb); clear HOq1; clear HOq2; clear HOq3; clear HOq4; clear BK313; clear BK314; clear HB; have HOq1 := nq1; have HOq2 := nq2; have HOq3 := nq3; have HOq4 := nq4; have BK313 := nq5; have BK314 := nq6; have HB := nq7; clear nq1 nq2 nq3 nq4 nq5 nq6 nq7; (try clear hb); (try clear hb2); (try clear hk); (try clear hi); have hczq3 := blk_cells BK314.out; have hfzq3 := blk_frozens BK314.out) | ((with_reducible refine gate_callee (f := 24) rfl ?_); refine goesL_ (some 47) rfl rfl Tryd.func24 (by kernel_rfl) rfl #[.agg #[.int .i64 a0_0, .int .i64 a0_1, .int .i64 a0_2, .slice A0_3 l0_3.length c0_3, .slice A0_4 l0_4.length c0_4, .slice A0_5 l0_5.length c0_5, .slice A0_6 l0_6.length c0_6], .slice A1 l1.length c1] rfl mp1 ?_; (with_reducible refine (sawmillref17_Value.calls kj2 a0_0 a0_1 a0_2 _ _ l0_3 _ _ l0_4 _ _ l0_5 _ _ l0_6 _ _ l1 t333 t334 _ ?side1 ?side2 ?side3 ?side4 ?side5 ?side6 ?side7 ?side8 ?side9 ?side10 A19.out).mono ?_); (case side1 => exact cu1 (Kd.C_below HR0_3.out HB.out)); (case side2 => exact HC0_3.out); (case side3 => exact cu1 (Kd.C_below HR0_4.out HB.out)); (case side4 => exact HC0_4.out); (case side5 => exact cu1 (Kd.C_below HR0_5.out HB.out)); (case side6 => exact HC0_5.out); (case side7 => exact cu1 (Kd.C_below HR0_6.out HB.out)); (case side8 => exact HC0_6.out); (case side9 => exact cu1 (Kd.C_below HR1.out HB.out)); (case side10 => exact HC1.out); rintro e wq4 ⟨rfl, hb⟩; refine ⟨_, rfl, ?_⟩; have nq1 := Aside0.mk (Kd.R_below (ru HOq1.out) hb); have nq2 := Aside0.mk (Kd.R_below (ru HOq2.out) hb); have nq3 := Aside0.mk (Kd.R_below (ru HOq3.out) hb); have nq4 := Aside0.mk (Kd.R_below (ru HOq4.out) hb); have nq5 := Aside0.mk (blk_below (bu BK313.out) hb); have nq6 := Aside0.mk (blk_below (bu BK314.out) hb); have nq7 := Aside0.mk (below_step bl hb); clear HOq1; clear HOq2; clear HOq3; clear HOq4; clear BK313; clear BK314; clear HB; have HOq1 := nq1; have HOq2 := nq2; have HOq3 := nq3; have HOq4 := nq4; have BK313 := nq5; have BK314 := nq6; have HB := nq7; clear nq1 nq2 nq3 nq4 nq5 nq6 nq7; (try clear hb); (try clear hb2); (try clear hk); (try clear hi); obtain ⟨Aoq1, coq1, eoq1⟩ := Kd.R_slice HOq1.out; subst eoq1; obtain ⟨Aoq2, coq2, eoq2⟩ := Kd.R_slice HOq3.out; subst eoq2) | ((with_reducible refine gate_callee (f := 25) rfl ?_); refine goesL_ (some 52) rfl rfl Tryd.func25 (by kernel_rfl) rfl #[.slice Aoq1 t317.length coq1, .slice Aoq2 t324.length coq2] rfl mp1 ?_; (with_reducible refine (sawmillref17_SameSpans.calls kj2 _ _ t317 _ _ t324 true _ ?side1 ?side2 ?side3 ?side4 A20.out).mono ?_); (case side1 => repeat (first | exact (Kd.R_reads' HOq1.out).2.2 | (with_reducible refine Kd.C_alloc ?_ _) | (with_reducible refine Kd.C_drewN ?_ _) | (with_reducible refine Kd.C_drew ?_))); (case side2 => exact (Kd.R_reads' HOq1.out).2.1); (case side3 => repeat (first | exact (Kd.R_reads' HOq3.out).2.2 | (with_reducible refine Kd.C_alloc ?_ _) | (with_reducible refine Kd.C_drewN ?_ _) | (with_reducible refine Kd.C_drew ?_))); (case side4 => exact (Kd.R_reads' HOq3.out).2.1); rintro e w' ⟨rfl, ⟨nd, rfl⟩⟩; refine ⟨_, rfl, ?_⟩; obtain ⟨Aoq3, coq3, eoq3⟩ := Kd.R_slice HOq2.out; subst eoq3; obtain ⟨Aoq4, coq4, eoq4⟩ := Kd.R_slice HOq4.out; subst eoq4) | (go_at_call 25; (with_reducible refine (sawmillref17_SameSpans.calls kj2 _ _ t320 _ _ t327 true _ ?side1 ?side2 ?side3 ?side4 A22.out).mono ?_); (case side1 => repeat (first | exact (Kd.R_reads' HOq2.out).2.2 | (with_reducible refine Kd.C_alloc ?_ _) | (with_reducible refine Kd.C_drewN ?_ _) | (with_reducible refine Kd.C_drew ?_))); (case side2 => exact (Kd.R_reads' HOq2.out).2.1); (case side3 => repeat (first | exact (Kd.R_reads' HOq4.out).2.2 | (with_reducible refine Kd.C_alloc ?_ _) | (with_reducible refine Kd.C_drewN ?_ _) | (with_reducible refine Kd.C_drew ?_))); (case side4 => exact (Kd.R_reads' HOq4.out).2.1); rintro e w' ⟨rfl, ⟨nd, rfl⟩⟩))
  go_ret
  exact ⟨fe1, bl⟩) : p_ := k_
set_option maxHeartbeats 8000000 in
set_option maxRecDepth 100000 in
theorem sawmilllaw17_CuttingCuts.calls (k : Nat) (a0_0 : Int) (a0_1 : Int) (a0_2 : Int) (A0_3 : Option Addr) (c0_3 : Nat) (l0_3 : List Int) (A0_4 : Option Addr) (c0_4 : Nat) (l0_4 : List (List Int)) (A0_5 : Option Addr) (c0_5 : Nat) (l0_5 : List Int) (A0_6 : Option Addr) (c0_6 : Nat) (l0_6 : List Int) (A1 : Option Addr) (c1 : Nat) (l1 : List (S69)) (r : Bool) (w : World) (hr0_3 : Kd.C (Kd.int .i64) w A0_3 l0_3.length l0_3) (hc0_3 : l0_3.length ≤ c0_3) (hr0_4 : Kd.C (Kd.slice 3 (Kd.int .i64)) w A0_4 l0_4.length l0_4) (hc0_4 : l0_4.length ≤ c0_4) (hr0_5 : Kd.C (Kd.int .i64) w A0_5 l0_5.length l0_5) (hc0_5 : l0_5.length ≤ c0_5) (hr0_6 : Kd.C (Kd.int .i64) w A0_6 l0_6.length l0_6) (hc0_6 : l0_6.length ≤ c0_6) (hr1 : Kd.C k69 w A1 l1.length l1) (hc1 : l1.length ≤ c1) (hG : w.heap[0]? = some (.cells #[.int .i64 (-1), .int .i64 (-1), .int .i64 0] 97 (0, 0))) (h : sawmilllaw17_CuttingCuts.f k a0_0 a0_1 a0_2 l0_3 l0_4 l0_5 l0_6 l1 = some r) :
    Calls Tryd.prog 4 #[.agg #[.int .i64 a0_0, .int .i64 a0_1, .int .i64 a0_2, .slice A0_3 l0_3.length c0_3, .slice A0_4 l0_4.length c0_4, .slice A0_5 l0_5.length c0_5, .slice A0_6 l0_6.length c0_6], .slice A1 l1.length c1] w fun e w' => e = .returned (.bool r) ∧ Below w.heap.size w w' := by
 have hu25 := Tryd.underlying25
 have HR0_3 := Aside0.mk hr0_3
 have HC0_3 := Aside0.mk hc0_3
 clear hr0_3 hc0_3
 have HR0_4 := Aside0.mk hr0_4
 have HC0_4 := Aside0.mk hc0_4
 clear hr0_4 hc0_4
 have HR0_5 := Aside0.mk hr0_5
 have HC0_5 := Aside0.mk hc0_5
 clear hr0_5 hc0_5
 have HR0_6 := Aside0.mk hr0_6
 have HC0_6 := Aside0.mk hc0_6
 clear hr0_6 hc0_6
 have HR1 := Aside0.mk hr1
 have HC1 := Aside0.mk hc1
 clear hr1 hc1
 have BK313 := Aside0.mk hG
 clear hG
 have HB := Aside0.mk (Below.refl w.heap.size w)
 have H : ((sawmilllaw17_few.f k a0_0 a0_1 a0_2 l0_3 l0_4 l0_5 l0_6).bind fun t315 => (if t315 = true then (sawmilllaw17_CuttingCuts.j0 k l1 (decide ((l1.length : Int) > 300)) a0_0 a0_1 a0_2 l0_3 l0_4 l0_5 l0_6) else (sawmilllaw17_CuttingCuts.j0 k l1 true a0_0 a0_1 a0_2 l0_3 l0_4 l0_5 l0_6))) = some r := h
 clear h
 have HC3 := Aside0.mk H
 clear H
 go_enter Tryd.func4, Tryd.ntmps4
 go_upto_region 1 with (first | ((with_reducible refine gate_dst (N := 2) rfl ?_); (try (refine gate_guard (by rfl) ?_; dsimp only)); refine bx1 (N := 2) #[.int .i64 a0_0, .int .i64 a0_1, .int .i64 a0_2, .slice A0_3 l0_3.length c0_3, .slice A0_4 l0_4.length c0_4, .slice A0_5 l0_5.length c0_5, .slice A0_6 l0_6.length c0_6] 25 ?_; intro gb314 hg w4 hbox hb; have n0_ := Aside0.mk (blk_below (bu BK313.out) hb); have n1_ := Aside0.mk (below_step bl hb); have n2_ := Aside0.mk (hbox); have n3_ := Aside0.mk ((gs1 : w.heap.size ≤ gb314)); have n4_ := Aside0.mk ((gs1 : w.heap.size ≤ gb314)); have n5_ := Aside0.mk ((nl1 BK313 : 0 ≠ gb314)); have n6_ := Aside0.mk ((ng1 BK313 : gb314 ≠ 0)); clear BK313; clear HB; have BK313 := n0_; have HB := n1_; have BK314 := n2_; have GW314 := n3_; have GE314 := n4_; have NB313_314 := n5_; have NB314_313 := n6_; clear n0_ n1_ n2_ n3_ n4_ n5_ n6_; clear hb hbox hg))
 (try simp only [Act.put, List.setIfInBounds_toArray, List.set_cons_zero, List.set_cons_succ])
 go_cut [22] (fun v22 wc => ∃ (kq : Nat) (x22_2 : Bool), v22 = .bool x22_2 ∧ Aside0 (sawmilllaw17_CuttingCuts.j0 kq l1 x22_2 a0_0 a0_1 a0_2 l0_3 l0_4 l0_5 l0_6 = some r) ∧ Aside0 (kq ≤ k) ∧ Aside0 (wc.heap[0]? = some (.cells #[.int .i64 (-1), .int .i64 (-1), .int .i64 0] 97 (0, 0))) ∧ Aside0 (wc.heap[gb314]? = some (.cells #[.int .i64 a0_0, .int .i64 a0_1, .int .i64 a0_2, (.slice A0_3 l0_3.length c0_3), (.slice A0_4 l0_4.length c0_4), (.slice A0_5 l0_5.length c0_5), (.slice A0_6 l0_6.length c0_6)] 25 (0, 0))) ∧ Aside0 (Below w.heap.size w wc))
 case first =>
  have H := HC3.out
  clear HC3
  replace H := Option.bind_eq_some_iff.mp H
  obtain ⟨t315, A50, H⟩ := H
  replace H : (if t315 = true then (sawmilllaw17_CuttingCuts.j0 k l1 (decide ((l1.length : Int) > 300)) a0_0 a0_1 a0_2 l0_3 l0_4 l0_5 l0_6) else (sawmilllaw17_CuttingCuts.j0 k l1 true a0_0 a0_1 a0_2 l0_3 l0_4 l0_5 l0_6)) = some r := H
  have A5 := Aside0.mk A50
  clear A50
  by_cases c6 : t315 = true
  · subst c6
    have H1 : (sawmilllaw17_CuttingCuts.j0 k l1 (decide ((l1.length : Int) > 300)) a0_0 a0_1 a0_2 l0_3 l0_4 l0_5 l0_6) = some r := by rw [if_pos rfl] at H; exact H
    clear H
    have H := H1
    clear H1
    have H' := Aside0.mk H
    clear H
    have hnb7 := NB314_313.out
    have hnc7 := NB313_314.out
    have hcz8 := blk_cells BK314.out
    have hfz8 := blk_frozens BK314.out
    go_wp2_with (first | ((with_reducible refine gate_callee (f := 17) rfl ?_); refine goesL_ (some 16) rfl rfl Tryd.func17 (by kernel_rfl) rfl #[.agg #[.int .i64 a0_0, .int .i64 a0_1, .int .i64 a0_2, .slice A0_3 l0_3.length c0_3, .slice A0_4 l0_4.length c0_4, .slice A0_5 l0_5.length c0_5, .slice A0_6 l0_6.length c0_6]] rfl mp1 ?_; (with_reducible refine (sawmilllaw17_few.calls k a0_0 a0_1 a0_2 _ _ l0_3 _ _ l0_4 _ _ l0_5 _ _ l0_6 true _ ?side1 ?side2 ?side3 ?side4 ?side5 ?side6 ?side7 ?side8 A5.out).mono ?_); (case side1 => exact cu1 (Kd.C_below HR0_3.out HB.out)); (case side2 => exact HC0_3.out); (case side3 => exact cu1 (Kd.C_below HR0_4.out HB.out)); (case side4 => exact HC0_4.out); (case side5 => exact cu1 (Kd.C_below HR0_5.out HB.out)); (case side6 => exact HC0_5.out); (case side7 => exact cu1 (Kd.C_below HR0_6.out HB.out)); (case side8 => exact HC0_6.out); rintro e w9 ⟨rfl, hb⟩; refine ⟨_, rfl, ?_⟩; have n0_ := Aside0.mk (blk_below (bu BK313.out) hb); have n1_ := Aside0.mk (blk_below (bu BK314.out) hb); have n2_ := Aside0.mk (below_step bl hb); clear BK313; clear BK314; clear HB; have BK313 := n0_; have BK314 := n1_; have HB := n2_; clear n0_ n1_ n2_; (try clear hb); (try clear hb2); (try clear hk); (try clear hi)))
    go_meet
    case rel => exact ⟨_, (decide ((l1.length : Int) > 300)), rs1, H', ⟨by first | omega | exact Nat.le_refl _⟩, ⟨bu BK313.out⟩, ⟨bu BK314.out⟩, ⟨bl⟩⟩
  replace c6 := Bool.eq_false_iff.mpr c6
  subst c6
  have H1 : (sawmilllaw17_CuttingCuts.j0 k l1 true a0_0 a0_1 a0_2 l0_3 l0_4 l0_5 l0_6) = some r := by rw [if_neg (show ¬ (false = true) by decide)] at H; exact H
  clear H
  have H := H1
  clear H1
  have H' := Aside0.mk H
  clear H
  have hnb10 := NB314_313.out
  have hnc10 := NB313_314.out
  have hcz11 := blk_cells BK314.out
  have hfz11 := blk_frozens BK314.out
  go_wp2_with (first | ((with_reducible refine gate_callee (f := 17) rfl ?_); refine goesL_ (some 16) rfl rfl Tryd.func17 (by kernel_rfl) rfl #[.agg #[.int .i64 a0_0, .int .i64 a0_1, .int .i64 a0_2, .slice A0_3 l0_3.length c0_3, .slice A0_4 l0_4.length c0_4, .slice A0_5 l0_5.length c0_5, .slice A0_6 l0_6.length c0_6]] rfl mp1 ?_; (with_reducible refine (sawmilllaw17_few.calls k a0_0 a0_1 a0_2 _ _ l0_3 _ _ l0_4 _ _ l0_5 _ _ l0_6 false _ ?side1 ?side2 ?side3 ?side4 ?side5 ?side6 ?side7 ?side8 A5.out).mono ?_); (case side1 => exact cu1 (Kd.C_below HR0_3.out HB.out)); (case side2 => exact HC0_3.out); (case side3 => exact cu1 (Kd.C_below HR0_4.out HB.out)); (case side4 => exact HC0_4.out); (case side5 => exact cu1 (Kd.C_below HR0_5.out HB.out)); (case side6 => exact HC0_5.out); (case side7 => exact cu1 (Kd.C_below HR0_6.out HB.out)); (case side8 => exact HC0_6.out); rintro e w12 ⟨rfl, hb⟩; refine ⟨_, rfl, ?_⟩; have n0_ := Aside0.mk (blk_below (bu BK313.out) hb); have n1_ := Aside0.mk (blk_below (bu BK314.out) hb); have n2_ := Aside0.mk (below_step bl hb); clear BK313; clear BK314; clear HB; have BK313 := n0_; have BK314 := n1_; have HB := n2_; clear n0_ n1_ n2_; (try clear hb); (try clear hb2); (try clear hk); (try clear hi)))
  go_meet
  case rel => exact ⟨_, (true), rs1, H', ⟨by first | omega | exact Nat.le_refl _⟩, ⟨bu BK313.out⟩, ⟨bu BK314.out⟩, ⟨bl⟩⟩
 clear HC3; (try clear c1); (try clear p2); (try clear c4); (try clear c6); (try clear c7); (try clear c10); (try clear hcz11); (try clear hcz8); (try clear hfz11); (try clear hfz8)
 obtain ⟨kq, x22_2, rfl, HA, HJ2, BK313, BK314, HB⟩ := hcut
 rcases kq with _ | kj2
 · exact absurd HA.out (by simp [sawmilllaw17_CuttingCuts.j0])
 have H := HA.out
 clear HA
 simp only [sawmilllaw17_CuttingCuts.j0] at H
 by_cases c13 : x22_2 = true
 · subst c13
   have H1 : ((sawmilllaw17_awake.f).bind fun t316 => (some t316)) = some r := by rw [if_pos rfl] at H; exact H
   clear H
   have H := H1
   clear H1
   replace H := Option.bind_eq_some_iff.mp H
   obtain ⟨t316, A140, H⟩ := H
   replace H : (some t316) = some r := H
   have A14 := Aside0.mk A140
   clear A140
   obtain rfl := Option.some.inj H
   go_wp2_with (first | ((with_reducible refine gate_callee (f := 18) rfl ?_); refine goesL_ (some 23) rfl rfl Tryd.func18 (by kernel_rfl) rfl #[] rfl mp1 ?_; (with_reducible refine (sawmilllaw17_awake.calls  t316 _ ?side1 A14.out).mono ?_); (case side1 => exact bu BK313.out); rintro e w15 ⟨rfl, hb⟩; refine ⟨_, rfl, ?_⟩; have n0_ := Aside0.mk (blk_below (bu BK313.out) hb); have n1_ := Aside0.mk (blk_below (bu BK314.out) hb); have n2_ := Aside0.mk (below_step bl hb); clear BK313; clear BK314; clear HB; have BK313 := n0_; have BK314 := n1_; have HB := n2_; clear n0_ n1_ n2_; (try clear hb); (try clear hb2); (try clear hk); (try clear hi)))
   go_ret
   exact ⟨fe1, bl⟩
 replace c13 := Bool.eq_false_iff.mpr c13
 subst c13
 have H1 : ((cutting_Cuts.f kj2 a0_0 a0_1 a0_2 l0_3 l0_4 l0_5 l0_6 l1).bind fun bt317 => ((sawmillref17_Cuts.f kj2 a0_0 a0_1 a0_2 l0_3 l0_4 l0_5 l0_6 l1).bind fun bt324 => ((cutting_Value.f kj2 a0_0 a0_1 a0_2 l0_3 l0_4 l0_5 l0_6 l1).bind fun bt331 => ((sawmillref17_Value.f kj2 a0_0 a0_1 a0_2 l0_3 l0_4 l0_5 l0_6 l1).bind fun bt333 => ((sawmillref17_SameSpans.f kj2 bt317.1 bt324.1).bind fun t335 => (if t335 = true then ((sawmillref17_SameSpans.f kj2 bt317.2.1 bt324.2.1).bind fun t336 => (if t336 = true then (if bt317.2.2 = bt324.2.2 then (if bt331.1 = bt333.1 then (if bt331.2 = bt333.2 then ((sawmilllaw17_awake.f).bind fun t337 => (some t337)) else (some false)) else (some false)) else (some false)) else (some false))) else (some false))))))) = some r := by rw [if_neg (show ¬ (false = true) by decide)] at H; exact H
 clear H
 have H := H1
 clear H1
 replace H := Option.bind_eq_some_iff.mp H
 obtain ⟨⟨t317, t320, t323⟩, A160, H⟩ := H
 replace H : ((sawmillref17_Cuts.f kj2 a0_0 a0_1 a0_2 l0_3 l0_4 l0_5 l0_6 l1).bind fun bt324 => ((cutting_Value.f kj2 a0_0 a0_1 a0_2 l0_3 l0_4 l0_5 l0_6 l1).bind fun bt331 => ((sawmillref17_Value.f kj2 a0_0 a0_1 a0_2 l0_3 l0_4 l0_5 l0_6 l1).bind fun bt333 => ((sawmillref17_SameSpans.f kj2 t317 bt324.1).bind fun t335 => (if t335 = true then ((sawmillref17_SameSpans.f kj2 t320 bt324.2.1).bind fun t336 => (if t336 = true then (if t323 = bt324.2.2 then (if bt331.1 = bt333.1 then (if bt331.2 = bt333.2 then ((sawmilllaw17_awake.f).bind fun t337 => (some t337)) else (some false)) else (some false)) else (some false)) else (some false))) else (some false)))))) = some r := H
 have A16 := Aside0.mk A160
 clear A160
 replace H := Option.bind_eq_some_iff.mp H
 obtain ⟨⟨t324, t327, t330⟩, A170, H⟩ := H
 replace H : ((cutting_Value.f kj2 a0_0 a0_1 a0_2 l0_3 l0_4 l0_5 l0_6 l1).bind fun bt331 => ((sawmillref17_Value.f kj2 a0_0 a0_1 a0_2 l0_3 l0_4 l0_5 l0_6 l1).bind fun bt333 => ((sawmillref17_SameSpans.f kj2 t317 t324).bind fun t335 => (if t335 = true then ((sawmillref17_SameSpans.f kj2 t320 t327).bind fun t336 => (if t336 = true then (if t323 = t330 then (if bt331.1 = bt333.1 then (if bt331.2 = bt333.2 then ((sawmilllaw17_awake.f).bind fun t337 => (some t337)) else (some false)) else (some false)) else (some false)) else (some false))) else (some false))))) = some r := H
 have A17 := Aside0.mk A170
 clear A170
 replace H := Option.bind_eq_some_iff.mp H
 obtain ⟨⟨t331, t332⟩, A180, H⟩ := H
 replace H : ((sawmillref17_Value.f kj2 a0_0 a0_1 a0_2 l0_3 l0_4 l0_5 l0_6 l1).bind fun bt333 => ((sawmillref17_SameSpans.f kj2 t317 t324).bind fun t335 => (if t335 = true then ((sawmillref17_SameSpans.f kj2 t320 t327).bind fun t336 => (if t336 = true then (if t323 = t330 then (if t331 = bt333.1 then (if t332 = bt333.2 then ((sawmilllaw17_awake.f).bind fun t337 => (some t337)) else (some false)) else (some false)) else (some false)) else (some false))) else (some false)))) = some r := H
 have A18 := Aside0.mk A180
 clear A180
 replace H := Option.bind_eq_some_iff.mp H
 obtain ⟨⟨t333, t334⟩, A190, H⟩ := H
 replace H : ((sawmillref17_SameSpans.f kj2 t317 t324).bind fun t335 => (if t335 = true then ((sawmillref17_SameSpans.f kj2 t320 t327).bind fun t336 => (if t336 = true then (if t323 = t330 then (if t331 = t333 then (if t332 = t334 then ((sawmilllaw17_awake.f).bind fun t337 => (some t337)) else (some false)) else (some false)) else (some false)) else (some false))) else (some false))) = some r := H
 have A19 := Aside0.mk A190
 clear A190
 replace H := Option.bind_eq_some_iff.mp H
 obtain ⟨t335, A200, H⟩ := H
 replace H : (if t335 = true then ((sawmillref17_SameSpans.f kj2 t320 t327).bind fun t336 => (if t336 = true then (if t323 = t330 then (if t331 = t333 then (if t332 = t334 then ((sawmilllaw17_awake.f).bind fun t337 => (some t337)) else (some false)) else (some false)) else (some false)) else (some false))) else (some false)) = some r := H
 have A20 := Aside0.mk A200
 clear A200
 by_cases c21 : t335 = true
 rotate_left
 · replace c21 := Bool.eq_false_iff.mpr c21
   subst c21
   have H1 : (some false) = some r := by rw [if_neg (show ¬ (false = true) by decide)] at H; exact H
   clear H
   have H := H1
   clear H1
   obtain rfl := Option.some.inj H
   have hnb94 := NB314_313.out
   have hnc94 := NB313_314.out
   have hcz95 := blk_cells BK314.out
   have hfz95 := blk_frozens BK314.out
   go_wp2_with (first | ((with_reducible refine gate_callee (f := 21) rfl ?_); refine goesL_ (some 27) rfl rfl Tryd.func21 (by kernel_rfl) rfl #[.agg #[.int .i64 a0_0, .int .i64 a0_1, .int .i64 a0_2, .slice A0_3 l0_3.length c0_3, .slice A0_4 l0_4.length c0_4, .slice A0_5 l0_5.length c0_5, .slice A0_6 l0_6.length c0_6], .slice A1 l1.length c1] rfl mp1 ?_; (with_reducible refine (cutting_Cuts.calls kj2 a0_0 a0_1 a0_2 _ _ l0_3 _ _ l0_4 _ _ l0_5 _ _ l0_6 _ _ l1 t317 t320 t323 _ ?side1 ?side2 ?side3 ?side4 ?side5 ?side6 ?side7 ?side8 ?side9 ?side10 A16.out).mono ?_); (case side1 => exact cu1 (Kd.C_below HR0_3.out HB.out)); (case side2 => exact HC0_3.out); (case side3 => exact cu1 (Kd.C_below HR0_4.out HB.out)); (case side4 => exact HC0_4.out); (case side5 => exact cu1 (Kd.C_below HR0_5.out HB.out)); (case side6 => exact HC0_5.out); (case side7 => exact cu1 (Kd.C_below HR0_6.out HB.out)); (case side8 => exact HC0_6.out); (case side9 => exact cu1 (Kd.C_below HR1.out HB.out)); (case side10 => exact HC1.out); rintro e w96 ⟨v318, v321, rfl, ho0, ho1, hb⟩; refine ⟨_, rfl, ?_⟩; have n0_ := Aside0.mk (Kd.R_lower ho0 (below_size bl)); have n1_ := Aside0.mk (Kd.R_lower ho1 (below_size bl)); have n2_ := Aside0.mk (blk_below (bu BK313.out) hb); have n3_ := Aside0.mk (blk_below (bu BK314.out) hb); have n4_ := Aside0.mk (below_step bl hb); clear BK313; clear BK314; clear HB; have HO319 := n0_; have HO322 := n1_; have BK313 := n2_; have BK314 := n3_; have HB := n4_; clear n0_ n1_ n2_ n3_ n4_; (try clear hb); (try clear hb2); (try clear hk); (try clear hi); (try clear ho0); (try clear ho1); have hcz97 := blk_cells BK314.out; have hfz97 := blk_frozens BK314.out) | ((with_reducible refine gate_callee (f := 22) rfl ?_); refine goesL_ (some 34) rfl rfl Tryd.func22 (by kernel_rfl) rfl #[.agg #[.int .i64 a0_0, .int .i64 a0_1, .int .i64 a0_2, .slice A0_3 l0_3.length c0_3, .slice A0_4 l0_4.length c0_4, .slice A0_5 l0_5.length c0_5, .slice A0_6 l0_6.length c0_6], .slice A1 l1.length c1] rfl mp1 ?_; (with_reducible refine (sawmillref17_Cuts.calls kj2 a0_0 a0_1 a0_2 _ _ l0_3 _ _ l0_4 _ _ l0_5 _ _ l0_6 _ _ l1 t324 t327 t330 _ ?side1 ?side2 ?side3 ?side4 ?side5 ?side6 ?side7 ?side8 ?side9 ?side10 A17.out).mono ?_); (case side1 => exact cu1 (Kd.C_below HR0_3.out HB.out)); (case side2 => exact HC0_3.out); (case side3 => exact cu1 (Kd.C_below HR0_4.out HB.out)); (case side4 => exact HC0_4.out); (case side5 => exact cu1 (Kd.C_below HR0_5.out HB.out)); (case side6 => exact HC0_5.out); (case side7 => exact cu1 (Kd.C_below HR0_6.out HB.out)); (case side8 => exact HC0_6.out); (case side9 => exact cu1 (Kd.C_below HR1.out HB.out)); (case side10 => exact HC1.out); rintro e w98 ⟨v325, v328, rfl, ho0, ho1, hb⟩; refine ⟨_, rfl, ?_⟩; have n0_ := Aside0.mk (Kd.R_mono (Kd.R_told (Kd.R_told (Kd.R_old (ru HO319.out) hb) (Kd.R_base ho0)) (Kd.R_base ho1)) (fun _ h_ => h_.1)); have n1_ := Aside0.mk (Kd.R_mono (Kd.R_told (Kd.R_told (Kd.R_old (ru HO322.out) hb) (Kd.R_base ho0)) (Kd.R_base ho1)) (fun _ h_ => h_.1)); have n2_ := Aside0.mk (Kd.R_lower (Kd.R_new' (Kd.R_new' ho0 (Kd.R_lt (ru HO319.out))) (Kd.R_lt (ru HO322.out))) (below_size bl)); have n3_ := Aside0.mk (Kd.R_lower (Kd.R_new' (Kd.R_new' ho1 (Kd.R_lt (ru HO319.out))) (Kd.R_lt (ru HO322.out))) (below_size bl)); have n4_ := Aside0.mk (blk_below (bu BK313.out) hb); have n5_ := Aside0.mk (blk_below (bu BK314.out) hb); have n6_ := Aside0.mk (below_step bl hb); clear HO319; clear HO322; clear BK313; clear BK314; clear HB; have HO319 := n0_; have HO322 := n1_; have HO326 := n2_; have HO329 := n3_; have BK313 := n4_; have BK314 := n5_; have HB := n6_; clear n0_ n1_ n2_ n3_ n4_ n5_ n6_; (try clear hb); (try clear hb2); (try clear hk); (try clear hi); (try clear ho0); (try clear ho1); have hcz99 := blk_cells BK314.out; have hfz99 := blk_frozens BK314.out) | ((with_reducible refine gate_callee (f := 23) rfl ?_); refine goesL_ (some 41) rfl rfl Tryd.func23 (by kernel_rfl) rfl #[.agg #[.int .i64 a0_0, .int .i64 a0_1, .int .i64 a0_2, .slice A0_3 l0_3.length c0_3, .slice A0_4 l0_4.length c0_4, .slice A0_5 l0_5.length c0_5, .slice A0_6 l0_6.length c0_6], .slice A1 l1.length c1] rfl mp1 ?_; (with_reducible refine (cutting_Value.calls kj2 a0_0 a0_1 a0_2 _ _ l0_3 _ _ l0_4 _ _ l0_5 _ _ l0_6 _ _ l1 t331 t332 _ ?side1 ?side2 ?side3 ?side4 ?side5 ?side6 ?side7 ?side8 ?side9 ?side10 A18.out).mono ?_); (case side1 => exact cu1 (Kd.C_below HR0_3.out HB.out)); (case side2 => exact HC0_3.out); (case side3 => exact cu1 (Kd.C_below HR0_4.out HB.out)); (case side4 => exact HC0_4.out); (case side5 => exact cu1 (Kd.C_below HR0_5.out HB.out)); (case side6 => exact HC0_5.out); (case side7 => exact cu1 (Kd.C_below HR0_6.out HB.out)); (case side8 => exact HC0_6.out); (case side9 => exact cu1 (Kd.C_below HR1.out HB.out)); (case side10 => exact HC1.out); rintro e w100 ⟨rfl, hb⟩; refine ⟨_, rfl, ?_⟩; have n0_ := Aside0.mk (Kd.R_below (ru HO319.out) hb); have n1_ := Aside0.mk (Kd.R_below (ru HO322.out) hb); have n2_ := Aside0.mk (Kd.R_below (ru HO326.out) hb); have n3_ := Aside0.mk (Kd.R_below (ru HO329.out) hb); have n4_ := Aside0.mk (blk_below (bu BK313.out) hb); have n5_ := Aside0.mk (blk_below (bu BK314.out) hb); have n6_ := Aside0.mk (below_step bl hb); clear HO319; clear HO322; clear HO326; clear HO329; clear BK313; clear BK314; clear HB; have HO319 := n0_; have HO322 := n1_; have HO326 := n2_; have HO329 := n3_; have BK313 := n4_; have BK314 := n5_; have HB := n6_; clear n0_ n1_ n2_ n3_ n4_ n5_ n6_; (try clear hb); (try clear hb2); (try clear hk); (try clear hi); have hcz101 := blk_cells BK314.out; have hfz101 := blk_frozens BK314.out) | ((with_reducible refine gate_callee (f := 24) rfl ?_); refine goesL_ (some 47) rfl rfl Tryd.func24 (by kernel_rfl) rfl #[.agg #[.int .i64 a0_0, .int .i64 a0_1, .int .i64 a0_2, .slice A0_3 l0_3.length c0_3, .slice A0_4 l0_4.length c0_4, .slice A0_5 l0_5.length c0_5, .slice A0_6 l0_6.length c0_6], .slice A1 l1.length c1] rfl mp1 ?_; (with_reducible refine (sawmillref17_Value.calls kj2 a0_0 a0_1 a0_2 _ _ l0_3 _ _ l0_4 _ _ l0_5 _ _ l0_6 _ _ l1 t333 t334 _ ?side1 ?side2 ?side3 ?side4 ?side5 ?side6 ?side7 ?side8 ?side9 ?side10 A19.out).mono ?_); (case side1 => exact cu1 (Kd.C_below HR0_3.out HB.out)); (case side2 => exact HC0_3.out); (case side3 => exact cu1 (Kd.C_below HR0_4.out HB.out)); (case side4 => exact HC0_4.out); (case side5 => exact cu1 (Kd.C_below HR0_5.out HB.out)); (case side6 => exact HC0_5.out); (case side7 => exact cu1 (Kd.C_below HR0_6.out HB.out)); (case side8 => exact HC0_6.out); (case side9 => exact cu1 (Kd.C_below HR1.out HB.out)); (case side10 => exact HC1.out); rintro e w102 ⟨rfl, hb⟩; refine ⟨_, rfl, ?_⟩; have n0_ := Aside0.mk (Kd.R_below (ru HO319.out) hb); have n1_ := Aside0.mk (Kd.R_below (ru HO322.out) hb); have n2_ := Aside0.mk (Kd.R_below (ru HO326.out) hb); have n3_ := Aside0.mk (Kd.R_below (ru HO329.out) hb); have n4_ := Aside0.mk (blk_below (bu BK313.out) hb); have n5_ := Aside0.mk (blk_below (bu BK314.out) hb); have n6_ := Aside0.mk (below_step bl hb); clear HO319; clear HO322; clear HO326; clear HO329; clear BK313; clear BK314; clear HB; have HO319 := n0_; have HO322 := n1_; have HO326 := n2_; have HO329 := n3_; have BK313 := n4_; have BK314 := n5_; have HB := n6_; clear n0_ n1_ n2_ n3_ n4_ n5_ n6_; (try clear hb); (try clear hb2); (try clear hk); (try clear hi); obtain ⟨Ao103, co103, eo103⟩ := Kd.R_slice HO319.out; subst eo103; obtain ⟨Ao104, co104, eo104⟩ := Kd.R_slice HO326.out; subst eo104) | ((with_reducible refine gate_callee (f := 25) rfl ?_); refine goesL_ (some 52) rfl rfl Tryd.func25 (by kernel_rfl) rfl #[.slice Ao103 t317.length co103, .slice Ao104 t324.length co104] rfl mp1 ?_; (with_reducible refine (sawmillref17_SameSpans.calls kj2 _ _ t317 _ _ t324 false _ ?side1 ?side2 ?side3 ?side4 A20.out).mono ?_); (case side1 => repeat (first | exact (Kd.R_reads' HO319.out).2.2 | (with_reducible refine Kd.C_alloc ?_ _) | (with_reducible refine Kd.C_drewN ?_ _) | (with_reducible refine Kd.C_drew ?_))); (case side2 => exact (Kd.R_reads' HO319.out).2.1); (case side3 => repeat (first | exact (Kd.R_reads' HO326.out).2.2 | (with_reducible refine Kd.C_alloc ?_ _) | (with_reducible refine Kd.C_drewN ?_ _) | (with_reducible refine Kd.C_drew ?_))); (case side4 => exact (Kd.R_reads' HO326.out).2.1); rintro e w' ⟨rfl, ⟨nd, rfl⟩⟩; refine ⟨_, rfl, ?_⟩))
   go_ret
   exact ⟨fe1, bl⟩
 subst c21
 have H1 : ((sawmillref17_SameSpans.f kj2 t320 t327).bind fun t336 => (if t336 = true then (if t323 = t330 then (if t331 = t333 then (if t332 = t334 then ((sawmilllaw17_awake.f).bind fun t337 => (some t337)) else (some false)) else (some false)) else (some false)) else (some false))) = some r := by rw [if_pos rfl] at H; exact H
 clear H
 have H := H1
 clear H1
 replace H := Option.bind_eq_some_iff.mp H
 obtain ⟨t336, A220, H⟩ := H
 replace H : (if t336 = true then (if t323 = t330 then (if t331 = t333 then (if t332 = t334 then ((sawmilllaw17_awake.f).bind fun t337 => (some t337)) else (some false)) else (some false)) else (some false)) else (some false)) = some r := H
 have A22 := Aside0.mk A220
 clear A220
 by_cases c23 : t336 = true
 rotate_left
 · replace c23 := Bool.eq_false_iff.mpr c23
   subst c23
   have H1 : (some false) = some r := by rw [if_neg (show ¬ (false = true) by decide)] at H; exact H
   clear H
   have H := H1
   clear H1
   obtain rfl := Option.some.inj H
   have hnb81 := NB314_313.out
   have hnc81 := NB313_314.out
   have hcz82 := blk_cells BK314.out
   have hfz82 := blk_frozens BK314.out
   go_wp2_with (first | ((with_reducible refine gate_callee (f := 21) rfl ?_); refine goesL_ (some 27) rfl rfl Tryd.func21 (by kernel_rfl) rfl #[.agg #[.int .i64 a0_0, .int .i64 a0_1, .int .i64 a0_2, .slice A0_3 l0_3.length c0_3, .slice A0_4 l0_4.length c0_4, .slice A0_5 l0_5.length c0_5, .slice A0_6 l0_6.length c0_6], .slice A1 l1.length c1] rfl mp1 ?_; (with_reducible refine (cutting_Cuts.calls kj2 a0_0 a0_1 a0_2 _ _ l0_3 _ _ l0_4 _ _ l0_5 _ _ l0_6 _ _ l1 t317 t320 t323 _ ?side1 ?side2 ?side3 ?side4 ?side5 ?side6 ?side7 ?side8 ?side9 ?side10 A16.out).mono ?_); (case side1 => exact cu1 (Kd.C_below HR0_3.out HB.out)); (case side2 => exact HC0_3.out); (case side3 => exact cu1 (Kd.C_below HR0_4.out HB.out)); (case side4 => exact HC0_4.out); (case side5 => exact cu1 (Kd.C_below HR0_5.out HB.out)); (case side6 => exact HC0_5.out); (case side7 => exact cu1 (Kd.C_below HR0_6.out HB.out)); (case side8 => exact HC0_6.out); (case side9 => exact cu1 (Kd.C_below HR1.out HB.out)); (case side10 => exact HC1.out); rintro e w83 ⟨v318, v321, rfl, ho0, ho1, hb⟩; refine ⟨_, rfl, ?_⟩; have n0_ := Aside0.mk (Kd.R_lower ho0 (below_size bl)); have n1_ := Aside0.mk (Kd.R_lower ho1 (below_size bl)); have n2_ := Aside0.mk (blk_below (bu BK313.out) hb); have n3_ := Aside0.mk (blk_below (bu BK314.out) hb); have n4_ := Aside0.mk (below_step bl hb); clear BK313; clear BK314; clear HB; have HO319 := n0_; have HO322 := n1_; have BK313 := n2_; have BK314 := n3_; have HB := n4_; clear n0_ n1_ n2_ n3_ n4_; (try clear hb); (try clear hb2); (try clear hk); (try clear hi); (try clear ho0); (try clear ho1); have hcz84 := blk_cells BK314.out; have hfz84 := blk_frozens BK314.out) | ((with_reducible refine gate_callee (f := 22) rfl ?_); refine goesL_ (some 34) rfl rfl Tryd.func22 (by kernel_rfl) rfl #[.agg #[.int .i64 a0_0, .int .i64 a0_1, .int .i64 a0_2, .slice A0_3 l0_3.length c0_3, .slice A0_4 l0_4.length c0_4, .slice A0_5 l0_5.length c0_5, .slice A0_6 l0_6.length c0_6], .slice A1 l1.length c1] rfl mp1 ?_; (with_reducible refine (sawmillref17_Cuts.calls kj2 a0_0 a0_1 a0_2 _ _ l0_3 _ _ l0_4 _ _ l0_5 _ _ l0_6 _ _ l1 t324 t327 t330 _ ?side1 ?side2 ?side3 ?side4 ?side5 ?side6 ?side7 ?side8 ?side9 ?side10 A17.out).mono ?_); (case side1 => exact cu1 (Kd.C_below HR0_3.out HB.out)); (case side2 => exact HC0_3.out); (case side3 => exact cu1 (Kd.C_below HR0_4.out HB.out)); (case side4 => exact HC0_4.out); (case side5 => exact cu1 (Kd.C_below HR0_5.out HB.out)); (case side6 => exact HC0_5.out); (case side7 => exact cu1 (Kd.C_below HR0_6.out HB.out)); (case side8 => exact HC0_6.out); (case side9 => exact cu1 (Kd.C_below HR1.out HB.out)); (case side10 => exact HC1.out); rintro e w85 ⟨v325, v328, rfl, ho0, ho1, hb⟩; refine ⟨_, rfl, ?_⟩; have n0_ := Aside0.mk (Kd.R_mono (Kd.R_told (Kd.R_told (Kd.R_old (ru HO319.out) hb) (Kd.R_base ho0)) (Kd.R_base ho1)) (fun _ h_ => h_.1)); have n1_ := Aside0.mk (Kd.R_mono (Kd.R_told (Kd.R_told (Kd.R_old (ru HO322.out) hb) (Kd.R_base ho0)) (Kd.R_base ho1)) (fun _ h_ => h_.1)); have n2_ := Aside0.mk (Kd.R_lower (Kd.R_new' (Kd.R_new' ho0 (Kd.R_lt (ru HO319.out))) (Kd.R_lt (ru HO322.out))) (below_size bl)); have n3_ := Aside0.mk (Kd.R_lower (Kd.R_new' (Kd.R_new' ho1 (Kd.R_lt (ru HO319.out))) (Kd.R_lt (ru HO322.out))) (below_size bl)); have n4_ := Aside0.mk (blk_below (bu BK313.out) hb); have n5_ := Aside0.mk (blk_below (bu BK314.out) hb); have n6_ := Aside0.mk (below_step bl hb); clear HO319; clear HO322; clear BK313; clear BK314; clear HB; have HO319 := n0_; have HO322 := n1_; have HO326 := n2_; have HO329 := n3_; have BK313 := n4_; have BK314 := n5_; have HB := n6_; clear n0_ n1_ n2_ n3_ n4_ n5_ n6_; (try clear hb); (try clear hb2); (try clear hk); (try clear hi); (try clear ho0); (try clear ho1); have hcz86 := blk_cells BK314.out; have hfz86 := blk_frozens BK314.out) | ((with_reducible refine gate_callee (f := 23) rfl ?_); refine goesL_ (some 41) rfl rfl Tryd.func23 (by kernel_rfl) rfl #[.agg #[.int .i64 a0_0, .int .i64 a0_1, .int .i64 a0_2, .slice A0_3 l0_3.length c0_3, .slice A0_4 l0_4.length c0_4, .slice A0_5 l0_5.length c0_5, .slice A0_6 l0_6.length c0_6], .slice A1 l1.length c1] rfl mp1 ?_; (with_reducible refine (cutting_Value.calls kj2 a0_0 a0_1 a0_2 _ _ l0_3 _ _ l0_4 _ _ l0_5 _ _ l0_6 _ _ l1 t331 t332 _ ?side1 ?side2 ?side3 ?side4 ?side5 ?side6 ?side7 ?side8 ?side9 ?side10 A18.out).mono ?_); (case side1 => exact cu1 (Kd.C_below HR0_3.out HB.out)); (case side2 => exact HC0_3.out); (case side3 => exact cu1 (Kd.C_below HR0_4.out HB.out)); (case side4 => exact HC0_4.out); (case side5 => exact cu1 (Kd.C_below HR0_5.out HB.out)); (case side6 => exact HC0_5.out); (case side7 => exact cu1 (Kd.C_below HR0_6.out HB.out)); (case side8 => exact HC0_6.out); (case side9 => exact cu1 (Kd.C_below HR1.out HB.out)); (case side10 => exact HC1.out); rintro e w87 ⟨rfl, hb⟩; refine ⟨_, rfl, ?_⟩; have n0_ := Aside0.mk (Kd.R_below (ru HO319.out) hb); have n1_ := Aside0.mk (Kd.R_below (ru HO322.out) hb); have n2_ := Aside0.mk (Kd.R_below (ru HO326.out) hb); have n3_ := Aside0.mk (Kd.R_below (ru HO329.out) hb); have n4_ := Aside0.mk (blk_below (bu BK313.out) hb); have n5_ := Aside0.mk (blk_below (bu BK314.out) hb); have n6_ := Aside0.mk (below_step bl hb); clear HO319; clear HO322; clear HO326; clear HO329; clear BK313; clear BK314; clear HB; have HO319 := n0_; have HO322 := n1_; have HO326 := n2_; have HO329 := n3_; have BK313 := n4_; have BK314 := n5_; have HB := n6_; clear n0_ n1_ n2_ n3_ n4_ n5_ n6_; (try clear hb); (try clear hb2); (try clear hk); (try clear hi); have hcz88 := blk_cells BK314.out; have hfz88 := blk_frozens BK314.out) | ((with_reducible refine gate_callee (f := 24) rfl ?_); refine goesL_ (some 47) rfl rfl Tryd.func24 (by kernel_rfl) rfl #[.agg #[.int .i64 a0_0, .int .i64 a0_1, .int .i64 a0_2, .slice A0_3 l0_3.length c0_3, .slice A0_4 l0_4.length c0_4, .slice A0_5 l0_5.length c0_5, .slice A0_6 l0_6.length c0_6], .slice A1 l1.length c1] rfl mp1 ?_; (with_reducible refine (sawmillref17_Value.calls kj2 a0_0 a0_1 a0_2 _ _ l0_3 _ _ l0_4 _ _ l0_5 _ _ l0_6 _ _ l1 t333 t334 _ ?side1 ?side2 ?side3 ?side4 ?side5 ?side6 ?side7 ?side8 ?side9 ?side10 A19.out).mono ?_); (case side1 => exact cu1 (Kd.C_below HR0_3.out HB.out)); (case side2 => exact HC0_3.out); (case side3 => exact cu1 (Kd.C_below HR0_4.out HB.out)); (case side4 => exact HC0_4.out); (case side5 => exact cu1 (Kd.C_below HR0_5.out HB.out)); (case side6 => exact HC0_5.out); (case side7 => exact cu1 (Kd.C_below HR0_6.out HB.out)); (case side8 => exact HC0_6.out); (case side9 => exact cu1 (Kd.C_below HR1.out HB.out)); (case side10 => exact HC1.out); rintro e w89 ⟨rfl, hb⟩; refine ⟨_, rfl, ?_⟩; have n0_ := Aside0.mk (Kd.R_below (ru HO319.out) hb); have n1_ := Aside0.mk (Kd.R_below (ru HO322.out) hb); have n2_ := Aside0.mk (Kd.R_below (ru HO326.out) hb); have n3_ := Aside0.mk (Kd.R_below (ru HO329.out) hb); have n4_ := Aside0.mk (blk_below (bu BK313.out) hb); have n5_ := Aside0.mk (blk_below (bu BK314.out) hb); have n6_ := Aside0.mk (below_step bl hb); clear HO319; clear HO322; clear HO326; clear HO329; clear BK313; clear BK314; clear HB; have HO319 := n0_; have HO322 := n1_; have HO326 := n2_; have HO329 := n3_; have BK313 := n4_; have BK314 := n5_; have HB := n6_; clear n0_ n1_ n2_ n3_ n4_ n5_ n6_; (try clear hb); (try clear hb2); (try clear hk); (try clear hi); obtain ⟨Ao90, co90, eo90⟩ := Kd.R_slice HO319.out; subst eo90; obtain ⟨Ao91, co91, eo91⟩ := Kd.R_slice HO326.out; subst eo91) | ((with_reducible refine gate_callee (f := 25) rfl ?_); refine goesL_ (some 52) rfl rfl Tryd.func25 (by kernel_rfl) rfl #[.slice Ao90 t317.length co90, .slice Ao91 t324.length co91] rfl mp1 ?_; (with_reducible refine (sawmillref17_SameSpans.calls kj2 _ _ t317 _ _ t324 true _ ?side1 ?side2 ?side3 ?side4 A20.out).mono ?_); (case side1 => repeat (first | exact (Kd.R_reads' HO319.out).2.2 | (with_reducible refine Kd.C_alloc ?_ _) | (with_reducible refine Kd.C_drewN ?_ _) | (with_reducible refine Kd.C_drew ?_))); (case side2 => exact (Kd.R_reads' HO319.out).2.1); (case side3 => repeat (first | exact (Kd.R_reads' HO326.out).2.2 | (with_reducible refine Kd.C_alloc ?_ _) | (with_reducible refine Kd.C_drewN ?_ _) | (with_reducible refine Kd.C_drew ?_))); (case side4 => exact (Kd.R_reads' HO326.out).2.1); rintro e w' ⟨rfl, ⟨nd, rfl⟩⟩; refine ⟨_, rfl, ?_⟩; obtain ⟨Ao92, co92, eo92⟩ := Kd.R_slice HO322.out; subst eo92; obtain ⟨Ao93, co93, eo93⟩ := Kd.R_slice HO329.out; subst eo93) | (go_at_call 25; (with_reducible refine (sawmillref17_SameSpans.calls kj2 _ _ t320 _ _ t327 false _ ?side1 ?side2 ?side3 ?side4 A22.out).mono ?_); (case side1 => repeat (first | exact (Kd.R_reads' HO322.out).2.2 | (with_reducible refine Kd.C_alloc ?_ _) | (with_reducible refine Kd.C_drewN ?_ _) | (with_reducible refine Kd.C_drew ?_))); (case side2 => exact (Kd.R_reads' HO322.out).2.1); (case side3 => repeat (first | exact (Kd.R_reads' HO329.out).2.2 | (with_reducible refine Kd.C_alloc ?_ _) | (with_reducible refine Kd.C_drewN ?_ _) | (with_reducible refine Kd.C_drew ?_))); (case side4 => exact (Kd.R_reads' HO329.out).2.1); rintro e w' ⟨rfl, ⟨nd, rfl⟩⟩))
   go_ret
   exact ⟨fe1, bl⟩
 subst c23
 have H1 : (if t323 = t330 then (if t331 = t333 then (if t332 = t334 then ((sawmilllaw17_awake.f).bind fun t337 => (some t337)) else (some false)) else (some false)) else (some false)) = some r := by rw [if_pos rfl] at H; exact H
 clear H
 have H := H1
 clear H1
 by_cases c24 : t323 = t330
 rotate_left
 · rw [if_neg c24] at H
   have c24b0 : (t323 == t330) = false := beq_eq_false_iff_ne.mpr c24
   have c24b1 : (t323 != t330) = true := bne_iff_ne.mpr c24
   obtain rfl := Option.some.inj H
   have hnb68 := NB314_313.out
   have hnc68 := NB313_314.out
   have hcz69 := blk_cells BK314.out
   have hfz69 := blk_frozens BK314.out
   exact L4_0
 rw [if_pos c24] at H
 have c24b0 : (t323 == t330) = true := beq_iff_eq.mpr c24
 have c24b1 : (t323 != t330) = false := bne_eq_false_iff_eq.mpr c24
 clear c24
 by_cases c25 : t331 = t333
 rotate_left
 · rw [if_neg c25] at H
   have c25b0 : (t331 == t333) = false := beq_eq_false_iff_ne.mpr c25
   have c25b1 : (t331 != t333) = true := bne_iff_ne.mpr c25
   obtain rfl := Option.some.inj H
   have hnb55 := NB314_313.out
   have hnc55 := NB313_314.out
   have hcz56 := blk_cells BK314.out
   have hfz56 := blk_frozens BK314.out
   exact L4_0
 rw [if_pos c25] at H
 have c25b0 : (t331 == t333) = true := beq_iff_eq.mpr c25
 have c25b1 : (t331 != t333) = false := bne_eq_false_iff_eq.mpr c25
 clear c25
 by_cases c26 : t332 = t334
 rotate_left
 · rw [if_neg c26] at H
   have c26b0 : (t332 == t334) = false := beq_eq_false_iff_ne.mpr c26
   have c26b1 : (t332 != t334) = true := bne_iff_ne.mpr c26
   obtain rfl := Option.some.inj H
   have hnb42 := NB314_313.out
   have hnc42 := NB313_314.out
   have hcz43 := blk_cells BK314.out
   have hfz43 := blk_frozens BK314.out
   exact L4_0
 rw [if_pos c26] at H
 have c26b0 : (t332 == t334) = true := beq_iff_eq.mpr c26
 have c26b1 : (t332 != t334) = false := bne_eq_false_iff_eq.mpr c26
 clear c26
 replace H := Option.bind_eq_some_iff.mp H
 obtain ⟨t337, A270, H⟩ := H
 replace H : (some t337) = some r := H
 have A27 := Aside0.mk A270
 clear A270
 obtain rfl := Option.some.inj H
 have hnb28 := NB314_313.out
 have hnc28 := NB313_314.out
 have hcz29 := blk_cells BK314.out
 have hfz29 := blk_frozens BK314.out
 go_wp2_with (first | ((with_reducible refine gate_callee (f := 21) rfl ?_); refine goesL_ (some 27) rfl rfl Tryd.func21 (by kernel_rfl) rfl #[.agg #[.int .i64 a0_0, .int .i64 a0_1, .int .i64 a0_2, .slice A0_3 l0_3.length c0_3, .slice A0_4 l0_4.length c0_4, .slice A0_5 l0_5.length c0_5, .slice A0_6 l0_6.length c0_6], .slice A1 l1.length c1] rfl mp1 ?_; (with_reducible refine (cutting_Cuts.calls kj2 a0_0 a0_1 a0_2 _ _ l0_3 _ _ l0_4 _ _ l0_5 _ _ l0_6 _ _ l1 t317 t320 t323 _ ?side1 ?side2 ?side3 ?side4 ?side5 ?side6 ?side7 ?side8 ?side9 ?side10 A16.out).mono ?_); (case side1 => exact cu1 (Kd.C_below HR0_3.out HB.out)); (case side2 => exact HC0_3.out); (case side3 => exact cu1 (Kd.C_below HR0_4.out HB.out)); (case side4 => exact HC0_4.out); (case side5 => exact cu1 (Kd.C_below HR0_5.out HB.out)); (case side6 => exact HC0_5.out); (case side7 => exact cu1 (Kd.C_below HR0_6.out HB.out)); (case side8 => exact HC0_6.out); (case side9 => exact cu1 (Kd.C_below HR1.out HB.out)); (case side10 => exact HC1.out); rintro e w30 ⟨v318, v321, rfl, ho0, ho1, hb⟩; refine ⟨_, rfl, ?_⟩; have n0_ := Aside0.mk (Kd.R_lower ho0 (below_size bl)); have n1_ := Aside0.mk (Kd.R_lower ho1 (below_size bl)); have n2_ := Aside0.mk (blk_below (bu BK313.out) hb); have n3_ := Aside0.mk (blk_below (bu BK314.out) hb); have n4_ := Aside0.mk (below_step bl hb); clear BK313; clear BK314; clear HB; have HO319 := n0_; have HO322 := n1_; have BK313 := n2_; have BK314 := n3_; have HB := n4_; clear n0_ n1_ n2_ n3_ n4_; (try clear hb); (try clear hb2); (try clear hk); (try clear hi); (try clear ho0); (try clear ho1); have hcz31 := blk_cells BK314.out; have hfz31 := blk_frozens BK314.out) | ((with_reducible refine gate_callee (f := 22) rfl ?_); refine goesL_ (some 34) rfl rfl Tryd.func22 (by kernel_rfl) rfl #[.agg #[.int .i64 a0_0, .int .i64 a0_1, .int .i64 a0_2, .slice A0_3 l0_3.length c0_3, .slice A0_4 l0_4.length c0_4, .slice A0_5 l0_5.length c0_5, .slice A0_6 l0_6.length c0_6], .slice A1 l1.length c1] rfl mp1 ?_; (with_reducible refine (sawmillref17_Cuts.calls kj2 a0_0 a0_1 a0_2 _ _ l0_3 _ _ l0_4 _ _ l0_5 _ _ l0_6 _ _ l1 t324 t327 t330 _ ?side1 ?side2 ?side3 ?side4 ?side5 ?side6 ?side7 ?side8 ?side9 ?side10 A17.out).mono ?_); (case side1 => exact cu1 (Kd.C_below HR0_3.out HB.out)); (case side2 => exact HC0_3.out); (case side3 => exact cu1 (Kd.C_below HR0_4.out HB.out)); (case side4 => exact HC0_4.out); (case side5 => exact cu1 (Kd.C_below HR0_5.out HB.out)); (case side6 => exact HC0_5.out); (case side7 => exact cu1 (Kd.C_below HR0_6.out HB.out)); (case side8 => exact HC0_6.out); (case side9 => exact cu1 (Kd.C_below HR1.out HB.out)); (case side10 => exact HC1.out); rintro e w32 ⟨v325, v328, rfl, ho0, ho1, hb⟩; refine ⟨_, rfl, ?_⟩; have n0_ := Aside0.mk (Kd.R_mono (Kd.R_told (Kd.R_told (Kd.R_old (ru HO319.out) hb) (Kd.R_base ho0)) (Kd.R_base ho1)) (fun _ h_ => h_.1)); have n1_ := Aside0.mk (Kd.R_mono (Kd.R_told (Kd.R_told (Kd.R_old (ru HO322.out) hb) (Kd.R_base ho0)) (Kd.R_base ho1)) (fun _ h_ => h_.1)); have n2_ := Aside0.mk (Kd.R_lower (Kd.R_new' (Kd.R_new' ho0 (Kd.R_lt (ru HO319.out))) (Kd.R_lt (ru HO322.out))) (below_size bl)); have n3_ := Aside0.mk (Kd.R_lower (Kd.R_new' (Kd.R_new' ho1 (Kd.R_lt (ru HO319.out))) (Kd.R_lt (ru HO322.out))) (below_size bl)); have n4_ := Aside0.mk (blk_below (bu BK313.out) hb); have n5_ := Aside0.mk (blk_below (bu BK314.out) hb); have n6_ := Aside0.mk (below_step bl hb); clear HO319; clear HO322; clear BK313; clear BK314; clear HB; have HO319 := n0_; have HO322 := n1_; have HO326 := n2_; have HO329 := n3_; have BK313 := n4_; have BK314 := n5_; have HB := n6_; clear n0_ n1_ n2_ n3_ n4_ n5_ n6_; (try clear hb); (try clear hb2); (try clear hk); (try clear hi); (try clear ho0); (try clear ho1); have hcz33 := blk_cells BK314.out; have hfz33 := blk_frozens BK314.out) | ((with_reducible refine gate_callee (f := 23) rfl ?_); refine goesL_ (some 41) rfl rfl Tryd.func23 (by kernel_rfl) rfl #[.agg #[.int .i64 a0_0, .int .i64 a0_1, .int .i64 a0_2, .slice A0_3 l0_3.length c0_3, .slice A0_4 l0_4.length c0_4, .slice A0_5 l0_5.length c0_5, .slice A0_6 l0_6.length c0_6], .slice A1 l1.length c1] rfl mp1 ?_; (with_reducible refine (cutting_Value.calls kj2 a0_0 a0_1 a0_2 _ _ l0_3 _ _ l0_4 _ _ l0_5 _ _ l0_6 _ _ l1 t331 t332 _ ?side1 ?side2 ?side3 ?side4 ?side5 ?side6 ?side7 ?side8 ?side9 ?side10 A18.out).mono ?_); (case side1 => exact cu1 (Kd.C_below HR0_3.out HB.out)); (case side2 => exact HC0_3.out); (case side3 => exact cu1 (Kd.C_below HR0_4.out HB.out)); (case side4 => exact HC0_4.out); (case side5 => exact cu1 (Kd.C_below HR0_5.out HB.out)); (case side6 => exact HC0_5.out); (case side7 => exact cu1 (Kd.C_below HR0_6.out HB.out)); (case side8 => exact HC0_6.out); (case side9 => exact cu1 (Kd.C_below HR1.out HB.out)); (case side10 => exact HC1.out); rintro e w34 ⟨rfl, hb⟩; refine ⟨_, rfl, ?_⟩; have n0_ := Aside0.mk (Kd.R_below (ru HO319.out) hb); have n1_ := Aside0.mk (Kd.R_below (ru HO322.out) hb); have n2_ := Aside0.mk (Kd.R_below (ru HO326.out) hb); have n3_ := Aside0.mk (Kd.R_below (ru HO329.out) hb); have n4_ := Aside0.mk (blk_below (bu BK313.out) hb); have n5_ := Aside0.mk (blk_below (bu BK314.out) hb); have n6_ := Aside0.mk (below_step bl hb); clear HO319; clear HO322; clear HO326; clear HO329; clear BK313; clear BK314; clear HB; have HO319 := n0_; have HO322 := n1_; have HO326 := n2_; have HO329 := n3_; have BK313 := n4_; have BK314 := n5_; have HB := n6_; clear n0_ n1_ n2_ n3_ n4_ n5_ n6_; (try clear hb); (try clear hb2); (try clear hk); (try clear hi); have hcz35 := blk_cells BK314.out; have hfz35 := blk_frozens BK314.out) | ((with_reducible refine gate_callee (f := 24) rfl ?_); refine goesL_ (some 47) rfl rfl Tryd.func24 (by kernel_rfl) rfl #[.agg #[.int .i64 a0_0, .int .i64 a0_1, .int .i64 a0_2, .slice A0_3 l0_3.length c0_3, .slice A0_4 l0_4.length c0_4, .slice A0_5 l0_5.length c0_5, .slice A0_6 l0_6.length c0_6], .slice A1 l1.length c1] rfl mp1 ?_; (with_reducible refine (sawmillref17_Value.calls kj2 a0_0 a0_1 a0_2 _ _ l0_3 _ _ l0_4 _ _ l0_5 _ _ l0_6 _ _ l1 t333 t334 _ ?side1 ?side2 ?side3 ?side4 ?side5 ?side6 ?side7 ?side8 ?side9 ?side10 A19.out).mono ?_); (case side1 => exact cu1 (Kd.C_below HR0_3.out HB.out)); (case side2 => exact HC0_3.out); (case side3 => exact cu1 (Kd.C_below HR0_4.out HB.out)); (case side4 => exact HC0_4.out); (case side5 => exact cu1 (Kd.C_below HR0_5.out HB.out)); (case side6 => exact HC0_5.out); (case side7 => exact cu1 (Kd.C_below HR0_6.out HB.out)); (case side8 => exact HC0_6.out); (case side9 => exact cu1 (Kd.C_below HR1.out HB.out)); (case side10 => exact HC1.out); rintro e w36 ⟨rfl, hb⟩; refine ⟨_, rfl, ?_⟩; have n0_ := Aside0.mk (Kd.R_below (ru HO319.out) hb); have n1_ := Aside0.mk (Kd.R_below (ru HO322.out) hb); have n2_ := Aside0.mk (Kd.R_below (ru HO326.out) hb); have n3_ := Aside0.mk (Kd.R_below (ru HO329.out) hb); have n4_ := Aside0.mk (blk_below (bu BK313.out) hb); have n5_ := Aside0.mk (blk_below (bu BK314.out) hb); have n6_ := Aside0.mk (below_step bl hb); clear HO319; clear HO322; clear HO326; clear HO329; clear BK313; clear BK314; clear HB; have HO319 := n0_; have HO322 := n1_; have HO326 := n2_; have HO329 := n3_; have BK313 := n4_; have BK314 := n5_; have HB := n6_; clear n0_ n1_ n2_ n3_ n4_ n5_ n6_; (try clear hb); (try clear hb2); (try clear hk); (try clear hi); obtain ⟨Ao37, co37, eo37⟩ := Kd.R_slice HO319.out; subst eo37; obtain ⟨Ao38, co38, eo38⟩ := Kd.R_slice HO326.out; subst eo38) | ((with_reducible refine gate_callee (f := 25) rfl ?_); refine goesL_ (some 52) rfl rfl Tryd.func25 (by kernel_rfl) rfl #[.slice Ao37 t317.length co37, .slice Ao38 t324.length co38] rfl mp1 ?_; (with_reducible refine (sawmillref17_SameSpans.calls kj2 _ _ t317 _ _ t324 true _ ?side1 ?side2 ?side3 ?side4 A20.out).mono ?_); (case side1 => repeat (first | exact (Kd.R_reads' HO319.out).2.2 | (with_reducible refine Kd.C_alloc ?_ _) | (with_reducible refine Kd.C_drewN ?_ _) | (with_reducible refine Kd.C_drew ?_))); (case side2 => exact (Kd.R_reads' HO319.out).2.1); (case side3 => repeat (first | exact (Kd.R_reads' HO326.out).2.2 | (with_reducible refine Kd.C_alloc ?_ _) | (with_reducible refine Kd.C_drewN ?_ _) | (with_reducible refine Kd.C_drew ?_))); (case side4 => exact (Kd.R_reads' HO326.out).2.1); rintro e w' ⟨rfl, ⟨nd, rfl⟩⟩; refine ⟨_, rfl, ?_⟩; obtain ⟨Ao39, co39, eo39⟩ := Kd.R_slice HO322.out; subst eo39; obtain ⟨Ao40, co40, eo40⟩ := Kd.R_slice HO329.out; subst eo40) | (go_at_call 25; (with_reducible refine (sawmillref17_SameSpans.calls kj2 _ _ t320 _ _ t327 true _ ?side1 ?side2 ?side3 ?side4 A22.out).mono ?_); (case side1 => repeat (first | exact (Kd.R_reads' HO322.out).2.2 | (with_reducible refine Kd.C_alloc ?_ _) | (with_reducible refine Kd.C_drewN ?_ _) | (with_reducible refine Kd.C_drew ?_))); (case side2 => exact (Kd.R_reads' HO322.out).2.1); (case side3 => repeat (first | exact (Kd.R_reads' HO329.out).2.2 | (with_reducible refine Kd.C_alloc ?_ _) | (with_reducible refine Kd.C_drewN ?_ _) | (with_reducible refine Kd.C_drew ?_))); (case side4 => exact (Kd.R_reads' HO329.out).2.1); rintro e w' ⟨rfl, ⟨nd, rfl⟩⟩) | (go_at_call 18; (with_reducible refine (sawmilllaw17_awake.calls  t337 _ ?side1 A27.out).mono ?_); (case side1 => exact bu BK313.out); rintro e w41 ⟨rfl, hb⟩; have n0_ := Aside0.mk (Kd.R_below (ru HO319.out) hb); have n1_ := Aside0.mk (Kd.R_below (ru HO322.out) hb); have n2_ := Aside0.mk (Kd.R_below (ru HO326.out) hb); have n3_ := Aside0.mk (Kd.R_below (ru HO329.out) hb); have n4_ := Aside0.mk (blk_below (bu BK313.out) hb); have n5_ := Aside0.mk (blk_below (bu BK314.out) hb); have n6_ := Aside0.mk (below_step bl hb); clear HO319; clear HO322; clear HO326; clear HO329; clear BK313; clear BK314; clear HB; have HO319 := n0_; have HO322 := n1_; have HO326 := n2_; have HO329 := n3_; have BK313 := n4_; have BK314 := n5_; have HB := n6_; clear n0_ n1_ n2_ n3_ n4_ n5_ n6_; (try clear hb); (try clear hb2); (try clear hk); (try clear hi)))
 go_ret
 exact ⟨fe1, bl⟩
end Go.Proofs.YtoaicheopcojoaaDoor.P
