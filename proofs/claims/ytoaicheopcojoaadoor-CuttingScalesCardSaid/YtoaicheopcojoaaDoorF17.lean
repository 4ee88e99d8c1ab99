import Derived.Test.YtoaicheopcojoaaDoorSq
namespace Go.Proofs.YtoaicheopcojoaaDoor.P
open Go.RowKit Go.Proofs.YtoaicheopcojoaaDoorW.PrintWords Go.Proofs.YtoaicheopcojoaaDoorW.PrintLast Go.Proofs.YtoaicheopcojoaaDoorW.PrintMore
attribute [local go_sem] max2_int min2_int max_two min_two max_three min_three max_four min_four   -- for this text's walks alone
set_option linter.unusedVariables false
set_option linter.unusedSimpArgs false
/-! ### sawmilllaw17_few: function 17 -/
mutual
def sawmilllaw17_few.j0 : Nat → Bool → Int → Int → Int → List Int → List (List Int) → List Int → List Int → Option (Bool)
  | 0, _, _, _, _, _, _, _, _ => none
  | k + 1, x26, x102000, x102001, x102002, x102003, x102004, x102005, x102006 => if x26 = true then (some false) else (sawmilllaw17_few.l0 k 0 0 x102000 x102001 x102002 x102003 x102004 x102005 x102006)
def sawmilllaw17_few.l0 : Nat → Int → Int → Int → Int → Int → List Int → List (List Int) → List Int → List Int → Option (Bool)
  | 0, _, _, _, _, _, _, _, _, _ => none
  | k + 1, x3, x4, x102000, x102001, x102002, x102003, x102004, x102005, x102006 => if x4 < (x102004.length : Int) then (if 0 ≤ x4 then (if ((rd_L1 x102004 x4).length : Int) > 2100 then (some false) else (sawmilllaw17_few.l0 k (wrap64 (x3 + ((rd_L1 x102004 x4).length : Int))) (wrap64 (x4 + 1)) x102000 x102001 x102002 x102003 x102004 x102005 x102006)) else (none)) else (some (decide (x3 ≤ 20000)))
end
def sawmilllaw17_few.f (k : Nat) (a0_0 : Int) (a0_1 : Int) (a0_2 : Int) (l0_3 : List Int) (l0_4 : List (List Int)) (l0_5 : List Int) (l0_6 : List Int) : Option (Bool) := if (l0_3.length : Int) > 40 then (sawmilllaw17_few.j0 k true a0_0 a0_1 a0_2 l0_3 l0_4 l0_5 l0_6) else (if (l0_4.length : Int) > 40 then (sawmilllaw17_few.j0 k true a0_0 a0_1 a0_2 l0_3 l0_4 l0_5 l0_6) else (if (l0_5.length : Int) > 2100 then (sawmilllaw17_few.j0 k true a0_0 a0_1 a0_2 l0_3 l0_4 l0_5 l0_6) else (sawmilllaw17_few.j0 k (decide ((l0_6.length : Int) > 2100)) a0_0 a0_1 a0_2 l0_3 l0_4 l0_5 l0_6)))
theorem sawmilllaw17_few.mono_l : ∀ k, (∀ y0 y1 y2 y3 y4 y5 y6 y7, LeO (sawmilllaw17_few.j0 k y0 y1 y2 y3 y4 y5 y6 y7) (sawmilllaw17_few.j0 (k + 1) y0 y1 y2 y3 y4 y5 y6 y7)) ∧ (∀ y0 y1 y2 y3 y4 y5 y6 y7 y8, LeO (sawmilllaw17_few.l0 k y0 y1 y2 y3 y4 y5 y6 y7 y8) (sawmilllaw17_few.l0 (k + 1) y0 y1 y2 y3 y4 y5 y6 y7 y8))
  | 0 => ⟨fun _ _ _ _ _ _ _ _ r h => by simp [sawmilllaw17_few.j0] at h, fun _ _ _ _ _ _ _ _ _ r h => by simp [sawmilllaw17_few.l0] at h⟩
  | k + 1 => by
    obtain ⟨ih0, ih1⟩ := sawmilllaw17_few.mono_l k
    refine ⟨?_, ?_⟩
    · intro y0 y1 y2 y3 y4 y5 y6 y7
      unfold sawmilllaw17_few.j0
      repeat' first
      | (with_reducible exact ih0 _ _ _ _ _ _ _ _)
      | (with_reducible exact ih1 _ _ _ _ _ _ _ _ _)
      | (with_reducible exact LeO.refl _)
      | (with_reducible exact LeO.none _)
      | (with_reducible refine LeO.ite ?_ ?_)
      | (with_reducible refine LeO.bind ?_ (fun _ => ?_))
      | exact ih0 _ _ _ _ _ _ _ _
      | exact ih1 _ _ _ _ _ _ _ _ _
      | exact LeO.none _
      | refine LeO.ite ?_ ?_
      | refine LeO.bind ?_ (fun _ => ?_)
    · intro y0 y1 y2 y3 y4 y5 y6 y7 y8
      unfold sawmilllaw17_few.l0
      repeat' first
      | (with_reducible exact ih0 _ _ _ _ _ _ _ _)
      | (with_reducible exact ih1 _ _ _ _ _ _ _ _ _)
      | (with_reducible exact LeO.refl _)
      | (with_reducible exact LeO.none _)
      | (with_reducible refine LeO.ite ?_ ?_)
      | (with_reducible refine LeO.bind ?_ (fun _ => ?_))
      | exact ih0 _ _ _ _ _ _ _ _
      | exact ih1 _ _ _ _ _ _ _ _ _
      | exact LeO.none _
      | refine LeO.ite ?_ ?_
      | refine LeO.bind ?_ (fun _ => ?_)
theorem sawmilllaw17_few.mono : ∀ a0 a1 a2 a3 a4 a5 a6 k, LeO (sawmilllaw17_few.f k a0 a1 a2 a3 a4 a5 a6) (sawmilllaw17_few.f (k + 1) a0 a1 a2 a3 a4 a5 a6) := by
  intro a0 a1 a2 a3 a4 a5 a6 k
  obtain ⟨ih0, ih1⟩ := sawmilllaw17_few.mono_l k
  unfold sawmilllaw17_few.f
  repeat' first
      | (with_reducible exact ih0 _ _ _ _ _ _ _ _)
      | (with_reducible exact ih1 _ _ _ _ _ _ _ _ _)
      | (with_reducible exact LeO.refl _)
      | (with_reducible exact LeO.none _)
      | (with_reducible refine LeO.ite ?_ ?_)
      | (with_reducible refine LeO.bind ?_ (fun _ => ?_))
      | exact ih0 _ _ _ _ _ _ _ _
      | exact ih1 _ _ _ _ _ _ _ _ _
      | exact LeO.none _
      | refine LeO.ite ?_ ?_
      | refine LeO.bind ?_ (fun _ => ?_)
set_option maxHeartbeats 8000000 in
set_option maxRecDepth 100000 in
theorem sawmilllaw17_few.calls (k : Nat) (a0_0 : Int) (a0_1 : Int) (a0_2 : Int) (A0_3 : Option Addr) (c0_3 : Nat) (l0_3 : List Int) (A0_4 : Option Addr) (c0_4 : Nat) (l0_4 : List (List Int)) (A0_5 : Option Addr) (c0_5 : Nat) (l0_5 : List Int) (A0_6 : Option Addr) (c0_6 : Nat) (l0_6 : List Int) (r : Bool) (w : World) (hr0_3 : Kd.C (Kd.int .i64) w A0_3 l0_3.length l0_3) (hc0_3 : l0_3.length ≤ c0_3) (hr0_4 : Kd.C (Kd.slice 3 (Kd.int .i64)) w A0_4 l0_4.length l0_4) (hc0_4 : l0_4.length ≤ c0_4) (hr0_5 : Kd.C (Kd.int .i64) w A0_5 l0_5.length l0_5) (hc0_5 : l0_5.length ≤ c0_5) (hr0_6 : Kd.C (Kd.int .i64) w A0_6 l0_6.length l0_6) (hc0_6 : l0_6.length ≤ c0_6) (h : sawmilllaw17_few.f k a0_0 a0_1 a0_2 l0_3 l0_4 l0_5 l0_6 = some r) :
    Calls Tryd.prog 17 #[.agg #[.int .i64 a0_0, .int .i64 a0_1, .int .i64 a0_2, .slice A0_3 l0_3.length c0_3, .slice A0_4 l0_4.length c0_4, .slice A0_5 l0_5.length c0_5, .slice A0_6 l0_6.length c0_6]] w fun e w' => e = .returned (.bool r) ∧ Below w.heap.size w w' := by
 have hu25 := Tryd.underlying25
 have HR0_3 := Aside0.mk hr0_3
 have HC0_3 := Aside0.mk hc0_3
 clear hr0_3 hc0_3
 have HR0_4 := Aside0.mk hr0_4
 have HC0_4 := Aside0.mk hc0_4
 clear hr0_4 hc0_4
 have HR0_5 := Aside0.mk hr0_5
 have HC0_5 := Aside0.mk hc0_5
 clear hr0_5 hc0_5
 have HR0_6 := Aside0.mk hr0_6
 have HC0_6 := Aside0.mk hc0_6
 clear hr0_6 hc0_6
 have HB := Aside0.mk (Below.refl w.heap.size w)
 have H : (if (l0_3.length : Int) > 40 then (sawmilllaw17_few.j0 k true a0_0 a0_1 a0_2 l0_3 l0_4 l0_5 l0_6) else (if (l0_4.length : Int) > 40 then (sawmilllaw17_few.j0 k true a0_0 a0_1 a0_2 l0_3 l0_4 l0_5 l0_6) else (if (l0_5.length : Int) > 2100 then (sawmilllaw17_few.j0 k true a0_0 a0_1 a0_2 l0_3 l0_4 l0_5 l0_6) else (sawmilllaw17_few.j0 k (decide ((l0_6.length : Int) > 2100)) a0_0 a0_1 a0_2 l0_3 l0_4 l0_5 l0_6)))) = some r := h
 clear h
 have HC2 := Aside0.mk H
 clear H
 go_enter Tryd.func17, Tryd.ntmps17
 go_upto_region 1 with (first | ((with_reducible refine gate_dst (N := 1) rfl ?_); (try (refine gate_guard (by rfl) ?_; dsimp only)); refine bx1 (N := 1) #[.int .i64 a0_0, .int .i64 a0_1, .int .i64 a0_2, .slice A0_3 l0_3.length c0_3, .slice A0_4 l0_4.length c0_4, .slice A0_5 l0_5.length c0_5, .slice A0_6 l0_6.length c0_6] 25 ?_; intro gb101 hg w3 hbox hb; have n0_ := Aside0.mk (below_step bl hb); have n1_ := Aside0.mk (hbox); have n2_ := Aside0.mk ((gs1 : w.heap.size ≤ gb101)); have n3_ := Aside0.mk ((gs1 : w.heap.size ≤ gb101)); clear HB; have HB := n0_; have BK101 := n1_; have GW101 := n2_; have GE101 := n3_; clear n0_ n1_ n2_ n3_; clear hb hbox hg))
 (try simp only [Act.put, List.setIfInBounds_toArray, List.set_cons_zero, List.set_cons_succ])
 go_cut [26] (fun v26 wc => ∃ (kq : Nat) (x26_1 : Bool), v26 = .bool x26_1 ∧ Aside0 (sawmilllaw17_few.j0 kq x26_1 a0_0 a0_1 a0_2 l0_3 l0_4 l0_5 l0_6 = some r) ∧ Aside0 (kq ≤ k) ∧ Aside0 (wc.heap[gb101]? = some (.cells #[.int .i64 a0_0, .int .i64 a0_1, .int .i64 a0_2, (.slice A0_3 l0_3.length c0_3), (.slice A0_4 l0_4.length c0_4), (.slice A0_5 l0_5.length c0_5), (.slice A0_6 l0_6.length c0_6)] 25 (0, 0))) ∧ Aside0 (Below w.heap.size w wc))
 case first =>
  have H := HC2.out
  clear HC2
  by_cases c4 : (l0_3.length : Int) > 40
  · rw [if_pos c4] at H
    have c4b0 : decide (40 < (l0_3.length : Int)) = true := decide_eq_true c4
    have c4b1 : decide (40 < l0_3.length) = true := decide_eq_true (by omega)
    clear c4
    (first | rw [c4b0] | (simp only [i64_w, i32_w]; rw [c4b0]) | skip)
    have H' := Aside0.mk H
    clear H
    have hcz5 := blk_cells BK101.out
    have hfz5 := blk_frozens BK101.out
    go_wp2
    go_meet
    case rel => exact ⟨_, (true), rs1, H', ⟨by first | omega | exact Nat.le_refl _⟩, ⟨bu BK101.out⟩, ⟨bl⟩⟩
  rw [if_neg c4] at H
  have c4b0 : decide (40 < (l0_3.length : Int)) = false := decide_eq_false c4
  have c4b1 : decide (40 < l0_3.length) = false := decide_eq_false (by omega)
  clear c4
  (first | rw [c4b0] | (simp only [i64_w, i32_w]; rw [c4b0]) | skip)
  by_cases c6 : (l0_4.length : Int) > 40
  · rw [if_pos c6] at H
    have c6b0 : decide (40 < (l0_4.length : Int)) = true := decide_eq_true c6
    have c6b1 : decide (40 < l0_4.length) = true := decide_eq_true (by omega)
    clear c6
    have H' := Aside0.mk H
    clear H
    have hcz7 := blk_cells BK101.out
    have hfz7 := blk_frozens BK101.out
    go_wp2
    go_meet
    case rel => exact ⟨_, (true), rs1, H', ⟨by first | omega | exact Nat.le_refl _⟩, ⟨bu BK101.out⟩, ⟨bl⟩⟩
  rw [if_neg c6] at H
  have c6b0 : decide (40 < (l0_4.length : Int)) = false := decide_eq_false c6
  have c6b1 : decide (40 < l0_4.length) = false := decide_eq_false (by omega)
  clear c6
  by_cases c8 : (l0_5.length : Int) > 2100
  · rw [if_pos c8] at H
    have c8b0 : decide (2100 < (l0_5.length : Int)) = true := decide_eq_true c8
    have c8b1 : decide (2100 < l0_5.length) = true := decide_eq_true (by omega)
    clear c8
    have H' := Aside0.mk H
    clear H
    have hcz9 := blk_cells BK101.out
    have hfz9 := blk_frozens BK101.out
    go_wp2
    go_meet
    case rel => exact ⟨_, (true), rs1, H', ⟨by first | omega | exact Nat.le_refl _⟩, ⟨bu BK101.out⟩, ⟨bl⟩⟩
  rw [if_neg c8] at H
  have c8b0 : decide (2100 < (l0_5.length : Int)) = false := decide_eq_false c8
  have c8b1 : decide (2100 < l0_5.length) = false := decide_eq_false (by omega)
  clear c8
  have H' := Aside0.mk H
  clear H
  have hcz10 := blk_cells BK101.out
  have hfz10 := blk_frozens BK101.out
  go_wp2
  go_meet
  case rel => exact ⟨_, (decide ((l0_6.length : Int) > 2100)), rs1, H', ⟨by first | omega | exact Nat.le_refl _⟩, ⟨bu BK101.out⟩, ⟨bl⟩⟩
 clear HC2; (try clear c1); (try clear p2); (try clear c4); (try clear c4b0); (try clear c4b1); (try clear c6); (try clear c6b0); (try clear c6b1); (try clear c8); (try clear c8b0); (try clear c8b1); (try clear hcz10); (try clear hcz5); (try clear hcz7); (try clear hcz9); (try clear hfz10); (try clear hfz5); (try clear hfz7); (try clear hfz9)
 obtain ⟨kq, x26_1, rfl, HA, HJ1, BK101, HB⟩ := hcut
 rcases kq with _ | kj1
 · exact absurd HA.out (by simp [sawmilllaw17_few.j0])
 have H := HA.out
 clear HA
 simp only [sawmilllaw17_few.j0] at H
 by_cases c11 : x26_1 = true
 · subst c11
   have H1 : (some false) = some r := by rw [if_pos rfl] at H; exact H
   clear H
   have H := H1
   clear H1
   obtain rfl := Option.some.inj H
   go_wp2
   go_ret
   exact ⟨fe1, bl⟩
 replace c11 := Bool.eq_false_iff.mpr c11
 subst c11
 have H1 : (sawmilllaw17_few.l0 kj1 0 0 a0_0 a0_1 a0_2 l0_3 l0_4 l0_5 l0_6) = some r := by rw [if_neg (show ¬ (false = true) by decide)] at H; exact H
 clear H
 have H := H1
 clear H1
 have H' := Aside0.mk H
 clear H
 go_wp2
 go_loopg [3, 4] kj1 (fun kq v3 v4 w' => ∃ (x3_2 : Int) (x4_2 : Int), v3 = .int .i64 x3_2 ∧ v4 = .int .i64 x4_2 ∧ Aside0 (sawmilllaw17_few.l0 kq x3_2 x4_2 a0_0 a0_1 a0_2 l0_3 l0_4 l0_5 l0_6 = some r) ∧ Aside0 (kq ≤ kj1) ∧ Aside0 (w'.heap[gb101]? = some (.cells #[.int .i64 a0_0, .int .i64 a0_1, .int .i64 a0_2, (.slice A0_3 l0_3.length c0_3), (.slice A0_4 l0_4.length c0_4), (.slice A0_5 l0_5.length c0_5), (.slice A0_6 l0_6.length c0_6)] 25 (0, 0))) ∧ Aside0 (Below w.heap.size w w'))
 case atStart => exact ⟨(0), (0), rs1, rs1, H', ⟨Nat.le_refl _⟩, ⟨bu BK101.out⟩, ⟨bl⟩⟩
 clear H'; (try clear c1); (try clear p2); (try clear c4); (try clear c4b0); (try clear c4b1); (try clear c6); (try clear c6b0); (try clear c6b1); (try clear c8); (try clear c8b0); (try clear c8b1); (try clear c11); (try clear hcz10); (try clear hcz5); (try clear hcz7); (try clear hcz9); (try clear hfz10); (try clear hfz5); (try clear hfz7); (try clear hfz9); (try clear p2)
 obtain ⟨x3_2, x4_2, rfl, rfl, HA, HK2, BK101, HB⟩ := hrel
 rcases gk with _ | k2
 · exact absurd HA.out (by simp [sawmilllaw17_few.l0])
 have H := HA.out
 clear HA
 simp only [sawmilllaw17_few.l0] at H
 by_cases c12 : x4_2 < (l0_4.length : Int)
 rotate_left
 · rw [if_neg c12] at H
   have c12b0 : decide (x4_2 < (l0_4.length : Int)) = false := decide_eq_false c12
   clear c12
   obtain rfl := Option.some.inj H
   have hcz17 := blk_cells BK101.out
   have hfz17 := blk_frozens BK101.out
   go_wp2
   go_ret
   exact ⟨fe1, bl⟩
 rw [if_pos c12] at H
 have c12b0 : decide (x4_2 < (l0_4.length : Int)) = true := decide_eq_true c12
 clear c12
 obtain ⟨c13, H⟩ := gd1 H
 have c13b0 : decide (0 ≤ x4_2) = true := decide_eq_true c13
 clear c13
 by_cases c14 : ((rd_L1 l0_4 x4_2).length : Int) > 2100
 · rw [if_pos c14] at H
   have c14b0 : decide (2100 < ((rd_L1 l0_4 x4_2).length : Int)) = true := decide_eq_true c14
   have c14b1 : decide (2100 < (rd_L1 l0_4 x4_2).length) = true := decide_eq_true (by omega)
   clear c14
   obtain rfl := Option.some.inj H
   have hcz15 := blk_cells BK101.out
   have hfz15 := blk_frozens BK101.out
   have p102 : 0 ≤ (x4_2 : Int) := da1
   have q102 : x4_2 < (l0_4.length : Int) := da1
   obtain ⟨ad102, A102_0, c102_0, e102, hx102_0, hl102_0, hi102_0⟩ := at_L1 HR0_4.out x4_2 p102 q102
   cases e102
   (try replace hx102_0 := (HB.out.cell (World.block_lt_of_cell? w _ hx102_0)).trans hx102_0)
   have HR102_0 := Aside0.mk hi102_0
   have HC102_0 := Aside0.mk hl102_0
   clear hi102_0 hl102_0
   replace p102 := eq_true p102
   replace q102 := eq_true q102
   go_wp2
   go_ret
   exact ⟨fe1, bl⟩
 rw [if_neg c14] at H
 have c14b0 : decide (2100 < ((rd_L1 l0_4 x4_2).length : Int)) = false := decide_eq_false c14
 have c14b1 : decide (2100 < (rd_L1 l0_4 x4_2).length) = false := decide_eq_false (by omega)
 clear c14
 have H' := Aside0.mk H
 clear H
 have hcz16 := blk_cells BK101.out
 have hfz16 := blk_frozens BK101.out
 have p102 : 0 ≤ (x4_2 : Int) := da1
 have q102 : x4_2 < (l0_4.length : Int) := da1
 obtain ⟨ad102, A102_0, c102_0, e102, hx102_0, hl102_0, hi102_0⟩ := at_L1 HR0_4.out x4_2 p102 q102
 cases e102
 (try replace hx102_0 := (HB.out.cell (World.block_lt_of_cell? w _ hx102_0)).trans hx102_0)
 have HR102_0 := Aside0.mk hi102_0
 have HC102_0 := Aside0.mk hl102_0
 clear hi102_0 hl102_0
 replace p102 := eq_true p102
 replace q102 := eq_true q102
 have p103 : 0 ≤ (x4_2 : Int) := da1
 have q103 : x4_2 < (l0_4.length : Int) := da1
 obtain ⟨ad103, A103_0, c103_0, e103, hx103_0, hl103_0, hi103_0⟩ := at_L1 HR0_4.out x4_2 p103 q103
 obtain rfl : ad102 = ad103 := (by injection e103)
 (try replace hx103_0 := (HB.out.cell (World.block_lt_of_cell? w _ hx103_0)).trans hx103_0)
 have HR103_0 := Aside0.mk hi103_0
 have HC103_0 := Aside0.mk hl103_0
 clear hi103_0 hl103_0
 replace p103 := eq_true p103
 replace q103 := eq_true q103
 have ea_ := Option.some.inj (hx102_0.symm.trans hx103_0)
 injection ea_ with ea_ en_ ec_
 subst ea_
 subst ec_
 clear en_
 go_wp2
 go_roundg k2
 case measure => have := HJ1.out; have := HK2.out; omega
 case rel => exact ⟨(wrap64 (x3_2 + ((rd_L1 l0_4 x4_2).length : Int))), (wrap64 (x4_2 + 1)), rs1, rs1, H', ⟨by have := HJ1.out; have := HK2.out; omega⟩, ⟨bu BK101.out⟩, ⟨bl⟩⟩
end Go.Proofs.YtoaicheopcojoaaDoor.P
