import Derived.Test.YtoaicheopcojoaaDoorSq
import Derived.Test.YtoaicheopcojoaaDoorF51
namespace Go.Proofs.YtoaicheopcojoaaDoor.P
open Go.RowKit Go.Proofs.YtoaicheopcojoaaDoorW.PrintWords Go.Proofs.YtoaicheopcojoaaDoorW.PrintLast Go.Proofs.YtoaicheopcojoaaDoorW.PrintMore
attribute [local go_sem] max2_int min2_int max_two min_two max_three min_three max_four min_four   -- for this text's walks alone
set_option linter.unusedVariables false
set_option linter.unusedSimpArgs false
/-! ### cutting_head: function 50 -/
mutual
def cutting_head.j0 : Nat → Bool → Int → Int → Int → List Int → List (List Int) → List Int → List Int → Option (Int)
  | 0, _, _, _, _, _, _, _, _ => none
  | k + 1, x20, x105000, x105001, x105002, x105003, x105004, x105005, x105006 => if x20 = true then (some 9) else (if (x105003.length : Int) > 32 then (some 4) else (cutting_head.l0 k x105003 (x105003.length : Int) 0))
def cutting_head.l0 : Nat → List Int → Int → Int → Option (Int)
  | 0, _, _, _ => none
  | k + 1, x26, x27, x28 => if x28 < x27 then (if 0 ≤ x28 then (if x28 < (x26.length : Int) then ((cutting_inRange.f (rd x26 x28) 1 2000).bind fun t109 => (if t109 = true then (cutting_head.l0 k x26 x27 (wrap64 (x28 + 1))) else (some 9))) else (none)) else (none)) else (some 0)
end
def cutting_head.f (k : Nat) (a0_0 : Int) (a0_1 : Int) (a0_2 : Int) (l0_3 : List Int) (l0_4 : List (List Int)) (l0_5 : List Int) (l0_6 : List Int) : Option (Int) := (cutting_inRange.f a0_0 0 2000).bind fun t105 => (if t105 = true then ((cutting_inRange.f a0_1 0 20).bind fun t106 => (if t106 = true then ((cutting_inRange.f a0_2 1 2000).bind fun t107 => (cutting_head.j0 k (!t107) a0_0 a0_1 a0_2 l0_3 l0_4 l0_5 l0_6)) else (cutting_head.j0 k true a0_0 a0_1 a0_2 l0_3 l0_4 l0_5 l0_6))) else (cutting_head.j0 k true a0_0 a0_1 a0_2 l0_3 l0_4 l0_5 l0_6))
theorem cutting_head.mono_l : ∀ k, (∀ y0 y1 y2 y3 y4 y5 y6 y7, LeO (cutting_head.j0 k y0 y1 y2 y3 y4 y5 y6 y7) (cutting_head.j0 (k + 1) y0 y1 y2 y3 y4 y5 y6 y7)) ∧ (∀ y0 y1 y2, LeO (cutting_head.l0 k y0 y1 y2) (cutting_head.l0 (k + 1) y0 y1 y2))
  | 0 => ⟨fun _ _ _ _ _ _ _ _ r h => by simp [cutting_head.j0] at h, fun _ _ _ r h => by simp [cutting_head.l0] at h⟩
  | k + 1 => by
    obtain ⟨ih0, ih1⟩ := cutting_head.mono_l k
    refine ⟨?_, ?_⟩
    · intro y0 y1 y2 y3 y4 y5 y6 y7
      unfold cutting_head.j0
      repeat' first
      | (with_reducible exact ih0 _ _ _ _ _ _ _ _)
      | (with_reducible exact ih1 _ _ _)
      | (with_reducible exact LeO.refl _)
      | (with_reducible exact LeO.none _)
      | (with_reducible refine LeO.ite ?_ ?_)
      | (with_reducible refine LeO.bind ?_ (fun _ => ?_))
      | exact ih0 _ _ _ _ _ _ _ _
      | exact ih1 _ _ _
      | exact LeO.none _
      | refine LeO.ite ?_ ?_
      | refine LeO.bind ?_ (fun _ => ?_)
    · intro y0 y1 y2
      unfold cutting_head.l0
      repeat' first
      | (with_reducible exact ih0 _ _ _ _ _ _ _ _)
      | (with_reducible exact ih1 _ _ _)
      | (with_reducible exact LeO.refl _)
      | (with_reducible exact LeO.none _)
      | (with_reducible refine LeO.ite ?_ ?_)
      | (with_reducible refine LeO.bind ?_ (fun _ => ?_))
      | exact ih0 _ _ _ _ _ _ _ _
      | exact ih1 _ _ _
      | exact LeO.none _
      | refine LeO.ite ?_ ?_
      | refine LeO.bind ?_ (fun _ => ?_)
theorem cutting_head.mono : ∀ a0 a1 a2 a3 a4 a5 a6 k, LeO (cutting_head.f k a0 a1 a2 a3 a4 a5 a6) (cutting_head.f (k + 1) a0 a1 a2 a3 a4 a5 a6) := by
  intro a0 a1 a2 a3 a4 a5 a6 k
  obtain ⟨ih0, ih1⟩ := cutting_head.mono_l k
  unfold cutting_head.f
  repeat' first
      | (with_reducible exact ih0 _ _ _ _ _ _ _ _)
      | (with_reducible exact ih1 _ _ _)
      | (with_reducible exact LeO.refl _)
      | (with_reducible exact LeO.none _)
      | (with_reducible refine LeO.ite ?_ ?_)
      | (with_reducible refine LeO.bind ?_ (fun _ => ?_))
      | exact ih0 _ _ _ _ _ _ _ _
      | exact ih1 _ _ _
      | exact LeO.none _
      | refine LeO.ite ?_ ?_
      | refine LeO.bind ?_ (fun _ => ?_)
set_option maxHeartbeats 8000000 in
set_option maxRecDepth 100000 in
theorem cutting_head.calls (k : Nat) (a0_0 : Int) (a0_1 : Int) (a0_2 : Int) (A0_3 : Option Addr) (c0_3 : Nat) (l0_3 : List Int) (A0_4 : Option Addr) (c0_4 : Nat) (l0_4 : List (List Int)) (A0_5 : Option Addr) (c0_5 : Nat) (l0_5 : List Int) (A0_6 : Option Addr) (c0_6 : Nat) (l0_6 : List Int) (r : Int) (w : World) (hr0_3 : Kd.C (Kd.int .i64) w A0_3 l0_3.length l0_3) (hc0_3 : l0_3.length ≤ c0_3) (hr0_4 : Kd.C (Kd.slice 3 (Kd.int .i64)) w A0_4 l0_4.length l0_4) (hc0_4 : l0_4.length ≤ c0_4) (hr0_5 : Kd.C (Kd.int .i64) w A0_5 l0_5.length l0_5) (hc0_5 : l0_5.length ≤ c0_5) (hr0_6 : Kd.C (Kd.int .i64) w A0_6 l0_6.length l0_6) (hc0_6 : l0_6.length ≤ c0_6) (h : cutting_head.f k a0_0 a0_1 a0_2 l0_3 l0_4 l0_5 l0_6 = some r) :
    Calls Tryd.prog 50 #[.agg #[.int .i64 a0_0, .int .i64 a0_1, .int .i64 a0_2, .slice A0_3 l0_3.length c0_3, .slice A0_4 l0_4.length c0_4, .slice A0_5 l0_5.length c0_5, .slice A0_6 l0_6.length c0_6]] w fun e w' => e = .returned (.int .i64 r) ∧ Below w.heap.size w w' := by
 have hu25 := Tryd.underlying25
 have HR0_3 := Aside0.mk hr0_3
 have HC0_3 := Aside0.mk hc0_3
 clear hr0_3 hc0_3
 have HR0_4 := Aside0.mk hr0_4
 have HC0_4 := Aside0.mk hc0_4
 clear hr0_4 hc0_4
 have HR0_5 := Aside0.mk hr0_5
 have HC0_5 := Aside0.mk hc0_5
 clear hr0_5 hc0_5
 have HR0_6 := Aside0.mk hr0_6
 have HC0_6 := Aside0.mk hc0_6
 clear hr0_6 hc0_6
 have HB := Aside0.mk (Below.refl w.heap.size w)
 have H : ((cutting_inRange.f a0_0 0 2000).bind fun t105 => (if t105 = true then ((cutting_inRange.f a0_1 0 20).bind fun t106 => (if t106 = true then ((cutting_inRange.f a0_2 1 2000).bind fun t107 => (cutting_head.j0 k (!t107) a0_0 a0_1 a0_2 l0_3 l0_4 l0_5 l0_6)) else (cutting_head.j0 k true a0_0 a0_1 a0_2 l0_3 l0_4 l0_5 l0_6))) else (cutting_head.j0 k true a0_0 a0_1 a0_2 l0_3 l0_4 l0_5 l0_6))) = some r := h
 clear h
 have HC2 := Aside0.mk H
 clear H
 go_enter Tryd.func50, Tryd.ntmps50
 go_upto_region 1 with (first | ((with_reducible refine gate_dst (N := 1) rfl ?_); refine bx1 (N := 1) #[.int .i64 a0_0, .int .i64 a0_1, .int .i64 a0_2, .slice A0_3 l0_3.length c0_3, .slice A0_4 l0_4.length c0_4, .slice A0_5 l0_5.length c0_5, .slice A0_6 l0_6.length c0_6] 25 ?_; intro gb104 hg w3 hbox hb; have n0_ := Aside0.mk (below_step bl hb); have n1_ := Aside0.mk (hbox); have n2_ := Aside0.mk ((gs1 : w.heap.size ≤ gb104)); have n3_ := Aside0.mk ((gs1 : w.heap.size ≤ gb104)); clear HB; have HB := n0_; have BK104 := n1_; have GW104 := n2_; have GE104 := n3_; clear n0_ n1_ n2_ n3_; clear hb hbox hg))
 (try simp only [Act.put, List.setIfInBounds_toArray, List.set_cons_zero, List.set_cons_succ])
 go_cut [20] (fun v20 wc => ∃ (kq : Nat) (x20_1 : Bool), v20 = .bool x20_1 ∧ Aside0 (cutting_head.j0 kq x20_1 a0_0 a0_1 a0_2 l0_3 l0_4 l0_5 l0_6 = some r) ∧ Aside0 (kq ≤ k) ∧ Aside0 (wc.heap[gb104]? = some (.cells #[.int .i64 a0_0, .int .i64 a0_1, .int .i64 a0_2, (.slice A0_3 l0_3.length c0_3), (.slice A0_4 l0_4.length c0_4), (.slice A0_5 l0_5.length c0_5), (.slice A0_6 l0_6.length c0_6)] 25 (0, 0))) ∧ Aside0 (Below w.heap.size w wc))
 case first =>
  have H := HC2.out
  clear HC2
  replace H := Option.bind_eq_some_iff.mp H
  obtain ⟨t105, A40, H⟩ := H
  replace H : (if t105 = true then ((cutting_inRange.f a0_1 0 20).bind fun t106 => (if t106 = true then ((cutting_inRange.f a0_2 1 2000).bind fun t107 => (cutting_head.j0 k (!t107) a0_0 a0_1 a0_2 l0_3 l0_4 l0_5 l0_6)) else (cutting_head.j0 k true a0_0 a0_1 a0_2 l0_3 l0_4 l0_5 l0_6))) else (cutting_head.j0 k true a0_0 a0_1 a0_2 l0_3 l0_4 l0_5 l0_6)) = some r := H
  have A4 := Aside0.mk A40
  clear A40
  by_cases c5 : t105 = true
  rotate_left
  · replace c5 := Bool.eq_false_iff.mpr c5
    subst c5
    have H1 : (cutting_head.j0 k true a0_0 a0_1 a0_2 l0_3 l0_4 l0_5 l0_6) = some r := by rw [if_neg (show ¬ (false = true) by decide)] at H; exact H
    clear H
    have H := H1
    clear H1
    have H' := Aside0.mk H
    clear H
    have hcz11 := blk_cells BK104.out
    have hfz11 := blk_frozens BK104.out
    go_wp2_with (first | ((with_reducible refine gate_callee (f := 51) rfl ?_); refine goesL_ (some 7) rfl rfl Tryd.func51 (by kernel_rfl) rfl #[.int .i64 a0_0, .int .i64 0, .int .i64 2000] rfl mp1 ?_; (with_reducible refine (cutting_inRange.calls a0_0 0 2000 false _ A4.out).mono ?_); rintro e w' ⟨rfl, ⟨nd, rfl⟩⟩; refine ⟨_, rfl, ?_⟩))
    go_meet
    case rel => exact ⟨_, (true), rs1, H', ⟨by first | omega | exact Nat.le_refl _⟩, ⟨bu BK104.out⟩, ⟨bl⟩⟩
  subst c5
  have H1 : ((cutting_inRange.f a0_1 0 20).bind fun t106 => (if t106 = true then ((cutting_inRange.f a0_2 1 2000).bind fun t107 => (cutting_head.j0 k (!t107) a0_0 a0_1 a0_2 l0_3 l0_4 l0_5 l0_6)) else (cutting_head.j0 k true a0_0 a0_1 a0_2 l0_3 l0_4 l0_5 l0_6))) = some r := by rw [if_pos rfl] at H; exact H
  clear H
  have H := H1
  clear H1
  replace H := Option.bind_eq_some_iff.mp H
  obtain ⟨t106, A60, H⟩ := H
  replace H : (if t106 = true then ((cutting_inRange.f a0_2 1 2000).bind fun t107 => (cutting_head.j0 k (!t107) a0_0 a0_1 a0_2 l0_3 l0_4 l0_5 l0_6)) else (cutting_head.j0 k true a0_0 a0_1 a0_2 l0_3 l0_4 l0_5 l0_6)) = some r := H
  have A6 := Aside0.mk A60
  clear A60
  by_cases c7 : t106 = true
  rotate_left
  · replace c7 := Bool.eq_false_iff.mpr c7
    subst c7
    have H1 : (cutting_head.j0 k true a0_0 a0_1 a0_2 l0_3 l0_4 l0_5 l0_6) = some r := by rw [if_neg (show ¬ (false = true) by decide)] at H; exact H
    clear H
    have H := H1
    clear H1
    have H' := Aside0.mk H
    clear H
    have hcz10 := blk_cells BK104.out
    have hfz10 := blk_frozens BK104.out
    go_wp2_with (first | ((with_reducible refine gate_callee (f := 51) rfl ?_); refine goesL_ (some 7) rfl rfl Tryd.func51 (by kernel_rfl) rfl #[.int .i64 a0_0, .int .i64 0, .int .i64 2000] rfl mp1 ?_; (with_reducible refine (cutting_inRange.calls a0_0 0 2000 true _ A4.out).mono ?_); rintro e w' ⟨rfl, ⟨nd, rfl⟩⟩; refine ⟨_, rfl, ?_⟩) | (go_at_call 51; (with_reducible refine (cutting_inRange.calls a0_1 0 20 false _ A6.out).mono ?_); rintro e w' ⟨rfl, ⟨nd, rfl⟩⟩))
    go_meet
    case rel => exact ⟨_, (true), rs1, H', ⟨by first | omega | exact Nat.le_refl _⟩, ⟨bu BK104.out⟩, ⟨bl⟩⟩
  subst c7
  have H1 : ((cutting_inRange.f a0_2 1 2000).bind fun t107 => (cutting_head.j0 k (!t107) a0_0 a0_1 a0_2 l0_3 l0_4 l0_5 l0_6)) = some r := by rw [if_pos rfl] at H; exact H
  clear H
  have H := H1
  clear H1
  replace H := Option.bind_eq_some_iff.mp H
  obtain ⟨t107, A80, H⟩ := H
  replace H : (cutting_head.j0 k (!t107) a0_0 a0_1 a0_2 l0_3 l0_4 l0_5 l0_6) = some r := H
  have A8 := Aside0.mk A80
  clear A80
  have H' := Aside0.mk H
  clear H
  have hcz9 := blk_cells BK104.out
  have hfz9 := blk_frozens BK104.out
  go_wp2_with (first | ((with_reducible refine gate_callee (f := 51) rfl ?_); refine goesL_ (some 7) rfl rfl Tryd.func51 (by kernel_rfl) rfl #[.int .i64 a0_0, .int .i64 0, .int .i64 2000] rfl mp1 ?_; (with_reducible refine (cutting_inRange.calls a0_0 0 2000 true _ A4.out).mono ?_); rintro e w' ⟨rfl, ⟨nd, rfl⟩⟩; refine ⟨_, rfl, ?_⟩) | (go_at_call 51; (with_reducible refine (cutting_inRange.calls a0_1 0 20 true _ A6.out).mono ?_); rintro e w' ⟨rfl, ⟨nd, rfl⟩⟩) | (go_at_call 51; (with_reducible refine (cutting_inRange.calls a0_2 1 2000 t107 _ A8.out).mono ?_); rintro e w' ⟨rfl, ⟨nd, rfl⟩⟩))
  go_meet
  case rel => exact ⟨_, (!t107), rs1, H', ⟨by first | omega | exact Nat.le_refl _⟩, ⟨bu BK104.out⟩, ⟨bl⟩⟩
 clear HC2; (try clear p2); (try clear c5); (try clear c7); (try clear hcz10); (try clear hcz11); (try clear hcz9); (try clear hfz10); (try clear hfz11); (try clear hfz9)
 obtain ⟨kq, x20_1, rfl, HA, HJ1, BK104, HB⟩ := hcut
 rcases kq with _ | kj1
 · exact absurd HA.out (by simp [cutting_head.j0])
 have H := HA.out
 clear HA
 simp only [cutting_head.j0] at H
 by_cases c12 : x20_1 = true
 · subst c12
   have H1 : (some 9) = some r := by rw [if_pos rfl] at H; exact H
   clear H
   have H := H1
   clear H1
   obtain rfl := Option.some.inj H
   go_wp2
   go_ret
   exact ⟨fe1, bl⟩
 replace c12 := Bool.eq_false_iff.mpr c12
 subst c12
 have H1 : (if (l0_3.length : Int) > 32 then (some 4) else (cutting_head.l0 kj1 l0_3 (l0_3.length : Int) 0)) = some r := by rw [if_neg (show ¬ (false = true) by decide)] at H; exact H
 clear H
 have H := H1
 clear H1
 by_cases c13 : (l0_3.length : Int) > 32
 · rw [if_pos c13] at H
   have c13b0 : decide (32 < (l0_3.length : Int)) = true := decide_eq_true c13
   have c13b1 : decide (32 < l0_3.length) = true := decide_eq_true (by omega)
   clear c13
   obtain rfl := Option.some.inj H
   have hcz14 := blk_cells BK104.out
   have hfz14 := blk_frozens BK104.out
   go_wp2
   go_ret
   exact ⟨fe1, bl⟩
 rw [if_neg c13] at H
 have c13b0 : decide (32 < (l0_3.length : Int)) = false := decide_eq_false c13
 have c13b1 : decide (32 < l0_3.length) = false := decide_eq_false (by omega)
 clear c13
 have H' := Aside0.mk H
 clear H
 have hcz15 := blk_cells BK104.out
 have hfz15 := blk_frozens BK104.out
 go_wp2
 go_loopg [28] kj1 (fun kq v28 w' => ∃ (x28_2 : Int), v28 = .int .i64 x28_2 ∧ Aside0 (cutting_head.l0 kq l0_3 (l0_3.length : Int) x28_2 = some r) ∧ Aside0 (kq ≤ kj1) ∧ Aside0 (w'.heap[gb104]? = some (.cells #[.int .i64 a0_0, .int .i64 a0_1, .int .i64 a0_2, (.slice A0_3 l0_3.length c0_3), (.slice A0_4 l0_4.length c0_4), (.slice A0_5 l0_5.length c0_5), (.slice A0_6 l0_6.length c0_6)] 25 (0, 0))) ∧ Aside0 (Below w.heap.size w w'))
 case atStart => exact ⟨(0), rs1, H', ⟨Nat.le_refl _⟩, ⟨bu BK104.out⟩, ⟨bl⟩⟩
 clear H'; (try clear c1); (try clear p2); (try clear c5); (try clear c7); (try clear c12); (try clear c13); (try clear c13b0); (try clear c13b1); (try clear hcz10); (try clear hcz11); (try clear hcz14); (try clear hcz15); (try clear hcz9); (try clear hfz10); (try clear hfz11); (try clear hfz14); (try clear hfz15); (try clear hfz9); (try clear p2)
 obtain ⟨x28_2, rfl, HA, HK2, BK104, HB⟩ := hrel
 rcases gk with _ | k2
 · exact absurd HA.out (by simp [cutting_head.l0])
 have H := HA.out
 clear HA
 simp only [cutting_head.l0] at H
 by_cases c16 : x28_2 < (l0_3.length : Int)
 rotate_left
 · rw [if_neg c16] at H
   have c16b0 : decide (x28_2 < (l0_3.length : Int)) = false := decide_eq_false c16
   clear c16
   obtain rfl := Option.some.inj H
   go_wp2
   go_ret
   exact ⟨fe1, bl⟩
 rw [if_pos c16] at H
 have c16b0 : decide (x28_2 < (l0_3.length : Int)) = true := decide_eq_true c16
 clear c16
 obtain ⟨c17, H⟩ := gd1 H
 have c17b0 : decide (0 ≤ x28_2) = true := decide_eq_true c17
 clear c17
 obtain ⟨c18, H⟩ := gd1 H
 have c18b0 : decide (x28_2 < (l0_3.length : Int)) = true := decide_eq_true c18
 clear c18
 replace H := Option.bind_eq_some_iff.mp H
 obtain ⟨t109, A190, H⟩ := H
 replace H : (if t109 = true then (cutting_head.l0 k2 l0_3 (l0_3.length : Int) (wrap64 (x28_2 + 1))) else (some 9)) = some r := H
 have A19 := Aside0.mk A190
 clear A190
 by_cases c20 : t109 = true
 rotate_left
 · replace c20 := Bool.eq_false_iff.mpr c20
   subst c20
   have H1 : (some 9) = some r := by rw [if_neg (show ¬ (false = true) by decide)] at H; exact H
   clear H
   have H := H1
   clear H1
   obtain rfl := Option.some.inj H
   have p108 : 0 ≤ (x28_2 : Int) := da1
   have q108 : x28_2 < (l0_3.length : Int) := da1
   obtain ⟨ad108, e108, hx108_0⟩ := Kd.at_int HR0_3.out x28_2 p108 q108
   cases e108
   (try replace hx108_0 := (HB.out.cell (World.block_lt_of_cell? w _ hx108_0)).trans hx108_0)
   replace p108 := eq_true p108
   replace q108 := eq_true q108
   go_wp2_with (first | ((with_reducible refine gate_callee (f := 51) rfl ?_); refine goesL_ (some 33) rfl rfl Tryd.func51 (by kernel_rfl) rfl #[.int .i64 (rd l0_3 x28_2), .int .i64 1, .int .i64 2000] rfl mp1 ?_; (with_reducible refine (cutting_inRange.calls (rd l0_3 x28_2) 1 2000 false _ A19.out).mono ?_); rintro e w' ⟨rfl, ⟨nd, rfl⟩⟩; refine ⟨_, rfl, ?_⟩))
   go_ret
   exact ⟨fe1, bl⟩
 subst c20
 have H1 : (cutting_head.l0 k2 l0_3 (l0_3.length : Int) (wrap64 (x28_2 + 1))) = some r := by rw [if_pos rfl] at H; exact H
 clear H
 have H := H1
 clear H1
 have H' := Aside0.mk H
 clear H
 have p108 : 0 ≤ (x28_2 : Int) := da1
 have q108 : x28_2 < (l0_3.length : Int) := da1
 obtain ⟨ad108, e108, hx108_0⟩ := Kd.at_int HR0_3.out x28_2 p108 q108
 cases e108
 (try replace hx108_0 := (HB.out.cell (World.block_lt_of_cell? w _ hx108_0)).trans hx108_0)
 replace p108 := eq_true p108
 replace q108 := eq_true q108
 go_wp2_with (first | ((with_reducible refine gate_callee (f := 51) rfl ?_); refine goesL_ (some 33) rfl rfl Tryd.func51 (by kernel_rfl) rfl #[.int .i64 (rd l0_3 x28_2), .int .i64 1, .int .i64 2000] rfl mp1 ?_; (with_reducible refine (cutting_inRange.calls (rd l0_3 x28_2) 1 2000 true _ A19.out).mono ?_); rintro e w' ⟨rfl, ⟨nd, rfl⟩⟩; refine ⟨_, rfl, ?_⟩))
 go_roundg k2
 case measure => have := HJ1.out; have := HK2.out; omega
 case rel => exact ⟨(wrap64 (x28_2 + 1)), rs1, H', ⟨by have := HJ1.out; have := HK2.out; omega⟩, ⟨bu BK104.out⟩, ⟨bl⟩⟩
end Go.Proofs.YtoaicheopcojoaaDoor.P
