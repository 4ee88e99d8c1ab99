import Derived.Test.YtoaicheopcojoaaDoorSq
namespace Go.Proofs.YtoaicheopcojoaaDoor.P
open Go.RowKit Go.Proofs.YtoaicheopcojoaaDoorW.PrintWords Go.Proofs.YtoaicheopcojoaaDoorW.PrintLast Go.Proofs.YtoaicheopcojoaaDoorW.PrintMore
attribute [local go_sem] max2_int min2_int max_two min_two max_three min_three max_four min_four   -- for this text's walks alone
set_option linter.unusedVariables false
set_option linter.unusedSimpArgs false
/-! ### sawmillref17_prefix: function 57 -/
def sawmillref17_prefix.l0 : Nat → List Int → List Int → Int → Option (List Int)
  | 0, _, _, _ => none
  | k + 1, x0, x3, x4 => if x4 < (x0.length : Int) then (if 0 ≤ x4 then (if x4 < (x3.length : Int) then (if x3.length < 17592186044416 then (sawmillref17_prefix.l0 k x0 (x3 ++ [wrap64 ((rd x3 x4) + (rd x0 x4))]) (wrap64 (x4 + 1))) else (none)) else (none)) else (none)) else (some x3)
def sawmillref17_prefix.f (k : Nat) (l0 : List Int) : Option (List Int) := sawmillref17_prefix.l0 k l0 (([0] : List Int)) 0
theorem sawmillref17_prefix.mono_l : ∀ k, (∀ y0 y1 y2, LeO (sawmillref17_prefix.l0 k y0 y1 y2) (sawmillref17_prefix.l0 (k + 1) y0 y1 y2))
  | 0 => fun _ _ _ r h => by simp [sawmillref17_prefix.l0] at h
  | k + 1 => by
    have ih0 := sawmillref17_prefix.mono_l k
    · intro y0 y1 y2
      unfold sawmillref17_prefix.l0
      repeat' first
      | (with_reducible exact ih0 _ _ _)
      | (with_reducible exact LeO.refl _)
      | (with_reducible exact LeO.none _)
      | (with_reducible refine LeO.ite ?_ ?_)
      | (with_reducible refine LeO.bind ?_ (fun _ => ?_))
      | exact ih0 _ _ _
      | exact LeO.none _
      | refine LeO.ite ?_ ?_
      | refine LeO.bind ?_ (fun _ => ?_)
theorem sawmillref17_prefix.mono : ∀ a0 k, LeO (sawmillref17_prefix.f k a0) (sawmillref17_prefix.f (k + 1) a0) := by
  intro a0 k
  have ih0 := sawmillref17_prefix.mono_l k
  unfold sawmillref17_prefix.f
  repeat' first
      | (with_reducible exact ih0 _ _ _)
      | (with_reducible exact LeO.refl _)
      | (with_reducible exact LeO.none _)
      | (with_reducible refine LeO.ite ?_ ?_)
      | (with_reducible refine LeO.bind ?_ (fun _ => ?_))
      | exact ih0 _ _ _
      | exact LeO.none _
      | refine LeO.ite ?_ ?_
      | refine LeO.bind ?_ (fun _ => ?_)
def sawmillref17_prefix.T5 : Bool × List (List Nat × List Nat) := (true, [([], []), ([], []), ([], []), ([1, 2], [1, 2]), ([3], [3]), ([], []), ([], []), ([5, 6], [5, 6]), ([7], [7]), ([4, 8], [4, 8]), ([9], [9]), ([0, 10], [0, 10]), ([11, 11, 0, 1, 2, 3, 4, 5, 6, 7, 8, 9, 10, 11], [0, 1, 11])])
def sawmillref17_prefix.B5 : List Nat := [0, 0, 0, 6, 14, 0, 0, 96, 224, 510, 1022, 2047, 4095]
theorem sawmillref17_prefix.tab5 : rtab .any (opsOf Tryd.f57 5) = sawmillref17_prefix.T5 := by kernel_rfl
theorem sawmillref17_prefix.bits5 : waitsOk sawmillref17_prefix.T5.2 sawmillref17_prefix.B5 = true := by kernel_rfl
set_option maxHeartbeats 8000000 in
set_option maxRecDepth 100000 in
theorem sawmillref17_prefix.calls (k : Nat) (A0 : Option Addr) (c0 : Nat) (l0 : List Int) (r : List Int) (w : World) (hr0 : Kd.C (Kd.int .i64) w A0 l0.length l0) (hc0 : l0.length ≤ c0) (h : sawmillref17_prefix.f k l0 = some r) :
    Calls Tryd.prog 57 #[.slice A0 l0.length c0] w fun e w' => ∃ v0_ : Value, e = .returned (v0_) ∧ Kd.R (Kd.int .i64) 3 w' w.heap.size (fun _ => True) v0_ r ∧ Below w.heap.size w w' := by
 have HR0 := Aside0.mk hr0
 have HC0 := Aside0.mk hc0
 clear hr0 hc0
 have HB := Aside0.mk (Below.refl w.heap.size w)
 have H : (sawmillref17_prefix.l0 k l0 (([0] : List Int)) 0) = some r := h
 clear h
 obtain ⟨y291, hy291⟩ : ∃ y_ : List Int, y_ = (([0] : List Int)) := ⟨_, rfl⟩
 replace H : (sawmillref17_prefix.l0 k l0 y291 0) = some r := by first | (rw [hy291]; with_reducible exact H) | (have H2_ := (Option.bind_some _ _).symm.trans H; rw [hy291]; with_reducible exact H2_) | (have H2_ := (Option.bind_some _ _).symm.trans H; with_reducible exact H2_) | with_reducible exact H | (rw [hy291]; exact H) | exact H
 have Ny291 := Aside0.mk hy291
 clear hy291
 have H' := Aside0.mk H
 clear H
 go_enter Tryd.func57, Tryd.ntmps57
 go_wp2_with (first | ((with_reducible refine gate_dst (N := 5) rfl ?_); refine Kd.R_lit (Kd.int .i64) _ 3 ?hg (N := 5) ?hd (xs := ([0] : List Int)) (inner := [.int .i64 0]) (ok := fun _ => True) (okp := fun _ => True) ?hr ?hp (fun _ hk => hk) trivial (Below.refl _ _) (Nat.le_refl _) (by simp) ?_; (case hd => rfl); (case hg => rfl); (case hr => first | (go_simp; done) | (go_simp; rfl)); (case hp => exact (Reps.one (show Kd.M (Kd.int .i64) _ _ _ 0 [.int .i64 0] from rfl) (Reps.none _ _))); intro v292 w2 ho3 hb hg_ hnew_; clear hg_ hnew_; (first | rw [← Ny291.out] at ho3 | (simp only [Int.reduceToNat] at ho3; rw [← Ny291.out] at ho3)); have n0_ := Aside0.mk (Kd.R_lower ho3 (below_size bl)); have n1_ := Aside0.mk (below_step bl hb); clear HB; have HO293 := n0_; have HB := n1_; clear n0_ n1_; clear hb ho3))
 go_loopg [3, 4] k (fun kq v3 v4 w' => ∃ (x3_1 : List Int) (x4_1 : Int), v4 = .int .i64 x4_1 ∧ Aside0 (sawmillref17_prefix.l0 kq l0 x3_1 x4_1 = some r) ∧ Aside0 (kq ≤ k) ∧ Aside0 (Kd.R (Kd.int .i64) 3 w' w.heap.size (fun _ => True) v3 x3_1) ∧ Aside0 (Below w.heap.size w w'))
 case atStart => exact ⟨(y291), (0), rs1, H', ⟨Nat.le_refl _⟩, ⟨by (with_reducible repeat (first | apply Kd.R_alloc | apply Kd.R_drewN | apply Kd.R_drew)); exact HO293.out⟩, ⟨bl⟩⟩
 clear H'; (try clear p2)
 obtain ⟨x3_1, x4_1, rfl, HA, HK1, HO_3, HB⟩ := hrel
 rcases gk with _ | k1
 · exact absurd HA.out (by simp [sawmillref17_prefix.l0])
 have H := HA.out
 clear HA
 simp only [sawmillref17_prefix.l0] at H
 by_cases c4 : x4_1 < (l0.length : Int)
 rotate_left
 · rw [if_neg c4] at H
   have c4b0 : decide (x4_1 < (l0.length : Int)) = false := decide_eq_false c4
   clear c4
   obtain rfl := Option.some.inj H
   go_wp2
   go_ret
   exact ⟨_, fe1, by (with_reducible repeat (first | apply Kd.R_alloc | apply Kd.R_drewN | apply Kd.R_drew)); exact HO_3.out, bl⟩
 rw [if_pos c4] at H
 have c4b0 : decide (x4_1 < (l0.length : Int)) = true := decide_eq_true c4
 clear c4
 obtain ⟨c5, H⟩ := gd1 H
 have c5b0 : decide (0 ≤ x4_1) = true := decide_eq_true c5
 clear c5
 obtain ⟨c6, H⟩ := gd1 H
 have c6b0 : decide (x4_1 < (x3_1.length : Int)) = true := decide_eq_true c6
 clear c6
 obtain ⟨c7, H⟩ := gd1 H
 have LMc7 := Aside0.mk c7
 clear c7
 obtain ⟨y296, hy296⟩ : ∃ y_ : List Int, y_ = (x3_1 ++ [wrap64 ((rd x3_1 x4_1) + (rd l0 x4_1))]) := ⟨_, rfl⟩
 replace H : (sawmillref17_prefix.l0 k1 l0 y296 (wrap64 (x4_1 + 1))) = some r := by first | (rw [hy296]; with_reducible exact H) | (have H2_ := (Option.bind_some _ _).symm.trans H; rw [hy296]; with_reducible exact H2_) | (have H2_ := (Option.bind_some _ _).symm.trans H; with_reducible exact H2_) | with_reducible exact H | (rw [hy296]; exact H) | exact H
 have Ny296 := Aside0.mk hy296
 clear hy296
 have H' := Aside0.mk H
 clear H
 try go_wp2
 have n0_ := Aside0.mk (Kd.R_drew HO_3.out)
 have n1_ := Aside0.mk (below_drew1 HB.out)
 clear HO_3; clear HB
 have HO_3 := n0_
 have HB := n1_
 clear n0_ n1_
 obtain ⟨Ao9, co9, eo9⟩ := Kd.R_slice HO_3.out
 (first | subst eo9 | (injection eo9 with f1_ f2_ f3_; have f4_ := f1_.symm; have f5_ := f3_.symm; clear f1_ f2_ f3_; subst f4_; subst f5_))
 have p294 : 0 ≤ (x4_1 : Int) := da1
 have q294 : x4_1 < (x3_1.length : Int) := da1
 obtain ⟨ad294, e294, hx294_0⟩ := Kd.at_int (Kd.R_reads' HO_3.out).2.2 x4_1 p294 q294
 cases e294
 replace p294 := eq_true p294
 replace q294 := eq_true q294
 have p295 : 0 ≤ (x4_1 : Int) := da1
 have q295 : x4_1 < (l0.length : Int) := da1
 obtain ⟨ad295, e295, hx295_0⟩ := Kd.at_int HR0.out x4_1 p295 q295
 have hw295_0 := hx295_0
 cases e295
 (try replace hx295_0 := (HB.out.cell (World.block_lt_of_cell? w _ hx295_0)).trans hx295_0)
 replace p295 := eq_true p295
 replace q295 := eq_true q295
 refine start_ (n := 13) (S := fun w' => w'.cell? (ad294.add (x4_1).toNat) = some (.int .i64 (rd x3_1 x4_1)) ∧ w'.cell? (ad295.add (x4_1).toNat) = some (.int .i64 (rd l0 x4_1))) (ds := [10, 11]) #[false, false, false, false, false, false, false, false, false, false, false, false, false] (by kernel_rfl) rfl rfl ⟨hx294_0, ((HB.out.cell (World.block_lt_of_cell? w _ hw295_0)).trans hw295_0)⟩ (fun hHeld => ?_); refine with_tabW sawmillref17_prefix.tab5 sawmillref17_prefix.bits5 (fun HT_ HW_ => ?_)
 generalize wr.drew = w8 at HO_3 HB hx294_0 hx295_0 hHeld ⊢
 refine pu1 0 (some 12) #[true, false, false, false, false, false, false, false, false, false, false, false, false] ?_
 refine pu1 1 (some 13) #[true, true, false, false, false, false, false, false, false, false, false, false, false] ?_
 refine pu1 2 (some 14) #[true, true, true, false, false, false, false, false, false, false, false, false, false] ?_
 refine pu1 3 (some 15) #[true, true, true, true, false, false, false, false, false, false, false, false, false] ?_
 refine pu1 5 (some 17) #[true, true, true, true, false, true, false, false, false, false, false, false, false] ?_
 refine pu1 6 (some 18) #[true, true, true, true, false, true, true, false, false, false, false, false, false] ?_
 refine pu1 7 (some 19) #[true, true, true, true, false, true, true, true, false, false, false, false, false] ?_
 refine ta1 4 (some 16) #[true, true, true, true, true, true, true, true, false, false, false, false, false] ?_
 refine ta1 8 (some 20) #[true, true, true, true, true, true, true, true, true, false, false, false, false] ?_
 refine pu1 9 (some 21) #[true, true, true, true, true, true, true, true, true, true, false, false, false] ?_
 refine last_ (i := 10) (N := some 22) #[true, true, true, true, true, true, true, true, true, true, true, false, false] rfl rfl (one_of HT_.out (by kernel_rfl)) (by decide) (fun K hK => ?_)
 refine value_ (w1 := ?_) (v := ?_) (by rfl) rfl ?_ ?_
 rotate_left 2
 · go_simp
   constructor
   · rfl
   · rfl
 refine hK.out _ _ ?_
 clear hK K
 refine norm_ (a' := ?_) ?_ ?_
 rotate_left
 · show Act.put _ (some 22) _ = _
   simp only [Act.put, List.setIfInBounds_toArray, List.set_cons_zero, List.set_cons_succ, i64_w, i32_w]
   rfl
 refine last_ (i := 11) (N := some 23) #[true, true, true, true, true, true, true, true, true, true, true, true, false] rfl rfl (one_of HT_.out (by kernel_rfl)) (by decide) (fun K hK => ?_)
 refine Kd.R_append_step (Kd.int .i64) (w0 := w) w.heap.size (by rfl) (.tmp 12) (.tmp 22) 22 3 (.int .i64 0) 8 rfl Tryd.underlying22 info3 rfl (by decide) (by omega) (.slice (some ad294) x3_1.length co9) x3_1 (wrap64 ((rd x3_1 x4_1) + (rd l0 x4_1))) [.int .i64 (wrap64 ((rd x3_1 x4_1) + (rd l0 x4_1)))] (fun _ => True) (fun _ => False) rfl rfl ?aP (fun _ hk => hk.elim) ?aF ?aO ?aB ?aS ?aL ?_
 (case aP => exact rfl)
 (case aB => exact bl)
 (case aF => exact (fun _ _ => trivial))
 (case aO => exact (ru HO_3.out))
 (case aS => exact (below_size bl))
 (case aL => have := LMc7.out; omega)
 intro v297 w10 ho hb hg hat
 rw [← Ny296.out] at ho
 have n0_ := Aside0.mk (hb)
 have n1_ := Aside0.mk (ho)
 clear HB; clear HO_3
 have HB := n0_
 have HO298 := n1_
 clear n0_ n1_; clear ho hb hg hat
 refine hK.out _ _ ?_
 clear hK K
 refine norm_ (a' := ?_) ?_ ?_
 rotate_left
 · show Act.put _ (some 23) _ = _
   simp only [Act.put, List.setIfInBounds_toArray, List.set_cons_zero, List.set_cons_succ, i64_w, i32_w]
   rfl
 refine pu1 12 (some 3) #[true, true, true, true, true, true, true, true, true, true, true, true, true] ?_
 refine done_ (done_of HT_.out (by kernel_rfl)) ?_
 try go_wp2
 go_roundg k1
 case measure => have := HK1.out; omega
 case rel => exact ⟨(y296), (wrap64 (x4_1 + 1)), rs1, H', ⟨by have := HK1.out; omega⟩, ⟨by (with_reducible repeat (first | apply Kd.R_alloc | apply Kd.R_drewN | apply Kd.R_drew)); exact HO298.out⟩, ⟨bl⟩⟩
end Go.Proofs.YtoaicheopcojoaaDoor.P
