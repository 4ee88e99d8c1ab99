import Derived.Test.YtoaicheopcojoaaDoorHBW
import Derived.Test.YtoaicheopcojoaaDoorSq
import Derived.Test.YtoaicheopcojoaaDoorF19
import Derived.Test.YtoaicheopcojoaaDoorF56
import Derived.Test.YtoaicheopcojoaaDoorX6
import Derived.Lib.Hide
import Derived.StillTailTactics
import Derived.BigRegion
namespace Go.Proofs.YtoaicheopcojoaaDoor.P
open Go.BigFrame Go.RowKit Go.Proofs.YtoaicheopcojoaaDoorW.PrintWords Go.Proofs.YtoaicheopcojoaaDoorW.PrintLast Go.Proofs.YtoaicheopcojoaaDoorW.PrintMore
attribute [local go_sem high] eqA69 eqA97
attribute [local go_sem] max2_int min2_int max_two min_two max_three min_three max_four min_four
set_option linter.unusedVariables false
set_option linter.unusedSimpArgs false

theorem enc97_two (a b : S97) : (#[.int .i64 a.f0.f0, .int .i64 a.f0.f1, .int .i64 a.f1, .int .i64 b.f0.f0, .int .i64 b.f0.f1, .int .i64 b.f1] : Array Value) = enc97 [a, b] := by simp [enc97, encL, enc1]
/-- The list of two choices, laid. -/
theorem build97 {ρ : Operand → Value} {o : Oper} (x y : Operand) (h : o.op = .buildSlice 95 2 #[(0, x), (1, y)]) (a b : S97) (hx : ρ x = .agg #[.int .i64 a.f0.f0, .int .i64 a.f0.f1, .int .i64 a.f1]) (hy : ρ y = .agg #[.int .i64 b.f0.f0, .int .i64 b.f0.f1, .int .i64 b.f1]) (w : World) :
    (execOp ρ o).run Tryd.prog w = .ok (.value (.slice (some ⟨w.heap.size, 0, none⟩) 2 2)) (w.alloc (.cells (enc97 [a, b]) 97)) := by
  obtain ⟨d, op, t, p, af, g⟩ := o
  simp only at h
  subst h
  rw [← enc97_two]
  go_simp

open Classical in
noncomputable def cutting_Best.f (k : Nat) (len kerf pitch : Int) (sizes : List Int) (gain : List (List Int)) (chip dust : List Int) : Option (List S69 × Int × Int) :=
  (cutting_Check.f k len kerf pitch sizes gain chip dust).bind fun t => if t = 0 then
    ((cutting_sums.f k chip).bind fun cp => (cutting_sums.f k dust).bind fun dp =>
      if OkLine len kerf pitch sizes gain chip dust ∧ (cp.length : Int) = len + 1 ∧ (dp.length : Int) = len + 1 then
        some (piecesB len kerf sizes (bestL len kerf pitch sizes gain cp dp) (len.toNat + 1) 0, (rd_T97 (bestL len kerf pitch sizes gain cp dp) 0).f1, 0)
      else none)
  else some ([], 0, t)
theorem cutting_Best.mono : ∀ a0 a1 a2 a3 a4 a5 a6 k, LeO (cutting_Best.f k a0 a1 a2 a3 a4 a5 a6) (cutting_Best.f (k + 1) a0 a1 a2 a3 a4 a5 a6) := by
  intro a0 a1 a2 a3 a4 a5 a6 k
  unfold cutting_Best.f
  refine LeO.bind (cutting_Check.mono _ _ _ _ _ _ _ _) (fun t => LeO.ite (LeO.bind (cutting_sums.mono _ _) (fun _ => LeO.bind (cutting_sums.mono _ _) (fun _ => LeO.refl _))) (LeO.refl _))

def cutting_Best.T4 : Bool × List (List Nat × List Nat) := (true, [([], []), ([0], [0]), ([1], [1]), ([], []), ([3], [3]), ([4, 2], [4]), ([2, 5, 0, 1, 2], [2]), ([5, 6, 0, 1, 2, 3, 4, 5, 6], [5])])
def cutting_Best.B4 : List Nat := [0, 1, 3, 0, 8, 31, 63, 127]
theorem cutting_Best.tab4 : rtab .any (opsOf Tryd.f27 4) = cutting_Best.T4 := by kernel_rfl
theorem cutting_Best.bits4 : waitsOk cutting_Best.T4.2 cutting_Best.B4 = true := by kernel_rfl
def cutting_Best.T34 : Bool × List (List Nat × List Nat) := (true, [([], []), ([], []), ([0, 1], [0, 1]), ([2], [2]), ([], []), ([], []), ([4, 5], [4, 5]), ([6], [6]), ([3, 7], [3, 7]), ([8], [8]), ([], [])])
def cutting_Best.B34 : List Nat := [0, 0, 3, 7, 0, 0, 48, 112, 255, 511, 0]
theorem cutting_Best.tab34 : rtab .any (opsOf Tryd.f27 34) = cutting_Best.T34 := by kernel_rfl
theorem cutting_Best.bits34 : waitsOk cutting_Best.T34.2 cutting_Best.B34 = true := by kernel_rfl

set_option maxHeartbeats 60000000 in
set_option maxRecDepth 100000 in
theorem cutting_Best.calls (k : Nat) (a0_0 : Int) (a0_1 : Int) (a0_2 : Int) (A0_3 : Option Addr) (c0_3 : Nat) (l0_3 : List Int) (A0_4 : Option Addr) (c0_4 : Nat) (l0_4 : List (List Int)) (A0_5 : Option Addr) (c0_5 : Nat) (l0_5 : List Int) (A0_6 : Option Addr) (c0_6 : Nat) (l0_6 : List Int) (r1 : List (S69)) (r2 : Int) (r3 : Int) (w : World) (hr0_3 : Kd.C (Kd.int .i64) w A0_3 l0_3.length l0_3) (hc0_3 : l0_3.length ≤ c0_3) (hr0_4 : Kd.C (Kd.slice 3 (Kd.int .i64)) w A0_4 l0_4.length l0_4) (hc0_4 : l0_4.length ≤ c0_4) (hr0_5 : Kd.C (Kd.int .i64) w A0_5 l0_5.length l0_5) (hc0_5 : l0_5.length ≤ c0_5) (hr0_6 : Kd.C (Kd.int .i64) w A0_6 l0_6.length l0_6) (hc0_6 : l0_6.length ≤ c0_6) (hG : w.heap[0]? = some (.cells #[.int .i64 (-1), .int .i64 (-1), .int .i64 0] 97 (0, 0))) (h : cutting_Best.f k a0_0 a0_1 a0_2 l0_3 l0_4 l0_5 l0_6 = some (r1, r2, r3)) :
    Calls Tryd.prog 27 #[.agg #[.int .i64 a0_0, .int .i64 a0_1, .int .i64 a0_2, .slice A0_3 l0_3.length c0_3, .slice A0_4 l0_4.length c0_4, .slice A0_5 l0_5.length c0_5, .slice A0_6 l0_6.length c0_6]] w fun e w' => ∃ v0_ : Value, e = .returned (.tuple #[v0_, .int .i64 r2, .int .i64 r3]) ∧ Kd.R k69 69 w' w.heap.size (fun _ => True) v0_ r1 ∧ Below w.heap.size w w' := by
  unfold cutting_Best.f at h
  replace h := Option.bind_eq_some_iff.mp h
  obtain ⟨t, hck, h⟩ := h
  have HCK := Lib.hid hck
  clear hck
  have hGs := blk_lt hG
  have BK156 := Aside0.mk hG
  clear hG
  have HR0_3 := Aside0.mk hr0_3
  have HR0_4 := Aside0.mk hr0_4
  have HR0_5 := Aside0.mk hr0_5
  have HR0_6 := Aside0.mk hr0_6
  have HC0_3 := Aside0.mk hc0_3
  have HC0_4 := Aside0.mk hc0_4
  have HC0_5 := Aside0.mk hc0_5
  have HC0_6 := Aside0.mk hc0_6
  clear hr0_3 hr0_4 hr0_5 hr0_6 hc0_3 hc0_4 hc0_5 hc0_6
  by_cases ht : t = 0
  rotate_left
  · rw [if_neg ht] at h
    obtain ⟨rfl, rfl, rfl⟩ : [] = r1 ∧ (0 : Int) = r2 ∧ t = r3 := by simpa using h
    have c3b0 : (t == 0) = false := beq_eq_false_iff_ne.mpr ht
    have c3b1 : (t != 0) = true := bne_iff_ne.mpr ht
    clear h ht
    go_enter Tryd.func27, Tryd.ntmps27
    go_wp2_with fail
    refine (cutting_Check.calls k a0_0 a0_1 a0_2 _ _ l0_3 (fun k_ => k_ < w.heap.size) _ _ l0_4 (fun k_ => k_ < w.heap.size) _ _ l0_5 (fun k_ => k_ < w.heap.size) _ _ l0_6 t _ ?s1 HC0_3.out ?s3 ?s4 ?s5 HCK.out).mono ?_
    case s1 => exact cu1 HR0_3.out
    case s3 => exact Kd.V_mk HC0_4.out (Kd.F_below (Kd.C_F (Kd.heap_slice 3 (Kd.heap_int .i64)) HR0_4.out) (below_alloc (Below.refl _ _) _))
    case s4 => exact Kd.V_mk HC0_5.out (Kd.F_below (Kd.C_F (Kd.heap_int .i64) HR0_5.out) (below_alloc (Below.refl _ _) _))
    case s5 => exact Kd.V_mk HC0_6.out (Kd.F_below (Kd.C_F (Kd.heap_int .i64) HR0_6.out) (below_alloc (Below.refl _ _) _))
    rintro e w' ⟨rfl, hb⟩
    go_wp2
    refine bodyPost_ret (results_list (rs := [.tmp 2, .tmp 3, .tmp 4]) (by exact Tryd.results27) (by simp) (.tmp (.tmp (.tmp .nil)))) rfl ⟨_, rfl, Kd.R_nil _ _ _ _ _, ?_⟩
    exact below_step (below_alloc (Below.refl _ _) _) hb
  subst ht
  rw [if_pos rfl] at h
  replace h := Option.bind_eq_some_iff.mp h
  obtain ⟨cp, hcp, h⟩ := h
  replace h := Option.bind_eq_some_iff.mp h
  obtain ⟨dp, hdp, h⟩ := h
  have HCP := Aside0.mk hcp
  have HDP := Aside0.mk hdp
  clear hcp hdp
  split at h
  rotate_left
  · cases h
  rename_i hok
  obtain ⟨OK, hcl, hdl⟩ := hok
  have OKH := Lib.hid OK
  have hl0 := OK.len0
  have hl1 := OK.len1
  have hk0 := OK.kerf0
  have hk1 := OK.kerf1
  have hp0 := OK.pitch0
  have hp1 := OK.pitch1
  have hns := OK.nsizes
  obtain ⟨best, hbest⟩ : ∃ b, b = bestL a0_0 a0_1 a0_2 l0_3 l0_4 cp dp := ⟨_, rfl⟩
  rw [← hbest] at h
  have hr := Option.some.inj h
  have HR := Lib.hid hr
  have HBEST := Lib.hid hbest
  have HCL := Lib.hid (And.intro hcl hdl)
  clear h hr hbest OK hcl hdl
  go_enter Tryd.func27, Tryd.ntmps27
  go_wp2_with fail
  refine (cutting_Check.calls k a0_0 a0_1 a0_2 _ _ l0_3 (fun k_ => k_ < w.heap.size) _ _ l0_4 (fun k_ => k_ < w.heap.size) _ _ l0_5 (fun k_ => k_ < w.heap.size) _ _ l0_6 0 _ ?s1 HC0_3.out ?s3 ?s4 ?s5 HCK.out).mono ?_
  case s1 => exact cu1 HR0_3.out
  case s3 => exact Kd.V_mk HC0_4.out (Kd.F_below (Kd.C_F (Kd.heap_slice 3 (Kd.heap_int .i64)) HR0_4.out) (below_alloc (Below.refl _ _) _))
  case s4 => exact Kd.V_mk HC0_5.out (Kd.F_below (Kd.C_F (Kd.heap_int .i64) HR0_5.out) (below_alloc (Below.refl _ _) _))
  case s5 => exact Kd.V_mk HC0_6.out (Kd.F_below (Kd.C_F (Kd.heap_int .i64) HR0_6.out) (below_alloc (Below.refl _ _) _))
  rintro e w12 ⟨rfl, hb⟩
  go_wp2
  have n0_ := Aside0.mk (blk_drew (blk_below (blk_alloc BK156.out _) hb))
  have n1_ := Aside0.mk (blk_drew (blk_below (blk_new w _) hb))
  have n2_ := Aside0.mk (below_drew1 (below_step (below_alloc (Below.refl w.heap.size w) _) hb))
  clear BK156 hb
  have BK156 := n0_
  have BK157 := n1_
  have HB := n2_
  clear n0_ n1_ n2_
  refine start_ (n := 8) (S := fun w' => w'.cell? ⟨w.heap.size, 0, none⟩ = some (.int .i64 a0_0) ∧ w'.cell? ⟨w.heap.size, 1, none⟩ = some (.int .i64 a0_1) ∧ w'.cell? ⟨w.heap.size, 2, none⟩ = some (.int .i64 a0_2) ∧ w'.cell? ⟨w.heap.size, 3, none⟩ = some (.slice A0_3 l0_3.length c0_3) ∧ w'.cell? ⟨w.heap.size, 4, none⟩ = some (.slice A0_4 l0_4.length c0_4) ∧ w'.cell? ⟨w.heap.size, 5, none⟩ = some (.slice A0_5 l0_5.length c0_5) ∧ w'.cell? ⟨w.heap.size, 6, none⟩ = some (.slice A0_6 l0_6.length c0_6)) (ds := []) #[false, false, false, false, false, false, false, false] (by kernel_rfl) rfl rfl ⟨(blk_cell BK157.out 0).trans rfl, (blk_cell BK157.out 1).trans rfl, (blk_cell BK157.out 2).trans rfl, (blk_cell BK157.out 3).trans rfl, (blk_cell BK157.out 4).trans rfl, (blk_cell BK157.out 5).trans rfl, (blk_cell BK157.out 6).trans rfl⟩ (fun hHeld => ?_); refine with_tabW cutting_Best.tab4 cutting_Best.bits4 (fun HT_ HW_ => ?_)
  generalize w12.drew = w13 at BK156 BK157 HB hHeld ⊢
  refine pu1 0 (some 32) #[true, false, false, false, false, false, false, false] ?_
  refine pu1 3 (some 35) #[true, false, false, true, false, false, false, false] ?_
  refine ta1 1 (some 33) #[true, true, false, true, false, false, false, false] ?_
  refine ta1 4 (some 36) #[true, true, false, true, true, false, false, false] ?_
  refine one_ (i := 2) (N := some 34) #[true, true, true, true, true, false, false, false] rfl rfl (one_of HT_.out (by kernel_rfl)) (by decide) (fun K hK => ?_)
  refine goes_ Tryd.func56 (by kernel_rfl) rfl #[.slice A0_5 l0_5.length c0_5] (by rfl) rfl rfl mp1 ?_
  with_reducible refine (cutting_sums.calls k _ _ l0_5 cp _ ?side1 ?side2 HCP.out).mono ?_
  (case side1 => exact cu1 (Kd.C_below HR0_5.out HB.out))
  (case side2 => exact HC0_5.out)
  rintro e w14 ⟨v160, rfl, ho0, hb⟩
  refine ⟨_, rfl, ?_⟩
  have n0_ := Aside0.mk (Kd.R_lower ho0 (below_size bl))
  have n1_ := Aside0.mk (blk_below (bu BK156.out) hb)
  have n2_ := Aside0.mk (blk_below (bu BK157.out) hb)
  have n3_ := Aside0.mk (below_step bl hb)
  clear BK156; clear BK157; clear HB
  have HO161 := n0_
  have BK156 := n1_
  have BK157 := n2_
  have HB := n3_
  clear n0_ n1_ n2_ n3_
  (try clear hb)
  (try clear hb2)
  (try clear hk)
  (try clear hi)
  (try clear ho0)
  refine hK.out _ _ ⟨(blk_cell BK157.out 0).trans rfl, (blk_cell BK157.out 1).trans rfl, (blk_cell BK157.out 2).trans rfl, (blk_cell BK157.out 3).trans rfl, (blk_cell BK157.out 4).trans rfl, (blk_cell BK157.out 5).trans rfl, (blk_cell BK157.out 6).trans rfl⟩ (fun hHeld => ?_)
  clear hK K
  refine norm_ (a' := ?_) ?_ ?_
  rotate_left
  · show Act.put _ (some 34) _ = _
    simp only [Act.put, List.setIfInBounds_toArray, List.set_cons_zero, List.set_cons_succ, i64_w, i32_w]
    rfl
  refine one_ (i := 5) (N := some 37) #[true, true, true, true, true, true, false, false] rfl rfl (one_of HT_.out (by kernel_rfl)) (by decide) (fun K hK => ?_)
  refine goes_ Tryd.func56 (by kernel_rfl) rfl #[.slice A0_6 l0_6.length c0_6] (by rfl) rfl rfl mp1 ?_
  with_reducible refine (cutting_sums.calls k _ _ l0_6 dp _ ?side1 ?side2 HDP.out).mono ?_
  (case side1 => exact cu1 (Kd.C_below HR0_6.out HB.out))
  (case side2 => exact HC0_6.out)
  rintro e w15 ⟨v163, rfl, ho0, hb⟩
  refine ⟨_, rfl, ?_⟩
  have n0_ := Aside0.mk (Kd.R_elder' (ru HO161.out) (Kd.R_base ho0) hb)
  have n1_ := Aside0.mk (Kd.R_lower (Kd.R_new' ho0 (Kd.R_lt (ru HO161.out))) (below_size bl))
  have n2_ := Aside0.mk (blk_below (bu BK156.out) hb)
  have n3_ := Aside0.mk (blk_below (bu BK157.out) hb)
  have n4_ := Aside0.mk (below_step bl hb)
  clear HO161; clear BK156; clear BK157; clear HB
  have HO161 := n0_
  have HO164 := n1_
  have BK156 := n2_
  have BK157 := n3_
  have HB := n4_
  clear n0_ n1_ n2_ n3_ n4_
  (try clear hb)
  (try clear hb2)
  (try clear hk)
  (try clear hi)
  (try clear ho0)
  refine hK.out _ _ ⟨(blk_cell BK157.out 0).trans rfl, (blk_cell BK157.out 1).trans rfl, (blk_cell BK157.out 2).trans rfl, (blk_cell BK157.out 3).trans rfl, (blk_cell BK157.out 4).trans rfl, (blk_cell BK157.out 5).trans rfl, (blk_cell BK157.out 6).trans rfl⟩ (fun hHeld => ?_)
  clear hK K
  refine norm_ (a' := ?_) ?_ ?_
  rotate_left
  · show Act.put _ (some 37) _ = _
    simp only [Act.put, List.setIfInBounds_toArray, List.set_cons_zero, List.set_cons_succ, i64_w, i32_w]
    rfl
  refine pu1 6 (some 6) #[true, true, true, true, true, true, true, false] ?_
  refine pu1 7 (some 7) #[true, true, true, true, true, true, true, true] ?_
  refine done_ (done_of HT_.out (by kernel_rfl)) ?_
  obtain ⟨gc, capc, cc, rfl, hgc, hcb, hcr⟩ := row_block HO161.out (by have := HCL.out.1; omega)
  obtain ⟨gd, capd, cd, rfl, hgd, hdb, hdr⟩ := row_block HO164.out (by have := HCL.out.2; omega)
  have hcz16 := blk_cells BK157.out
  have hmk := make97 a0_0 hl0 hl1
  have hz0 : 0 < w.heap.size := hGs
  obtain ⟨m, hm⟩ : ∃ m : Nat, m = (a0_0 + 1).toNat := ⟨_, rfl⟩
  have HM := Lib.hid hm
  rw [← hm] at hmk
  clear hm
  have hszW := HB.out.size
  have HCC := Lib.hid (And.intro hcb (And.intro hdb (And.intro hcr hdr)))
  clear hcb hdb hcr hdr
  have hq1 : ∀ o, (w15.alloc o).cell? ⟨w.heap.size, 0, none⟩ = some (.int .i64 a0_0) := fun o => blk_cell (blk_alloc BK157.out o) 0
  have hq2 : ∀ o o', ((w15.alloc o).alloc o').cell? ⟨w.heap.size, 0, none⟩ = some (.int .i64 a0_0) := fun o o' => blk_cell (blk_alloc (blk_alloc BK157.out o) o') 0
  have hq3 : ∀ o o' o'', (((w15.alloc o).alloc o').alloc o'').cell? ⟨w.heap.size, 0, none⟩ = some (.int .i64 a0_0) := fun o o' o'' => blk_cell (blk_alloc (blk_alloc (blk_alloc BK157.out o) o') o'') 0
  go_wp2
  have BW0 : Aside0 (BW w (((w15.alloc (.cells (enc97 (List.replicate (a0_0.toNat + 1) z97)) 97)).alloc (.cells (enc97 (List.replicate (a0_0.toNat + 1) z97)) 97)).alloc (.cells (enc97 (List.replicate (a0_0.toNat + 1) z97)) 97)) #[.int .i64 a0_0, .int .i64 a0_1, .int .i64 a0_2, .slice A0_3 l0_3.length c0_3, .slice A0_4 l0_4.length c0_4, .slice A0_5 l0_5.length c0_5, .slice A0_6 l0_6.length c0_6]
      w.heap.size w15.heap.size (w15.heap.size + 1) (w15.heap.size + 1 + 1) gc gd cc cd (startT a0_0)) :=
    ⟨⟨blk_alloc (blk_alloc (blk_alloc BK157.out _) _) _, blk_alloc (blk_alloc (blk_new _ _) _) _, blk_alloc (by simpa [startT] using blk_new (w15.alloc _) _) _, by simpa [startT] using blk_new ((w15.alloc _).alloc _) _, blk_alloc (blk_alloc (blk_alloc HCC.out.1 _) _) _, blk_alloc (blk_alloc (blk_alloc HCC.out.2.1 _) _) _, blk_alloc (blk_alloc (blk_alloc BK156.out _) _) _,
      below_alloc (below_alloc (below_alloc HB.out _) _) _, hszW, by omega, by omega, by omega, by omega, by omega, hz0⟩⟩
  obtain ⟨ga, hga⟩ : ∃ g, g = w15.heap.size := ⟨_, rfl⟩
  have hlb := blk_lt BK157.out
  clear hcz16 hq1 hq2 hq3 hmk BK157 BK156 HB HO161 HO164
  go_loopg [11] (a0_0.toNat + 1) (fun n v11 wr => ∃ (t : Tri), v11 = .int .i64 ((n : Int) - 1) ∧ (n : Int) ≤ a0_0 + 1 ∧
      Aside0 (BW w wr #[.int .i64 a0_0, .int .i64 a0_1, .int .i64 a0_2, .slice A0_3 l0_3.length c0_3, .slice A0_4 l0_4.length c0_4, .slice A0_5 l0_5.length c0_5, .slice A0_6 l0_6.length c0_6]
        w.heap.size w15.heap.size (w15.heap.size + 1) (w15.heap.size + 1 + 1) gc gd cc cd t) ∧ Aside0 (OkT a0_0 l0_3 n t) ∧ Aside0 ((runT a0_0 a0_1 a0_2 l0_3 l0_4 cp dp n t).c = best))
  case atStart =>
    refine ⟨startT a0_0, ?_, by omega, BW0, ⟨OkT.start hl0⟩, ⟨HBEST.out.symm⟩⟩
    show Value.int _ _ = _
    congr 1
    omega
  case round =>
    obtain ⟨t, rfl, hn, HW, HO, HRUN⟩ := hrel
    have hG0 : wr.cell? ⟨0, 0, none⟩ = some (.int .i64 (-1)) := blk_cell HW.out.hg 0
    have hG1 : wr.cell? ⟨0, 1, none⟩ = some (.int .i64 (-1)) := blk_cell HW.out.hg 1
    have hG2 : wr.cell? ⟨0, 2, none⟩ = some (.int .i64 0) := blk_cell HW.out.hg 2
    have hL0 : wr.cell? ⟨w.heap.size, 0, none⟩ = some (.int .i64 a0_0) := blk_cell HW.out.hl 0
    have hfa := blk_frozens HW.out.ha
    have hfh := blk_frozens HW.out.hh
    have hfb := blk_frozens HW.out.hb
    have hxah := HW.out.ah
    have hxab := HW.out.ab
    have hxhb := HW.out.hb'
    have hm0 : (m : Int) = a0_0 + 1 := by rw [HM.out]; omega
    rcases gk with _ | e
    · as_aux_lemma =>
        have hz1 : ((0 : Nat) : Int) - 1 = -1 := rfl
        rw [hz1]
        clear hz1
        have HB0 : t.c = best := HRUN.out
        have hgb := HW.out.hb
        rw [HB0] at hgb
        have hlb : best.length = a0_0.toNat + 1 := by rw [← HB0]; exact HO.out.lc
        have hokc : ∀ i, 0 ≤ i → i ≤ a0_0 → okC a0_0 l0_3 i (rd_T97 best i) := by rw [← HB0]; intro i h1 h2; exact HO.out.hc i (by omega) h2
        have HGB := Aside0.mk hgb
        have HLN := Aside0.mk HW.out.hl
        have HGL := Aside0.mk HW.out.hg
        have HBE := Aside0.mk HW.out.be
        have HOKC := Lib.hid hokc
        have HLBL := Lib.hid hlb
        have hrr := HR.out
        simp only [Prod.mk.injEq] at hrr
        obtain ⟨hr1, hr2, hr3⟩ := hrr
        subst hr2 hr3
        have HR1 := Lib.hid hr1
        clear HRUN HW HO hgb hokc hlb hr1 HR HBEST HB0 hfa hfh hfb hxah hxab hxhb hG0 hG1 hG2 hL0
        go_wp2
        go_loopg [23, 24] (a0_0.toNat + 1) (fun n v23 v24 wp => ∃ (out : List S69) (e : Int), v24 = .int .i64 e ∧ 0 ≤ e ∧ e ≤ a0_0 ∧ a0_0 < e + n ∧ out.length + n ≤ a0_0.toNat + 1 ∧ Aside0 (Kd.R k69 69 wp w.heap.size (fun _ => True) v23 out) ∧ Aside0 (out ++ piecesB a0_0 a0_1 l0_3 best n e = r1) ∧
            Aside0 (wp.heap[w15.heap.size + 1 + 1]? = some (.cells (enc97 best) 97 (0, 0))) ∧ Aside0 (wp.heap[w.heap.size]? = some (.cells #[.int .i64 a0_0, .int .i64 a0_1, .int .i64 a0_2, .slice A0_3 l0_3.length c0_3, .slice A0_4 l0_4.length c0_4, .slice A0_5 l0_5.length c0_5, .slice A0_6 l0_6.length c0_6] 25 (0, 0))) ∧ Aside0 (wp.heap[0]? = some (.cells #[.int .i64 (-1), .int .i64 (-1), .int .i64 0] 97 (0, 0))) ∧ Aside0 (Below w.heap.size w wp))
        case atStart => exact ⟨[], 0, rfl, by omega, by omega, by omega, by simp, ⟨Kd.R_nil _ _ _ _ _⟩, ⟨by rw [List.nil_append]; exact HR1.out⟩, HGB, HLN, HGL, HBE⟩
        case round =>
          clear HGB HLN HGL HBE
          obtain ⟨out, e, rfl, he0, he1, hfu, hol, HOUT, HPC, HGB, HLN, HGL, HBE⟩ := hrel
          rcases gk with _ | n
          · exact absurd hfu (by omega)
          obtain ⟨x, hx⟩ : ∃ x, x = rd_T97 best e := ⟨_, rfl⟩
          have hok := HOKC.out e he0 he1
          rw [← hx] at hok
          have hel : e < (best.length : Int) := by rw [HLBL.out]; omega
          have hem : e < (m : Int) := by omega
          have hm1 : (0 : Int) < (m : Int) := by omega
          have hx0 := (blk_cell HGB.out (e.toNat * 3)).trans (enc97_0 (i := e) he0 hel)
          have hx1 := (blk_cell HGB.out (e.toNat * 3 + 1)).trans (enc97_1 (i := e) he0 hel)
          rw [← hx] at hx0 hx1
          have hz0 := (blk_cell HGB.out 2).trans (enc97_2 (l := best) (i := 0) (by omega) (by rw [HLBL.out]; omega))
          have hG0 : wr.cell? ⟨0, 0, none⟩ = some (.int .i64 (-1)) := blk_cell HGL.out 0
          have hG1 : wr.cell? ⟨0, 1, none⟩ = some (.int .i64 (-1)) := blk_cell HGL.out 1
          have hG2 : wr.cell? ⟨0, 2, none⟩ = some (.int .i64 0) := blk_cell HGL.out 2
          have d : (!(x.f0.f0 == -1) || (!(x.f0.f1 == -1))) = !decide (x.f0 = ⟨-1, -1⟩) := by
            obtain ⟨⟨x1, x2⟩, x3⟩ := x
            rw [Bool.eq_iff_iff]
            simp only [S69.mk.injEq]
            by_cases h1 : x1 = -1 <;> by_cases h2 : x2 = -1 <;> simp [h1, h2]
          have hpc := HPC.out
          rw [piecesB, ← hx] at hpc
          have HPC2 := Lib.hid hpc
          have HOK := Lib.hid hok
          have HM0 := Lib.hid hm0
          have HXX := Lib.hid hx
          clear hpc hok hx HPC hm0
          by_cases cx : x.f0 = ⟨-1, -1⟩
          · rw [decide_eq_true cx] at d
            simp only [Bool.not_true] at d
            have hpc := HPC2.out
            rw [if_pos cx, List.append_nil] at hpc
            subst hpc
            clear HPC2
            have CX := Lib.hid cx
            clear cx
            go_wp2
            go_quiet (fail)
            go_wp2
            go_quiet (fail)
            go_wp2
            refine bodyPost_ret (results_list (rs := [.tmp 2, .tmp 3, .tmp 4]) (by exact Tryd.results27) (by simp) (.tmp (.tmp (.tmp .nil)))) rfl ⟨_, rfl, ?_, ?_⟩
            · (with_reducible repeat (first | apply Kd.R_drewN | apply Kd.R_drew)); exact HOUT.out
            · (with_reducible repeat (first | apply pw_below_drewN | apply below_drew1)); exact HBE.out
          · rw [decide_eq_false cx] at d
            simp only [Bool.not_false] at d
            obtain ⟨ho1, ho2, ho3, ho4⟩ := HOK.out.resolve_left cx
            have hpc := HPC2.out
            rw [if_neg cx] at hpc
            have HPC3 := Lib.hid hpc
            clear hpc HPC2 HOK cx
            go_wp2
            go_quiet (fail)
            have HGB := Aside0.mk (blk_drewN HGB.out nq)
            have HLN := Aside0.mk (blk_drewN HLN.out nq)
            have HGL := Aside0.mk (blk_drewN HGL.out nq)
            have HBE := Aside0.mk (pw_below_drewN HBE.out nq)
            have HOUT := Aside0.mk (Kd.R_drewN HOUT.out nq)
            clear hx0 hx1 hz0 hG0 hG1 hG2 d
            generalize wr.drewN nq = w5 at HGB HLN HGL HBE HOUT ⊢
            have hx0 := (blk_cell HGB.out (e.toNat * 3)).trans (enc97_0 (i := e) he0 hel)
            have hx1 := (blk_cell HGB.out (e.toNat * 3 + 1)).trans (enc97_1 (i := e) he0 hel)
            rw [← HXX.out] at hx0 hx1
            go_upto_region 44 with (fail)
            have HN := Aside0.mk (blk_new w5 (.cells #[.int .i64 x.f0.f0, .int .i64 x.f0.f1] 69))
            have HO1 := Aside0.mk (Kd.R_alloc (Kd.R_elderB HOUT.out w5.heap.size (Nat.le_refl _)) (.cells #[.int .i64 x.f0.f0, .int .i64 x.f0.f1] 69))
            have HGB := Aside0.mk (blk_alloc HGB.out (.cells #[.int .i64 x.f0.f0, .int .i64 x.f0.f1] 69))
            have HLN := Aside0.mk (blk_alloc HLN.out (.cells #[.int .i64 x.f0.f0, .int .i64 x.f0.f1] 69))
            have HGL := Aside0.mk (blk_alloc HGL.out (.cells #[.int .i64 x.f0.f0, .int .i64 x.f0.f1] 69))
            have HBE := Aside0.mk (below_alloc HBE.out (.cells #[.int .i64 x.f0.f0, .int .i64 x.f0.f1] 69))
            clear hx0 hx1 HOUT
            obtain ⟨gn, hgn⟩ : ∃ g, g = w5.heap.size := ⟨_, rfl⟩
            rw [← hgn] at HN HO1 ⊢
            generalize w5.alloc (.cells #[.int .i64 x.f0.f0, .int .i64 x.f0.f1] 69) = w6 at HN HO1 HGB HLN HGL HBE ⊢
            clear hgn
            have hn0 : w6.cell? ⟨gn, 0, none⟩ = some (.int .i64 x.f0.f0) := blk_cell HN.out 0
            have hn1 : w6.cell? ⟨gn, 1, none⟩ = some (.int .i64 x.f0.f1) := blk_cell HN.out 1
            go_wp2_with (at_builtin; refine Kd.R_append k69 (w0 := w) w.heap.size rfl (.tmp 309) (.tmp 311) 30 69 (.agg #[(.int .i64 0), (.int .i64 0)]) 16 rfl Tryd.underlying30 info69 rfl (by decide) (by omega) _ out x.f0 [.int .i64 x.f0.f0, .int .i64 x.f0.f1] (fun k_ => True ∧ k_ ≠ gn) (fun _ => False) rfl (by first | (go_simp; done) | (go_simp; rfl)) (k69_mkM _ _ _ x.f0) (fun _ hk => hk.elim) (fun k_ hk => ⟨trivial, Kd.freshB HN.out k_ hk⟩) HO1.out HBE.out HBE.out.size (by omega) ?_; intro v1 w7 ho hb hg hat; have HN2 := Aside0.mk (blk_grown HN.out hg (Kd.R_away HO1.out (fun _ hk => hk.2))); have HGB2 := Aside0.mk (blk_grown HGB.out hg (Kd.R_ne HO1.out HGB.out (by decide))); have HLN2 := Aside0.mk (blk_grown HLN.out hg (Kd.R_ne HO1.out HLN.out (by decide))); have HGL2 := Aside0.mk (blk_grown HGL.out hg (Kd.R_ne HO1.out HGL.out (by decide))); have HBE2 := Aside0.mk hb; have HO2 := Aside0.mk ho; clear hn0 hn1 ho hb hg hat)
            have hn0 : w7.cell? ⟨gn, 0, none⟩ = some (.int .i64 x.f0.f0) := blk_cell HN2.out 0
            have hn1 : w7.cell? ⟨gn, 1, none⟩ = some (.int .i64 x.f0.f1) := blk_cell HN2.out 1
            clear HGB HLN HGL HBE HO1 HN
            obtain ⟨ad3, rfl, hs⟩ := Kd.at_int (Kd.C_below HR0_3.out HBE2.out) x.f0.f0 ho1 ho2
            have hsz := OKH.out.sizes0 x.f0.f0 ho1 ho2
            obtain ⟨size, hsize⟩ : ∃ z, z = rd l0_3 x.f0.f0 := ⟨_, rfl⟩
            rw [← hsize] at hs ho4 hsz
            obtain ⟨hsz0, hsz1⟩ := hsz
            have HPC4 := Lib.hid (hsize ▸ HPC3.out : out ++ x.f0 :: (if x.f0.f1 + size = a0_0 then [] else piecesB a0_0 a0_1 l0_3 best n (mn (x.f0.f1 + size + a0_1) a0_0)) = r1)
            clear hsize HPC3
            have hL0 : w7.cell? ⟨w.heap.size, 0, none⟩ = some (.int .i64 a0_0) := blk_cell HLN2.out 0
            have hL1 : w7.cell? ⟨w.heap.size, 1, none⟩ = some (.int .i64 a0_1) := blk_cell HLN2.out 1
            have hL3 : w7.cell? ⟨w.heap.size, 3, none⟩ = some (.slice (some ad3) l0_3.length c0_3) := blk_cell HLN2.out 3
            have HO3 := Aside0.mk (Kd.R_mono HO2.out (ok' := fun _ => True) (fun _ _ => trivial))
            clear HO2
            by_cases cend : x.f0.f1 + size = a0_0
            · have hb1 : (x.f0.f1 + size == a0_0) = true := beq_iff_eq.mpr cend
              have hpc := HPC4.out
              rw [if_pos cend] at hpc
              subst hpc
              have hz0 := (blk_cell HGB2.out 2).trans (enc97_2 (l := best) (i := 0) (by omega) (by rw [HLBL.out]; omega))
              have HE := Lib.hid cend
              clear cend HPC4
              go_quiet (fail)
              go_wp2
              go_quiet (fail)
              go_wp2
              refine bodyPost_ret (results_list (rs := [.tmp 2, .tmp 3, .tmp 4]) (by exact Tryd.results27) (by simp) (.tmp (.tmp (.tmp .nil)))) rfl ⟨_, rfl, ?_, ?_⟩
              · (with_reducible repeat (first | apply Kd.R_drewN | apply Kd.R_drew)); exact HO3.out
              · (with_reducible repeat (first | apply pw_below_drewN | apply below_drew1)); exact HBE2.out
            · have hb1 : (x.f0.f1 + size == a0_0) = false := beq_eq_false_iff_ne.mpr cend
              have hpc := HPC4.out
              rw [if_neg cend] at hpc
              have HPC5 := Lib.hid hpc
              have hlt : x.f0.f1 + size < a0_0 := by omega
              clear hpc HPC4 cend
              by_cases cm : x.f0.f1 + size + a0_1 ≤ a0_0
              · go_quiet (fail)
                go_wp2
                go_roundg n
                case measure => omega
                case rel =>
                  refine ⟨out ++ [x.f0], x.f0.f1 + size + a0_1, rfl, by omega, by omega, by omega, by rw [List.length_append, List.length_singleton]; omega, ⟨Kd.R_drewN HO3.out nq⟩, ⟨?_⟩, ⟨blk_drewN HGB2.out nq⟩, ⟨blk_drewN HLN2.out nq⟩, ⟨blk_drewN HGL2.out nq⟩, ⟨pw_below_drewN HBE2.out nq⟩⟩
                  have := HPC5.out
                  rw [show mn (x.f0.f1 + size + a0_1) a0_0 = x.f0.f1 + size + a0_1 from by unfold mn; split <;> omega] at this
                  rw [← this]; simp
              · have cm' : a0_0 < x.f0.f1 + size + a0_1 := by omega
                clear cm
                go_quiet (fail)
                go_wp2
                go_roundg n
                case measure => omega
                case rel =>
                  refine ⟨out ++ [x.f0], a0_0, rfl, by omega, by omega, by omega, by rw [List.length_append, List.length_singleton]; omega, ⟨Kd.R_drewN HO3.out nq⟩, ⟨?_⟩, ⟨blk_drewN HGB2.out nq⟩, ⟨blk_drewN HLN2.out nq⟩, ⟨blk_drewN HGL2.out nq⟩, ⟨pw_below_drewN HBE2.out nq⟩⟩
                  have := HPC5.out
                  rw [show mn (x.f0.f1 + size + a0_1) a0_0 = a0_0 from by unfold mn; split <;> omega] at this
                  rw [← this]; simp
    · skip
      have he1 : ((e + 1 : Nat) : Int) - 1 = (e : Int) := by omega
      rw [he1]
      clear he1
      have hem : e < m := by omega
      have hem' : (e : Int) < (m : Int) := by omega
      have hel : (e : Int) ≤ a0_0 := by omega
      have hca0 := (blk_cell HW.out.ha (e * 3)).trans (enc97_0 (i := e) (by omega) (by rw [HO.out.la]; omega))
      have hca1 := (blk_cell HW.out.ha (e * 3 + 1)).trans (enc97_1 (i := e) (by omega) (by rw [HO.out.la]; omega))
      have hca2 := (blk_cell HW.out.ha (e * 3 + 2)).trans (enc97_2 (i := e) (by omega) (by rw [HO.out.la]; omega))
      have hch0 := (blk_cell HW.out.hh (e * 3)).trans (enc97_0 (i := e) (by omega) (by rw [HO.out.lb]; omega))
      have hch1 := (blk_cell HW.out.hh (e * 3 + 1)).trans (enc97_1 (i := e) (by omega) (by rw [HO.out.lb]; omega))
      have hch2 := (blk_cell HW.out.hh (e * 3 + 2)).trans (enc97_2 (i := e) (by omega) (by rw [HO.out.lb]; omega))
      have HM0 := Lib.hid hm0
      clear hm0
      have hL3 : wr.cell? ⟨w.heap.size, 3, none⟩ = some (.slice A0_3 l0_3.length c0_3) := blk_cell HW.out.hl 3
      go_wp2
      have HW1 := Aside0.mk ((HW.out.setA e (by rw [HO.out.la]; omega) noneC).setH e (by show e < t.b.length; rw [HO.out.lb]; omega) noneC)
      clear hG0 hG1 hG2 hL0 hL3 hfa hfh hfb hca0 hca1 hca2 hch0 hch1 hch2
      go_loopg [67] l0_3.length (fun j v67 wr1 => ∃ (i : Nat), v67 = .int .i64 i ∧ i + j = l0_3.length ∧ Aside0 (BW w wr1 #[.int .i64 a0_0, .int .i64 a0_1, .int .i64 a0_2, .slice A0_3 l0_3.length c0_3, .slice A0_4 l0_4.length c0_4, .slice A0_5 l0_5.length c0_5, .slice A0_6 l0_6.length c0_6]
        w.heap.size w15.heap.size (w15.heap.size + 1) (w15.heap.size + 1 + 1) gc gd cc cd ⟨t.a.set e (atN a0_0 a0_1 l0_3 l0_4 dp t.c e i), t.b.set e noneC, t.c⟩))
      case atStart => exact ⟨0, rfl, by omega, HW1⟩
      case round =>
        obtain ⟨i, rfl, hi, HX⟩ := hrel
        have hG0 : wr.cell? ⟨0, 0, none⟩ = some (.int .i64 (-1)) := blk_cell HX.out.hg 0
        have hG1 : wr.cell? ⟨0, 1, none⟩ = some (.int .i64 (-1)) := blk_cell HX.out.hg 1
        have hG2 : wr.cell? ⟨0, 2, none⟩ = some (.int .i64 0) := blk_cell HX.out.hg 2
        have hL0 : wr.cell? ⟨w.heap.size, 0, none⟩ = some (.int .i64 a0_0) := blk_cell HX.out.hl 0
        have hL1 : wr.cell? ⟨w.heap.size, 1, none⟩ = some (.int .i64 a0_1) := blk_cell HX.out.hl 1
        have hL4 : wr.cell? ⟨w.heap.size, 4, none⟩ = some (.slice A0_4 l0_4.length c0_4) := blk_cell HX.out.hl 4
        rcases gk with _ | j
        · obtain rfl : i = l0_3.length := by omega
          clear hi
          have hm0 := HM0.out
          have hcl := HCL.out
          have hxah := HX.out.ah
          have hL2 : wr.cell? ⟨w.heap.size, 2, none⟩ = some (.int .i64 a0_2) := blk_cell HX.out.hl 2
          obtain ⟨A, hA⟩ : ∃ A, A = t.a.set e (atN a0_0 a0_1 l0_3 l0_4 dp t.c e l0_3.length) := ⟨_, rfl⟩
          rw [← hA] at HX
          have hlA : A.length = a0_0.toNat + 1 := by rw [hA, List.length_set, HO.out.la]
          have HAA := Lib.hid hA
          have HLA := Lib.hid hlA
          clear hA hlA
          have hp2 : (e : Int) + a0_2 ≤ 4000 := by omega
          go_upto_if 159 with (fail)
          go_cut [] (fun wc => Aside0 (BW w wc #[.int .i64 a0_0, .int .i64 a0_1, .int .i64 a0_2, .slice A0_3 l0_3.length c0_3, .slice A0_4 l0_4.length c0_4, .slice A0_5 l0_5.length c0_5, .slice A0_6 l0_6.length c0_6] w.heap.size w15.heap.size (w15.heap.size + 1) (w15.heap.size + 1 + 1) gc gd cc cd ⟨A, t.b.set e (behE a0_0 a0_1 a0_2 cp dp A (t.b.set e noneC) e), t.c⟩))
          case first =>
            as_aux_lemma =>
              by_cases c1 : a0_0 < (e : Int) + a0_2
              · go_wp2
                go_meet
                case rel =>
                  have : behE a0_0 a0_1 a0_2 cp dp A (t.b.set e noneC) e = noneC := by rw [behE, if_neg (by omega)]
                  rw [this]
                  exact HX
              have c1' : (e : Int) + a0_2 ≤ a0_0 := by omega
              clear c1
              have hk1c : wr.cell? ⟨gc, e, none⟩ = some (.int .i64 (rd cp e)) := by
                have := (blk_cell HX.out.hc e).trans (by simpa using HCC.out.2.2.1 (e : Int) (by omega) (by omega))
                exact this
              have hk2c := (blk_cell HX.out.hc ((e : Int) + a0_2).toNat).trans (HCC.out.2.2.1 ((e : Int) + a0_2) (by omega) (by omega))
              have hb1 : (e : Int) < (cp.length : Int) := by omega
              have hb2 : (e : Int) + a0_2 < (cp.length : Int) := by omega
              have hb3 : (e : Int) + a0_2 < (m : Int) := by omega
              have hb4 : (e : Int) + a0_2 < (dp.length : Int) := by omega
              have hb5 : ((e : Int) + a0_2 + a0_1) ≤ a0_0 → ((e : Int) + a0_2 + a0_1) < (m : Int) ∧ ((e : Int) + a0_2 + a0_1) < (dp.length : Int) := fun h => ⟨by omega, by omega⟩
              have HB5 := Lib.hid hb5
              have HM1 := Lib.hid hm0
              have HCL1 := Lib.hid hcl
              clear hm0 hcl hb5
              go_wp2
              go_quiet (fail)
              go_upto_region 28 with (fail)
              go_cut [184] (fun s wc => s = .bool (decide (((e : Int) + a0_2 + a0_1) ≤ a0_0 ∧ rd_T97 A ((e : Int) + a0_2 + a0_1) ≠ noneC)) ∧ Aside0 (BW w wc #[.int .i64 a0_0, .int .i64 a0_1, .int .i64 a0_2, .slice A0_3 l0_3.length c0_3, .slice A0_4 l0_4.length c0_4, .slice A0_5 l0_5.length c0_5, .slice A0_6 l0_6.length c0_6] w.heap.size w15.heap.size (w15.heap.size + 1) (w15.heap.size + 1 + 1) gc gd cc cd ⟨A, t.b.set e noneC, t.c⟩))
              case first =>
                as_aux_lemma =>
                  by_cases c2 : a0_0 < ((e : Int) + a0_2 + a0_1)
                  · have hd : decide (((e : Int) + a0_2 + a0_1) ≤ a0_0) = false := by simp; omega
                    go_quiet (fail)
                    go_wp2
                    go_meet
                    case rel =>
                      refine ⟨congrArg Value.bool (decide_eq_false (p := ((e : Int) + a0_2 + a0_1) ≤ a0_0 ∧ rd_T97 A ((e : Int) + a0_2 + a0_1) ≠ noneC) ?_).symm, ⟨by first | exact HX.out.draws ⟨_, rfl⟩ | exact (HX.out.draws ⟨_, rfl⟩).draws ⟨_, rfl⟩⟩⟩
                      rintro ⟨h, _⟩; omega
                  · have c2' : ((e : Int) + a0_2 + a0_1) ≤ a0_0 := by omega
                    obtain ⟨hb6, hb7⟩ := HB5.out c2'
                    have hd : decide (((e : Int) + a0_2 + a0_1) ≤ a0_0) = true := by simp; omega
                    have hla : ((e : Int) + a0_2 + a0_1) < (A.length : Int) := by rw [HLA.out]; omega
                    obtain ⟨x, hx⟩ : ∃ x, x = rd_T97 A ((e : Int) + a0_2 + a0_1) := ⟨_, rfl⟩
                    have hx0 := (blk_cell HX.out.ha (((e : Int) + a0_2 + a0_1).toNat * 3)).trans (enc97_0 (i := ((e : Int) + a0_2 + a0_1)) (by omega) hla)
                    have hx1 := (blk_cell HX.out.ha (((e : Int) + a0_2 + a0_1).toNat * 3 + 1)).trans (enc97_1 (i := ((e : Int) + a0_2 + a0_1)) (by omega) hla)
                    have hx2 := (blk_cell HX.out.ha (((e : Int) + a0_2 + a0_1).toNat * 3 + 2)).trans (enc97_2 (i := ((e : Int) + a0_2 + a0_1)) (by omega) hla)
                    dsimp only at hx0 hx1 hx2
                    rw [← hx] at hx0 hx1 hx2
                    have HXX := Lib.hid hx
                    clear hx hla c2
                    have d3 : ((!(x.f0.f0 == -1) || (!(x.f0.f1 == -1))) || (!(x.f1 == 0))) = !decide (x = noneC) := noneB' x
                    go_quiet (fail)
                    go_wp2
                    go_meet
                    case rel =>
                      refine ⟨?_, ⟨by first | exact HX.out.draws ⟨_, rfl⟩ | exact (HX.out.draws ⟨_, rfl⟩).draws ⟨_, rfl⟩⟩⟩
                      try rw [d3]
                      rw [← HXX.out]
                      by_cases c3 : x = noneC <;> simp [c3, c2']
              case rest =>
                obtain ⟨rfl, HY⟩ := hcut
                clear hG0 hG1 hG2 hL0 hL1 hk1c hk2c
                generalize hbP : decide (((e : Int) + a0_2 + a0_1) ≤ a0_0 ∧ rd_T97 A ((e : Int) + a0_2 + a0_1) ≠ noneC) = bP
                go_upto_if 184 with (fail)
                go_cut [] (fun wc => Aside0 (BW w wc #[.int .i64 a0_0, .int .i64 a0_1, .int .i64 a0_2, .slice A0_3 l0_3.length c0_3, .slice A0_4 l0_4.length c0_4, .slice A0_5 l0_5.length c0_5, .slice A0_6 l0_6.length c0_6] w.heap.size w15.heap.size (w15.heap.size + 1) (w15.heap.size + 1 + 1) gc gd cc cd ⟨A, t.b.set e (beh1 a0_0 a0_1 a0_2 cp dp A e), t.c⟩))
                case first =>
                  as_aux_lemma =>
                    cases bP
                    case true =>
                      have hP := of_decide_eq_true hbP
                      have hB1 : (beh1 a0_0 a0_1 a0_2 cp dp A e) = ⟨(rd_T97 A ((e : Int) + a0_2 + a0_1)).f0, wrap64 (wrap64 (wrap64 (wrap64 (rd cp ((e : Int) + a0_2) - rd cp (e : Int)) + rd dp ((e : Int) + a0_2 + a0_1)) - rd dp ((e : Int) + a0_2)) + (rd_T97 A ((e : Int) + a0_2 + a0_1)).f1)⟩ := by rw [beh1, if_pos hP]
                      have c2' := hP.1
                      obtain ⟨hb6, hb7⟩ := HB5.out c2'
                      have hla : ((e : Int) + a0_2 + a0_1) < (A.length : Int) := by rw [HLA.out]; omega
                      obtain ⟨x, hx⟩ : ∃ x, x = rd_T97 A ((e : Int) + a0_2 + a0_1) := ⟨_, rfl⟩
                      have hx0 := (blk_cell HY.out.ha (((e : Int) + a0_2 + a0_1).toNat * 3)).trans (enc97_0 (i := ((e : Int) + a0_2 + a0_1)) (by omega) hla)
                      have hx1 := (blk_cell HY.out.ha (((e : Int) + a0_2 + a0_1).toNat * 3 + 1)).trans (enc97_1 (i := ((e : Int) + a0_2 + a0_1)) (by omega) hla)
                      have hx2 := (blk_cell HY.out.ha (((e : Int) + a0_2 + a0_1).toNat * 3 + 2)).trans (enc97_2 (i := ((e : Int) + a0_2 + a0_1)) (by omega) hla)
                      dsimp only at hx0 hx1 hx2
                      rw [← hx] at hx0 hx1 hx2 hB1
                      have hd1 := (blk_cell HY.out.hd ((e : Int) + a0_2 + a0_1).toNat).trans (HCC.out.2.2.2 ((e : Int) + a0_2 + a0_1) (by omega) hb7)
                      have hd2 := (blk_cell HY.out.hd ((e : Int) + a0_2).toNat).trans (HCC.out.2.2.2 ((e : Int) + a0_2) (by omega) hb4)
                      have hlb' : e < (t.b.set e noneC).length := by rw [List.length_set, HO.out.lb]; omega
                      have hy0 := (blk_cell HY.out.hh (e * 3)).trans (enc97_0 (i := (e : Int)) (by omega) (by dsimp only; omega))
                      have hy1 := (blk_cell HY.out.hh (e * 3 + 1)).trans (enc97_1 (i := (e : Int)) (by omega) (by dsimp only; omega))
                      have hy2 := (blk_cell HY.out.hh (e * 3 + 2)).trans (enc97_2 (i := (e : Int)) (by omega) (by dsimp only; omega))
                      have hfh := blk_frozens HY.out.hh
                      clear hx hla
                      have HP := Lib.hid hP
                      have HLB := Lib.hid hlb'
                      have HB1 := Lib.hid hB1
                      clear hP hlb' hB1 hbP
                      go_wp2
                      refine wp_region_still_tail 26 (by kernel_rfl) (by kernel_rfl) ?_
                      simp only [List.take_succ_cons, List.take_zero, List.drop_succ_cons, List.drop_zero]
                      change wpStill _ _ (World.drew wc) (fun a' => wpList _ _ _ _ a' (World.drew wc)) _ _
                      refine still_of_quiet _ _ ?_
                      repeat (go_big_quiet_step (fail))
                      refine wpQuiet_nil (show wpList _ _ _ _ _ (World.drew wc) from ?_)
                      have HZ := Aside0.mk (HY.out.draw1)
                      have hy0 := (blk_cell HZ.out.hh (e * 3)).trans (enc97_0 (i := (e : Int)) (by omega) (by dsimp only; exact Int.ofNat_lt.mpr HLB.out))
                      have hy1 := (blk_cell HZ.out.hh (e * 3 + 1)).trans (enc97_1 (i := (e : Int)) (by omega) (by dsimp only; exact Int.ofNat_lt.mpr HLB.out))
                      have hy2 := (blk_cell HZ.out.hh (e * 3 + 2)).trans (enc97_2 (i := (e : Int)) (by omega) (by dsimp only; exact Int.ofNat_lt.mpr HLB.out))
                      have hfh := blk_frozens HZ.out.hh
                      go_wp2
                      go_meet
                      case rel =>
                        have := HZ.out.setH e HLB.out ⟨x.f0, wrap64 (wrap64 (wrap64 (wrap64 (rd cp ((e : Int) + a0_2) - rd cp (e : Int)) + rd dp ((e : Int) + a0_2 + a0_1)) - rd dp ((e : Int) + a0_2)) + x.f1)⟩
                        simp only [List.set_set] at this
                        rw [HB1.out]
                        exact ⟨this⟩
                    case false =>
                      have hP := of_decide_eq_false hbP
                      have hB1 : (beh1 a0_0 a0_1 a0_2 cp dp A e) = noneC := by rw [beh1, if_neg hP]
                      have HB1 := Lib.hid hB1
                      clear hP hB1 hbP
                      go_wp2
                      go_meet
                      case rel => rw [HB1.out]; exact HY
                case rest =>
                  as_aux_lemma =>
                    obtain ⟨y, hy⟩ : ∃ y, y = rd_T97 t.b ((e : Int) + a0_2) := ⟨_, rfl⟩
                    obtain ⟨z, hz⟩ : ∃ z, z = (beh1 a0_0 a0_1 a0_2 cp dp A e) := ⟨_, rfl⟩
                    rw [← hz] at hcut
                    have hlb1 : e < t.b.length := by rw [HO.out.lb]; omega
                    have hyb : (e : Int) + a0_2 < ((t.b.set e z).length : Int) := by rw [List.length_set, HO.out.lb]; omega
                    have hye : rd_T97 (t.b.set e z) ((e : Int) + a0_2) = y := by rw [rd_set _ _ _ _ (by omega) hlb1, if_neg (by omega), hy]
                    have hze : rd_T97 (t.b.set e z) (e : Int) = z := by rw [rd_set _ _ _ _ (by omega) hlb1, if_pos rfl]
                    have hyn : rd_T97 (t.b.set e noneC) ((e : Int) + a0_2) = y := by rw [rd_set _ _ _ _ (by omega) hlb1, if_neg (by omega), hy]
                    obtain ⟨W0, hW0⟩ : ∃ W0, W0 = wrap64 (rd cp ((e : Int) + a0_2) - rd cp (e : Int)) := ⟨_, rfl⟩
                    have hBEH : (behE a0_0 a0_1 a0_2 cp dp A (t.b.set e noneC) e) = if y ≠ noneC ∧ (z = noneC ∨ z.f1 < wrap64 (W0 + y.f1)) then ⟨y.f0, wrap64 (W0 + y.f1)⟩ else z := by rw [behE, if_pos c1', hyn, ← hz, ← hW0]
                    rw [← hW0]
                    have hx0 := (blk_cell hcut.out.hh (((e : Int) + a0_2).toNat * 3)).trans (enc97_0 (i := (e : Int) + a0_2) (by omega) hyb)
                    have hx1 := (blk_cell hcut.out.hh (((e : Int) + a0_2).toNat * 3 + 1)).trans (enc97_1 (i := (e : Int) + a0_2) (by omega) hyb)
                    have hx2 := (blk_cell hcut.out.hh (((e : Int) + a0_2).toNat * 3 + 2)).trans (enc97_2 (i := (e : Int) + a0_2) (by omega) hyb)
                    dsimp only at hx0 hx1 hx2
                    rw [hye] at hx0 hx1 hx2
                    have hzb : (e : Int) < ((t.b.set e z).length : Int) := by omega
                    have hu0 := (blk_cell hcut.out.hh (e * 3)).trans (enc97_0 (i := (e : Int)) (by omega) hzb)
                    have hu1 := (blk_cell hcut.out.hh (e * 3 + 1)).trans (enc97_1 (i := (e : Int)) (by omega) hzb)
                    have hu2 := (blk_cell hcut.out.hh (e * 3 + 2)).trans (enc97_2 (i := (e : Int)) (by omega) hzb)
                    dsimp only at hu0 hu1 hu2
                    rw [hze] at hu0 hu1 hu2
                    have HBEH := Lib.hid hBEH
                    have HY' := Lib.hid hy
                    have HZ' := Lib.hid hz
                    have HLB := Lib.hid hlb1
                    have hgne : (w.heap.size + 1 + 1) = (w.heap.size + 1 + 1) := rfl
                    clear hye hze hyn hy hz hyb hzb hBEH hW0 hlb1
                    have hG0 : ∀ o, (wc.alloc o).cell? ⟨0, 0, none⟩ = some (.int .i64 (-1)) := fun o => blk_cell (blk_alloc hcut.out.hg o) 0
                    have hfh := blk_frozens hcut.out.hh
                    clear hG0
                    go_upto_region 31 with (fail)
                    have HD := Aside0.mk (hcut.out.alloc (.cells #[.int .i64 y.f0.f0, .int .i64 y.f0.f1, .int .i64 y.f1] 97))
                    have HN := Aside0.mk (blk_new wc (.cells #[.int .i64 y.f0.f0, .int .i64 y.f0.f1, .int .i64 y.f1] 97))
                    obtain ⟨gn, hgn⟩ : ∃ g, g = wc.heap.size := ⟨_, rfl⟩
                    rw [← hgn] at HN ⊢
                    generalize wc.alloc (.cells #[.int .i64 y.f0.f0, .int .i64 y.f0.f1, .int .i64 y.f1] 97) = w3 at HD HN ⊢
                    clear hx0 hx1 hx2 hu0 hu1 hu2 hfh hgn hcut
                    have hn0 : w3.cell? ⟨gn, 0, none⟩ = some (.int .i64 y.f0.f0) := blk_cell HN.out 0
                    have hn1 : w3.cell? ⟨gn, 1, none⟩ = some (.int .i64 y.f0.f1) := blk_cell HN.out 1
                    have hn2 : w3.cell? ⟨gn, 2, none⟩ = some (.int .i64 y.f1) := blk_cell HN.out 2
                    have hG0 : w3.cell? ⟨0, 0, none⟩ = some (.int .i64 (-1)) := blk_cell HD.out.hg 0
                    have hG1 : w3.cell? ⟨0, 1, none⟩ = some (.int .i64 (-1)) := blk_cell HD.out.hg 1
                    have hG2 : w3.cell? ⟨0, 2, none⟩ = some (.int .i64 0) := blk_cell HD.out.hg 2
                    have hlbz : e < (t.b.set e z).length := by rw [List.length_set]; exact HLB.out
                    have hu0 := (blk_cell HD.out.hh (e * 3)).trans (enc97_0 (i := (e : Int)) (by omega) (by dsimp only; omega))
                    have hu1 := (blk_cell HD.out.hh (e * 3 + 1)).trans (enc97_1 (i := (e : Int)) (by omega) (by dsimp only; omega))
                    have hu2 := (blk_cell HD.out.hh (e * 3 + 2)).trans (enc97_2 (i := (e : Int)) (by omega) (by dsimp only; omega))
                    dsimp only at hu0 hu1 hu2
                    rw [rd_set _ _ _ _ (by omega) HLB.out, if_pos rfl] at hu0 hu1 hu2
                    have hfh := blk_frozens HD.out.hh
                    have HLBZ := Lib.hid hlbz
                    clear hlbz
                    have d1 : ((!(y.f0.f0 == -1) || (!(y.f0.f1 == -1))) || (!(y.f1 == 0))) = !decide (y = noneC) := noneB' y
                    have d2 : ((z.f0.f0 == -1 && (z.f0.f1 == -1)) && (z.f1 == 0)) = decide (z = noneC) := noneB z
                    by_cases c4 : y = noneC
                    · rw [decide_eq_true c4] at d1
                      simp only [Bool.not_true] at d1
                      have C4 := Lib.hid c4
                      clear c4
                      go_quiet (fail)
                      go_wp2
                      go_meet
                      case rel =>
                        rw [HBEH.out, if_neg (fun h => h.1 C4.out)]
                        exact ⟨HD.out.draws ⟨_, rfl⟩⟩
                    · rw [decide_eq_false c4] at d1
                      simp only [Bool.not_false] at d1
                      have C4 := Lib.hid c4
                      clear c4
                      by_cases c5 : z = noneC
                      · rw [decide_eq_true c5] at d2
                        have C5 := Lib.hid c5
                        clear c5
                        go_quiet (fail)
                        go_wp2
                        go_meet
                        case rel =>
                          rw [HBEH.out, if_pos ⟨C4.out, .inl C5.out⟩]
                          have := (HD.out.draws ⟨nq, rfl⟩).setH e HLBZ.out ⟨y.f0, wrap64 (W0 + y.f1)⟩
                          simp only [List.set_set] at this
                          exact ⟨this⟩
                      · rw [decide_eq_false c5] at d2
                        have C5 := Lib.hid c5
                        clear c5
                        by_cases c6 : z.f1 < wrap64 (W0 + y.f1)
                        · have hd : decide (z.f1 < wrap64 (W0 + y.f1)) = true := decide_eq_true c6
                          have C6 := Lib.hid c6
                          clear c6
                          go_quiet (fail)
                          go_wp2
                          go_meet
                          case rel =>
                            rw [HBEH.out, if_pos ⟨C4.out, .inr C6.out⟩]
                            have := (HD.out.draws ⟨nq, rfl⟩).setH e HLBZ.out ⟨y.f0, wrap64 (W0 + y.f1)⟩
                            simp only [List.set_set] at this
                            exact ⟨this⟩
                        · have hd : decide (z.f1 < wrap64 (W0 + y.f1)) = false := decide_eq_false c6
                          have C6 := Lib.hid c6
                          clear c6
                          go_quiet (fail)
                          go_wp2
                          go_meet
                          case rel =>
                            rw [HBEH.out, if_neg (fun h => h.2.elim C5.out (Int.not_lt.mpr C6.out))]
                            exact ⟨HD.out.draws ⟨_, rfl⟩⟩
          case rest =>
            as_aux_lemma =>
              obtain ⟨B, hB⟩ : ∃ B, B = t.b.set e (behE a0_0 a0_1 a0_2 cp dp A (t.b.set e noneC) e) := ⟨_, rfl⟩
              rw [← hB] at hcut
              have hlB : B.length = a0_0.toNat + 1 := by rw [hB, List.length_set, HO.out.lb]
              have hlA := HLA.out
              have hlC : t.c.length = a0_0.toNat + 1 := HO.out.lc
              have hle : (e : Int) < (A.length : Int) := by omega
              have hle2 : (e : Int) < (B.length : Int) := by omega
              have hle3 : e < t.c.length := by omega
              have hBB := Lib.hid hB
              clear hB
              obtain ⟨xa, hxa⟩ : ∃ x, x = rd_T97 A (e : Int) := ⟨_, rfl⟩
              obtain ⟨xb, hxb⟩ : ∃ x, x = rd_T97 B (e : Int) := ⟨_, rfl⟩
              have hk1c : wc.cell? ⟨gc, e, none⟩ = some (.int .i64 (rd cp e)) := by
                have := (blk_cell hcut.out.hc e).trans (by simpa using HCC.out.2.2.1 (e : Int) (by omega) (by omega))
                exact this
              have hk2c := (blk_cell hcut.out.hc a0_0.toNat).trans (HCC.out.2.2.1 a0_0 (by omega) (by omega))
              have hb1 : (e : Int) < (cp.length : Int) := by omega
              have hb2 : a0_0 < (cp.length : Int) := by omega
              have hG0 : wc.cell? ⟨0, 0, none⟩ = some (.int .i64 (-1)) := blk_cell hcut.out.hg 0
              have hG1 : wc.cell? ⟨0, 1, none⟩ = some (.int .i64 (-1)) := blk_cell hcut.out.hg 1
              have hL0 : wc.cell? ⟨w.heap.size, 0, none⟩ = some (.int .i64 a0_0) := blk_cell hcut.out.hl 0
              have HLL := Lib.hid (And.intro hlB (And.intro hlA (And.intro hlC (And.intro hm0 hcl))))
              have HLE := Lib.hid (And.intro hle (And.intro hle2 hle3))
              clear hlB hlA hlC hm0 hcl hle hle2 hle3
              go_wp2
              refine wp_region_still_tail 16 (by kernel_rfl) (by kernel_rfl) ?_
              simp only [List.take_succ_cons, List.take_zero, List.drop_succ_cons, List.drop_zero]
              change wpStill _ _ (World.drew wc) (fun a' => wpList _ _ _ _ a' (World.drew wc)) _ _
              refine still_of_quiet _ _ ?_
              repeat (go_big_quiet_step (fail))
              refine wpQuiet_nil (show wpList _ _ _ _ _ (World.drew wc) from ?_)
              have hy0 := (blk_cell hcut.out.hb (e * 3)).trans (enc97_0 (i := (e : Int)) (by omega) (by dsimp only; exact Int.ofNat_lt.mpr HLE.out.2.2))
              have hy1 := (blk_cell hcut.out.hb (e * 3 + 1)).trans (enc97_1 (i := (e : Int)) (by omega) (by dsimp only; exact Int.ofNat_lt.mpr HLE.out.2.2))
              have hy2 := (blk_cell hcut.out.hb (e * 3 + 2)).trans (enc97_2 (i := (e : Int)) (by omega) (by dsimp only; exact Int.ofNat_lt.mpr HLE.out.2.2))
              have hfb := blk_frozens hcut.out.hb
              go_wp2
              have HZ := Aside0.mk ((hcut.out.setB e HLE.out.2.2 ⟨⟨-1, -1⟩, wrap64 (rd cp a0_0 - rd cp (e : Int))⟩).draw1)
              try dsimp only at HZ
              generalize World.drew (((wc.setCell ⟨w15.heap.size + 1 + 1, e * 3, none⟩ _).setCell _ _).setCell _ _) = w4 at HZ ⊢
              clear hk1c hk2c hG0 hG1 hL0 hy0 hy1 hy2 hfb hcut
              have hp0 := (blk_cell HZ.out.ha (e * 3)).trans (enc97_0 (i := (e : Int)) (by omega) HLE.out.1)
              have hp1 := (blk_cell HZ.out.ha (e * 3 + 1)).trans (enc97_1 (i := (e : Int)) (by omega) HLE.out.1)
              have hp2 := (blk_cell HZ.out.ha (e * 3 + 2)).trans (enc97_2 (i := (e : Int)) (by omega) HLE.out.1)
              have hq0 := (blk_cell HZ.out.hh (e * 3)).trans (enc97_0 (i := (e : Int)) (by omega) HLE.out.2.1)
              have hq1 := (blk_cell HZ.out.hh (e * 3 + 1)).trans (enc97_1 (i := (e : Int)) (by omega) HLE.out.2.1)
              have hq2 := (blk_cell HZ.out.hh (e * 3 + 2)).trans (enc97_2 (i := (e : Int)) (by omega) HLE.out.2.1)
              try dsimp only at hp0 hp1 hp2 hq0 hq1 hq2
              rw [← hxa] at hp0 hp1 hp2
              have hw4 : ∀ o, (w4.drew.alloc o) = w4.drew.alloc o := fun _ => rfl
              clear hw4
              rw [← hxb] at hq0 hq1 hq2
              have HXA := Lib.hid hxa
              have HXB := Lib.hid hxb
              clear hxa hxb
              refine start_ (n := 11) (S := fun w' => w'.cell? ⟨w15.heap.size, e * 3, none⟩ = some (.int .i64 xa.f0.f0) ∧ w'.cell? ⟨w15.heap.size, e * 3 + 1, none⟩ = some (.int .i64 xa.f0.f1) ∧ w'.cell? ⟨w15.heap.size, e * 3 + 2, none⟩ = some (.int .i64 xa.f1) ∧ w'.cell? ⟨w15.heap.size + 1, e * 3, none⟩ = some (.int .i64 xb.f0.f0) ∧ w'.cell? ⟨w15.heap.size + 1, e * 3 + 1, none⟩ = some (.int .i64 xb.f0.f1) ∧ w'.cell? ⟨w15.heap.size + 1, e * 3 + 2, none⟩ = some (.int .i64 xb.f1)) (ds := []) #[false, false, false, false, false, false, false, false, false, false, false] (by kernel_rfl) rfl rfl ⟨hp0, hp1, hp2, hq0, hq1, hq2⟩ (fun hHeld => ?_); refine with_tabW cutting_Best.tab34 cutting_Best.bits34 (fun HT_ HW_ => ?_)
              have HZd := Aside0.mk HZ.out.draw1
              clear hp0 hp1 hp2 hq0 hq1 hq2 HZ
              generalize World.drew w4 = w4d at HZd hHeld ⊢
              refine pu1 0 (some 264) #[true, false, false, false, false, false, false, false, false, false, false] ?_
              refine pu1 1 (some 265) #[true, true, false, false, false, false, false, false, false, false, false] ?_
              refine pu1 2 (some 266) #[true, true, true, false, false, false, false, false, false, false, false] ?_
              refine pu1 4 (some 268) #[true, true, true, false, true, false, false, false, false, false, false] ?_
              refine pu1 5 (some 269) #[true, true, true, false, true, true, false, false, false, false, false] ?_
              refine pu1 6 (some 270) #[true, true, true, false, true, true, true, false, false, false, false] ?_
              refine pu1 10 (some 274) #[true, true, true, false, true, true, true, false, false, false, true] ?_
              refine ta1 3 (some 267) #[true, true, true, true, true, true, true, false, false, false, true] ?_
              refine ta1 7 (some 271) #[true, true, true, true, true, true, true, true, false, false, true] ?_
              refine one_ (i := 8) (N := some 272) #[true, true, true, true, true, true, true, true, true, false, true] rfl rfl (one_of HT_.out (by kernel_rfl)) (by decide) (fun K hK => ?_)
              refine event_step (v := .slice (some ⟨w4d.heap.size, 0, none⟩) 2 2) (w1 := w4d.alloc (.cells (enc97 [xa, xb]) 97)) (by rfl) (build97 _ _ rfl xa xb rfl rfl _) ?_
              have HB_ : Below w4d.heap.size w4d (w4d.alloc (.cells (enc97 [xa, xb]) 97)) := below_alloc (Below.refl _ _) _
              have HQ0 : (w4d.alloc (.cells (enc97 [xa, xb]) 97)).heap[w4d.heap.size]? = some (.cells (enc97 [xa, xb]) 97 (0, 0)) := blk_new w4d _
              have HZ5 := Aside0.mk (HZd.out.alloc (.cells (enc97 [xa, xb]) 97))
              have hqb : w4d.heap.size ≠ w15.heap.size + 1 + 1 := by have := blk_lt HZd.out.hb; omega
              generalize w4d.alloc (.cells (enc97 [xa, xb]) 97) = w5 at HB_ HQ0 HZ5 ⊢
              obtain ⟨s0, s1, s2, s3, s4, s5⟩ := hHeld
              replace s0 := pw_cell_below HB_ s0
              replace s1 := pw_cell_below HB_ s1
              replace s2 := pw_cell_below HB_ s2
              replace s3 := pw_cell_below HB_ s3
              replace s4 := pw_cell_below HB_ s4
              replace s5 := pw_cell_below HB_ s5
              obtain ⟨gq, hgq⟩ : ∃ g, g = w4d.heap.size := ⟨_, rfl⟩
              rw [← hgq] at HQ0 hqb ⊢
              clear HB_ hgq HZd
              refine hK.out _ _ ⟨s0, s1, s2, s3, s4, s5⟩ (fun hHeld => ?_)
              clear hK K s0 s1 s2 s3 s4 s5
              refine norm_ (a' := ?_) ?_ ?_
              rotate_left
              · show Act.put _ (some 272) _ = _
                simp only [Act.put, List.setIfInBounds_toArray, List.set_cons_zero, List.set_cons_succ, i64_w, i32_w]
                rfl
              refine pu1 9 (some 273) #[true, true, true, true, true, true, true, true, true, true, true] ?_
              refine done_ (done_of HT_.out (by kernel_rfl)) ?_
              clear hHeld HT_ HW_
              have HQ1 := Aside0.mk HQ0
              have HQB := Lib.hid hqb
              clear HQ0 hqb
              go_wp2
              go_loopg [274] 2 (fun j v274 wl => ∃ i : Nat, v274 = .int .i64 i ∧ i + j = 2 ∧ Aside0 (BW w wl #[.int .i64 a0_0, .int .i64 a0_1, .int .i64 a0_2, .slice A0_3 l0_3.length c0_3, .slice A0_4 l0_4.length c0_4, .slice A0_5 l0_5.length c0_5, .slice A0_6 l0_6.length c0_6] w.heap.size w15.heap.size (w15.heap.size + 1) (w15.heap.size + 1 + 1) gc gd cc cd ⟨A, B, t.c.set e (bestK a0_0 cp xa xb e i)⟩) ∧ Aside0 (wl.heap[gq]? = some (.cells (enc97 [xa, xb]) 97 (0, 0))))
              case atStart => exact ⟨0, rfl, rfl, HZ5, HQ1⟩
              case round =>
                clear HZ5 HQ1
                obtain ⟨i, rfl, hij, HX, HQ⟩ := hrel
                rcases gk with _ | j
                · obtain rfl : i = 2 := by omega
                  go_wp2
                  go_roundg e
                  case measure => omega
                  case rel =>
                    have hst : stepT a0_0 a0_1 a0_2 l0_3 l0_4 cp dp t e = ⟨A, B, t.c.set e (bestK a0_0 cp xa xb e 2)⟩ := by
                      rw [stepT]
                      skip
                      rw [← HAA.out, ← hBB.out, ← HXA.out, ← HXB.out]
                      rfl
                    refine ⟨⟨A, B, t.c.set e (bestK a0_0 cp xa xb e 2)⟩, by first | rfl | go_num, by omega, HX, ⟨?_⟩, ⟨?_⟩⟩
                    · rw [← hst]; exact HO.out.step hel hk0 hp0
                    · rw [← hst]; exact HRUN.out
                · have hi2 : (i : Int) < 2 := by omega
                  obtain ⟨x, hx⟩ : ∃ x, x = rd_T97 [xa, xb] (i : Int) := ⟨_, rfl⟩
                  obtain ⟨b, hb⟩ : ∃ b, b = bestK a0_0 cp xa xb e i := ⟨_, rfl⟩
                  rw [← hb] at HX
                  have hnx : bestK a0_0 cp xa xb e (i + 1) = better x b := by rw [bestK, ← hx, ← hb]
                  have hil : (i : Int) < (([xa, xb] : List S97).length : Int) := by simpa using hi2
                  have hx0 := (blk_cell HQ.out (i * 3)).trans (enc97_0 (i := (i : Int)) (by omega) hil)
                  have hx1 := (blk_cell HQ.out (i * 3 + 1)).trans (enc97_1 (i := (i : Int)) (by omega) hil)
                  have hx2 := (blk_cell HQ.out (i * 3 + 2)).trans (enc97_2 (i := (i : Int)) (by omega) hil)
                  rw [← hx] at hx0 hx1 hx2
                  have HNX := Lib.hid hnx
                  clear hnx hx hb hil
                  go_upto_region 37 with (fail)
                  have HX1 := Aside0.mk (HX.out.alloc (.cells #[.int .i64 x.f0.f0, .int .i64 x.f0.f1, .int .i64 x.f1] 97))
                  have HQ1 := Aside0.mk (blk_alloc HQ.out (.cells #[.int .i64 x.f0.f0, .int .i64 x.f0.f1, .int .i64 x.f1] 97))
                  have HN := Aside0.mk (blk_new wr (.cells #[.int .i64 x.f0.f0, .int .i64 x.f0.f1, .int .i64 x.f1] 97))
                  obtain ⟨gn, hgn⟩ : ∃ g, g = wr.heap.size := ⟨_, rfl⟩
                  rw [← hgn] at HN ⊢
                  generalize wr.alloc (.cells #[.int .i64 x.f0.f0, .int .i64 x.f0.f1, .int .i64 x.f1] 97) = w6 at HX1 HQ1 HN ⊢
                  clear hgn hx0 hx1 hx2 HX HQ
                  have hn0 : w6.cell? ⟨gn, 0, none⟩ = some (.int .i64 x.f0.f0) := blk_cell HN.out 0
                  have hn1 : w6.cell? ⟨gn, 1, none⟩ = some (.int .i64 x.f0.f1) := blk_cell HN.out 1
                  have hn2 : w6.cell? ⟨gn, 2, none⟩ = some (.int .i64 x.f1) := blk_cell HN.out 2
                  have hG0 : w6.cell? ⟨0, 0, none⟩ = some (.int .i64 (-1)) := blk_cell HX1.out.hg 0
                  have hG1 : w6.cell? ⟨0, 1, none⟩ = some (.int .i64 (-1)) := blk_cell HX1.out.hg 1
                  have hG2 : w6.cell? ⟨0, 2, none⟩ = some (.int .i64 0) := blk_cell HX1.out.hg 2
                  have hlbz : e < (t.c.set e b).length := by rw [List.length_set]; exact HLE.out.2.2
                  have hu0 := (blk_cell HX1.out.hb (e * 3)).trans (enc97_0 (i := (e : Int)) (by omega) (by dsimp only; omega))
                  have hu1 := (blk_cell HX1.out.hb (e * 3 + 1)).trans (enc97_1 (i := (e : Int)) (by omega) (by dsimp only; omega))
                  have hu2 := (blk_cell HX1.out.hb (e * 3 + 2)).trans (enc97_2 (i := (e : Int)) (by omega) (by dsimp only; omega))
                  try dsimp only at hu0 hu1 hu2
                  rw [rd_set _ _ _ _ (by omega) HLE.out.2.2, if_pos rfl] at hu0 hu1 hu2
                  have hfb := blk_frozens HX1.out.hb
                  have HLBZ := Lib.hid hlbz
                  clear hlbz
                  have d1 : ((!(x.f0.f0 == -1) || (!(x.f0.f1 == -1))) || (!(x.f1 == 0))) = !decide (x = noneC) := noneB' x
                  by_cases c4 : x = noneC
                  · rw [decide_eq_true c4] at d1
                    simp only [Bool.not_true] at d1
                    have C4 := Lib.hid c4
                    clear c4
                    go_quiet (fail)
                    go_wp2
                    go_roundg j
                    case measure => omega
                    case rel =>
                      refine ⟨i + 1, by go_num, by omega, ⟨?_⟩, ⟨blk_drewN HQ1.out nq⟩⟩
                      rw [HNX.out, better, if_neg (fun h => h.1 C4.out)]
                      exact HX1.out.draws ⟨_, rfl⟩
                  · rw [decide_eq_false c4] at d1
                    simp only [Bool.not_false] at d1
                    have C4 := Lib.hid c4
                    clear c4
                    by_cases c6 : b.f1 < x.f1
                    · have hd : decide (b.f1 < x.f1) = true := decide_eq_true c6
                      have C6 := Lib.hid c6
                      clear c6
                      go_quiet (fail)
                      go_wp2
                      go_roundg j
                      case measure => omega
                      case rel =>
                        refine ⟨i + 1, by go_num, by omega, ⟨?_⟩, ⟨blk_far3 (blk_drewN HQ1.out nq) HQB.out _ _ _⟩⟩
                        rw [HNX.out, better, if_pos ⟨C4.out, C6.out⟩]
                        have := (HX1.out.draws ⟨nq, rfl⟩).setB e HLBZ.out x
                        simp only [List.set_set] at this
                        exact this
                    · have hd : decide (b.f1 < x.f1) = false := decide_eq_false c6
                      have C6 := Lib.hid c6
                      clear c6
                      go_quiet (fail)
                      go_wp2
                      go_roundg j
                      case measure => omega
                      case rel =>
                        refine ⟨i + 1, by go_num, by omega, ⟨?_⟩, ⟨blk_drewN HQ1.out nq⟩⟩
                        rw [HNX.out, better, if_neg (fun h => (Int.not_lt.mpr C6.out) h.2)]
                        exact HX1.out.draws ⟨_, rfl⟩
        · as_aux_lemma =>
            have hin : (i : Int) < (l0_3.length : Int) := by omega
            have hin' : i < l0_3.length := by omega
            obtain ⟨ad3, rfl, hs⟩ := Kd.at_int (Kd.C_below HR0_3.out HX.out.be) i (by omega) hin
            obtain ⟨size, hsize⟩ : ∃ z, z = rd l0_3 i := ⟨_, rfl⟩
            rw [← hsize] at hs
            simp only [Int.toNat_natCast] at hs
            have hsz0 : 1 ≤ size ∧ size ≤ 2000 := by rw [hsize]; exact OKH.out.sizes0 i (by omega) hin
            obtain ⟨hsz0, hsz1⟩ := hsz0
            have hrow := OKH.out.rows i (by omega) hin
            rw [← hsize] at hrow
            have HS := Lib.hid hsize
            have HROW := Lib.hid hrow
            clear hsize hrow
            by_cases c1 : a0_0 < (e : Int) + size
            · go_wp2
              go_roundg j
              case measure => omega
              case rel =>
                refine ⟨i + 1, by go_num, by omega, ⟨?_⟩⟩
                have : atN a0_0 a0_1 l0_3 l0_4 dp t.c e (i + 1) = atN a0_0 a0_1 l0_3 l0_4 dp t.c e i := by rw [atN, atOne, if_pos (by rw [← HS.out]; exact .inl c1)]
                rw [this]
                exact HX.out
            have hn4 := OKH.out.ngain
            obtain ⟨ad4, Ar, cr, rfl, hr4, hrc, hrr⟩ := at_L1 (Kd.C_below HR0_4.out HX.out.be) i (by omega) (by omega)
            have hq : (e : Int) < ((rd_L1 l0_4 i).length : Int) := by have := HROW.out; unfold mx at this; split at this <;> omega
            obtain ⟨adr, rfl, hcell⟩ := Kd.at_int hrr e (by omega) hq
            obtain ⟨g, hg⟩ : ∃ g, g = rd (rd_L1 l0_4 i) e := ⟨_, rfl⟩
            rw [← hg] at hcell
            simp only [Int.toNat_natCast] at hr4 hcell
            have hs4 : (i : Int) < (l0_4.length : Int) := by omega
            obtain ⟨nrow, hnrow⟩ : ∃ n, n = (rd_L1 l0_4 i).length := ⟨_, rfl⟩
            rw [← hnrow] at hr4 hrc hq
            have HGG := Lib.hid hg
            clear hg hnrow hrr hn4
            by_cases c2 : g < 0
            · go_wp2
              go_roundg j
              case measure => omega
              case rel =>
                refine ⟨i + 1, by go_num, by omega, ⟨?_⟩⟩
                have : atN a0_0 a0_1 l0_3 l0_4 dp t.c e (i + 1) = atN a0_0 a0_1 l0_3 l0_4 dp t.c e i := by rw [atN, atOne, if_pos (by rw [← HGG.out]; exact .inr c2)]
                rw [this]
                exact HX.out
            have hm0 := HM0.out
            have hfa := blk_frozens HX.out.ha
            obtain ⟨cur, hcur⟩ : ∃ c, c = atN a0_0 a0_1 l0_3 l0_4 dp t.c e i := ⟨_, rfl⟩
            rw [← hcur] at HX
            have HCUR := Lib.hid hcur
            clear hcur
            have hset : rd_T97 (t.a.set e cur) e = cur := by rw [rd_set _ _ _ _ (by omega) (by rw [HO.out.la]; omega), if_pos rfl]
            have hlen : (e : Int) < ((t.a.set e cur).length : Int) := by rw [List.length_set, HO.out.la]; omega
            have hlen' : e < (t.a.set e cur).length := by omega
            have hha : wr.heap[w15.heap.size]? = some (.cells (enc97 (t.a.set e cur)) 97 (0, 0)) := HX.out.ha
            have hca0 := (blk_cell hha (e * 3)).trans (enc97_0 (i := (e : Int)) (by omega) hlen)
            have hca1 := (blk_cell hha (e * 3 + 1)).trans (enc97_1 (i := (e : Int)) (by omega) hlen)
            have hca2 := (blk_cell hha (e * 3 + 2)).trans (enc97_2 (i := (e : Int)) (by omega) hlen)
            rw [hset] at hca0 hca1 hca2
            clear hset hlen hha
            have hcl := HCL.out
            by_cases c3 : (e : Int) + size < a0_0
            · have hdu1 := (blk_cell HX.out.hd ((e : Int) + size).toNat).trans (HCC.out.2.2.2 ((e : Int) + size) (by omega) (by omega))
              by_cases c4 : (e : Int) + size + a0_1 ≤ a0_0
              · have hdu2 := (blk_cell HX.out.hd ((e : Int) + size + a0_1).toNat).trans (HCC.out.2.2.2 ((e : Int) + size + a0_1) (by omega) (by omega))
                have hbe := (blk_cell HX.out.hb (((e : Int) + size + a0_1).toNat * 3 + 2)).trans (enc97_2 (i := (e : Int) + size + a0_1) (by omega) (by show _ < ((t.c.length : Nat) : Int); rw [HO.out.lc]; omega))
                have hb1 : (e : Int) + size < (dp.length : Int) := by omega
                have hb2 : (e : Int) + size + a0_1 < (dp.length : Int) := by omega
                have hb3 : (e : Int) + size + a0_1 < (m : Int) := by omega
                have HM1 := Lib.hid hm0
                have HCL1 := Lib.hid hcl
                clear hm0 hcl
                go_wp2
                go_quiet (fail)
                go_wp2
                by_cases c5 : cur = noneC
                · have d5 : ((cur.f0.f0 == -1 && (cur.f0.f1 == -1)) && (cur.f1 == 0)) = true := by rw [noneB]; simp [c5]
                  have C5 := Lib.hid c5
                  clear c5
                  go_quiet (fail)
                  go_wp2
                  go_roundg j
                  case measure => omega
                  case rel =>
                    refine ⟨i + 1, by go_num, by omega, ⟨?_⟩⟩
                    have ht : atN a0_0 a0_1 l0_3 l0_4 dp t.c e (i + 1) = ⟨⟨(i : Int), (e : Int)⟩, wrap64 (g + wrap64 (wrap64 (rd dp ((e : Int) + size + a0_1) - rd dp ((e : Int) + size)) + (rd_T97 t.c ((e : Int) + size + a0_1)).f1))⟩ := by
                      rw [atN, ← HCUR.out, atOne, if_neg (by rw [← HS.out, ← HGG.out]; omega)]
                      have hv : atVal a0_0 a0_1 l0_3 l0_4 dp t.c e i = wrap64 (g + wrap64 (wrap64 (rd dp ((e : Int) + size + a0_1) - rd dp ((e : Int) + size)) + (rd_T97 t.c ((e : Int) + size + a0_1)).f1)) := by
                        rw [atVal, ← HS.out, ← HGG.out, if_pos c3, show mn ((e : Int) + size + a0_1) a0_0 = (e : Int) + size + a0_1 from by unfold mn; split <;> omega]
                      rw [hv, if_pos (.inl C5.out)]
                    rw [ht]
                    have := fun nq => (HX.out.draw nq).setA e hlen' ⟨⟨i, e⟩, wrap64 (g + wrap64 (wrap64 (rd dp ((e : Int) + size + a0_1) - rd dp ((e : Int) + size)) + (rd_T97 t.c ((e : Int) + size + a0_1)).f1))⟩
                    dsimp only at this
                    simp only [List.set_set] at this
                    first
                      | exact this _
                      | (simp only [World.drewN_drewN]; exact this _)
                · have d5 : ((cur.f0.f0 == -1 && (cur.f0.f1 == -1)) && (cur.f1 == 0)) = false := by rw [noneB]; simp [c5]
                  by_cases c6 : cur.f1 < wrap64 (g + wrap64 (wrap64 (rd dp ((e : Int) + size + a0_1) - rd dp ((e : Int) + size)) + (rd_T97 t.c ((e : Int) + size + a0_1)).f1))
                  · have d6 : decide (cur.f1 < wrap64 (g + wrap64 (wrap64 (rd dp ((e : Int) + size + a0_1) - rd dp ((e : Int) + size)) + (rd_T97 t.c ((e : Int) + size + a0_1)).f1))) = true := decide_eq_true c6
                    go_quiet (fail)
                    go_wp2
                    go_roundg j
                    case measure => omega
                    case rel =>
                      refine ⟨i + 1, by go_num, by omega, ⟨?_⟩⟩
                      have ht : atN a0_0 a0_1 l0_3 l0_4 dp t.c e (i + 1) = ⟨⟨(i : Int), (e : Int)⟩, wrap64 (g + wrap64 (wrap64 (rd dp ((e : Int) + size + a0_1) - rd dp ((e : Int) + size)) + (rd_T97 t.c ((e : Int) + size + a0_1)).f1))⟩ := by
                        rw [atN, ← HCUR.out, atOne, if_neg (by rw [← HS.out, ← HGG.out]; omega)]
                        have hv : atVal a0_0 a0_1 l0_3 l0_4 dp t.c e i = wrap64 (g + wrap64 (wrap64 (rd dp ((e : Int) + size + a0_1) - rd dp ((e : Int) + size)) + (rd_T97 t.c ((e : Int) + size + a0_1)).f1)) := by
                          rw [atVal, ← HS.out, ← HGG.out, if_pos c3, show mn ((e : Int) + size + a0_1) a0_0 = (e : Int) + size + a0_1 from by unfold mn; split <;> omega]
                        rw [hv, if_pos (.inr c6)]
                      rw [ht]
                      have := fun nq => (HX.out.draw nq).setA e hlen' ⟨⟨i, e⟩, wrap64 (g + wrap64 (wrap64 (rd dp ((e : Int) + size + a0_1) - rd dp ((e : Int) + size)) + (rd_T97 t.c ((e : Int) + size + a0_1)).f1))⟩
                      dsimp only at this
                      simp only [List.set_set] at this
                      first
                        | exact this _
                        | (simp only [World.drewN_drewN]; exact this _)
                  · have d6 : decide (cur.f1 < wrap64 (g + wrap64 (wrap64 (rd dp ((e : Int) + size + a0_1) - rd dp ((e : Int) + size)) + (rd_T97 t.c ((e : Int) + size + a0_1)).f1))) = false := decide_eq_false c6
                    go_quiet (fail)
                    go_wp2
                    go_roundg j
                    case measure => omega
                    case rel =>
                      refine ⟨i + 1, by go_num, by omega, ⟨?_⟩⟩
                      have ht : atN a0_0 a0_1 l0_3 l0_4 dp t.c e (i + 1) = cur := by
                        rw [atN, ← HCUR.out, atOne, if_neg (by rw [← HS.out, ← HGG.out]; omega)]
                        have hv : atVal a0_0 a0_1 l0_3 l0_4 dp t.c e i = wrap64 (g + wrap64 (wrap64 (rd dp ((e : Int) + size + a0_1) - rd dp ((e : Int) + size)) + (rd_T97 t.c ((e : Int) + size + a0_1)).f1)) := by
                          rw [atVal, ← HS.out, ← HGG.out, if_pos c3, show mn ((e : Int) + size + a0_1) a0_0 = (e : Int) + size + a0_1 from by unfold mn; split <;> omega]
                        rw [hv, if_neg (by rintro (h | h) <;> first | exact c5 h | omega)]
                      rw [ht]
                      first
                        | exact HX.out.draw _
                        | (simp only [World.drewN_drewN]; exact HX.out.draw _)
              · have hdu2 := (blk_cell HX.out.hd a0_0.toNat).trans (HCC.out.2.2.2 a0_0 (by omega) (by omega))
                have hbe := (blk_cell HX.out.hb (a0_0.toNat * 3 + 2)).trans (enc97_2 (i := a0_0) (by omega) (by show _ < ((t.c.length : Nat) : Int); rw [HO.out.lc]; omega))
                have hb1 : (e : Int) + size < (dp.length : Int) := by omega
                have hb2 : a0_0 < (dp.length : Int) := by omega
                have hb3 : a0_0 < (m : Int) := by omega
                have HM1 := Lib.hid hm0
                have HCL1 := Lib.hid hcl
                clear hm0 hcl
                go_wp2
                go_quiet (fail)
                go_wp2
                by_cases c5 : cur = noneC
                · have d5 : ((cur.f0.f0 == -1 && (cur.f0.f1 == -1)) && (cur.f1 == 0)) = true := by rw [noneB]; simp [c5]
                  have C5 := Lib.hid c5
                  clear c5
                  go_quiet (fail)
                  go_wp2
                  go_roundg j
                  case measure => omega
                  case rel =>
                    refine ⟨i + 1, by go_num, by omega, ⟨?_⟩⟩
                    have ht : atN a0_0 a0_1 l0_3 l0_4 dp t.c e (i + 1) = ⟨⟨(i : Int), (e : Int)⟩, wrap64 (g + wrap64 (wrap64 (rd dp a0_0 - rd dp ((e : Int) + size)) + (rd_T97 t.c a0_0).f1))⟩ := by
                      rw [atN, ← HCUR.out, atOne, if_neg (by rw [← HS.out, ← HGG.out]; omega)]
                      have hv : atVal a0_0 a0_1 l0_3 l0_4 dp t.c e i = wrap64 (g + wrap64 (wrap64 (rd dp a0_0 - rd dp ((e : Int) + size)) + (rd_T97 t.c a0_0).f1)) := by
                        rw [atVal, ← HS.out, ← HGG.out, if_pos c3, show mn ((e : Int) + size + a0_1) a0_0 = a0_0 from by unfold mn; split <;> omega]
                      rw [hv, if_pos (.inl C5.out)]
                    rw [ht]
                    have := fun nq => (HX.out.draw nq).setA e hlen' ⟨⟨i, e⟩, wrap64 (g + wrap64 (wrap64 (rd dp a0_0 - rd dp ((e : Int) + size)) + (rd_T97 t.c a0_0).f1))⟩
                    dsimp only at this
                    simp only [List.set_set] at this
                    first
                      | exact this _
                      | (simp only [World.drewN_drewN]; exact this _)
                · have d5 : ((cur.f0.f0 == -1 && (cur.f0.f1 == -1)) && (cur.f1 == 0)) = false := by rw [noneB]; simp [c5]
                  by_cases c6 : cur.f1 < wrap64 (g + wrap64 (wrap64 (rd dp a0_0 - rd dp ((e : Int) + size)) + (rd_T97 t.c a0_0).f1))
                  · have d6 : decide (cur.f1 < wrap64 (g + wrap64 (wrap64 (rd dp a0_0 - rd dp ((e : Int) + size)) + (rd_T97 t.c a0_0).f1))) = true := decide_eq_true c6
                    go_quiet (fail)
                    go_wp2
                    go_roundg j
                    case measure => omega
                    case rel =>
                      refine ⟨i + 1, by go_num, by omega, ⟨?_⟩⟩
                      have ht : atN a0_0 a0_1 l0_3 l0_4 dp t.c e (i + 1) = ⟨⟨(i : Int), (e : Int)⟩, wrap64 (g + wrap64 (wrap64 (rd dp a0_0 - rd dp ((e : Int) + size)) + (rd_T97 t.c a0_0).f1))⟩ := by
                        rw [atN, ← HCUR.out, atOne, if_neg (by rw [← HS.out, ← HGG.out]; omega)]
                        have hv : atVal a0_0 a0_1 l0_3 l0_4 dp t.c e i = wrap64 (g + wrap64 (wrap64 (rd dp a0_0 - rd dp ((e : Int) + size)) + (rd_T97 t.c a0_0).f1)) := by
                          rw [atVal, ← HS.out, ← HGG.out, if_pos c3, show mn ((e : Int) + size + a0_1) a0_0 = a0_0 from by unfold mn; split <;> omega]
                        rw [hv, if_pos (.inr c6)]
                      rw [ht]
                      have := fun nq => (HX.out.draw nq).setA e hlen' ⟨⟨i, e⟩, wrap64 (g + wrap64 (wrap64 (rd dp a0_0 - rd dp ((e : Int) + size)) + (rd_T97 t.c a0_0).f1))⟩
                      dsimp only at this
                      simp only [List.set_set] at this
                      first
                        | exact this _
                        | (simp only [World.drewN_drewN]; exact this _)
                  · have d6 : decide (cur.f1 < wrap64 (g + wrap64 (wrap64 (rd dp a0_0 - rd dp ((e : Int) + size)) + (rd_T97 t.c a0_0).f1))) = false := decide_eq_false c6
                    go_quiet (fail)
                    go_wp2
                    go_roundg j
                    case measure => omega
                    case rel =>
                      refine ⟨i + 1, by go_num, by omega, ⟨?_⟩⟩
                      have ht : atN a0_0 a0_1 l0_3 l0_4 dp t.c e (i + 1) = cur := by
                        rw [atN, ← HCUR.out, atOne, if_neg (by rw [← HS.out, ← HGG.out]; omega)]
                        have hv : atVal a0_0 a0_1 l0_3 l0_4 dp t.c e i = wrap64 (g + wrap64 (wrap64 (rd dp a0_0 - rd dp ((e : Int) + size)) + (rd_T97 t.c a0_0).f1)) := by
                          rw [atVal, ← HS.out, ← HGG.out, if_pos c3, show mn ((e : Int) + size + a0_1) a0_0 = a0_0 from by unfold mn; split <;> omega]
                        rw [hv, if_neg (by rintro (h | h) <;> first | exact c5 h | omega)]
                      rw [ht]
                      first
                        | exact HX.out.draw _
                        | (simp only [World.drewN_drewN]; exact HX.out.draw _)
            · have HM1 := Lib.hid hm0
              have HCL1 := Lib.hid hcl
              clear hm0 hcl
              go_wp2
              by_cases c5 : cur = noneC
              · have d5 : ((cur.f0.f0 == -1 && (cur.f0.f1 == -1)) && (cur.f1 == 0)) = true := by rw [noneB]; simp [c5]
                have C5 := Lib.hid c5
                clear c5
                go_quiet (fail)
                go_wp2
                go_roundg j
                case measure => omega
                case rel =>
                  refine ⟨i + 1, by go_num, by omega, ⟨?_⟩⟩
                  have ht : atN a0_0 a0_1 l0_3 l0_4 dp t.c e (i + 1) = ⟨⟨(i : Int), (e : Int)⟩, g⟩ := by
                    rw [atN, ← HCUR.out, atOne, if_neg (by rw [← HS.out, ← HGG.out]; omega)]
                    have hv : atVal a0_0 a0_1 l0_3 l0_4 dp t.c e i = g := by
                      rw [atVal, ← HS.out, ← HGG.out, if_neg (by omega)]
                    rw [hv, if_pos (.inl C5.out)]
                  rw [ht]
                  have := fun nq => (HX.out.draw nq).setA e hlen' ⟨⟨i, e⟩, g⟩
                  dsimp only at this
                  simp only [List.set_set] at this
                  first
                    | exact this _
                    | (simp only [World.drewN_drewN]; exact this _)
              · have d5 : ((cur.f0.f0 == -1 && (cur.f0.f1 == -1)) && (cur.f1 == 0)) = false := by rw [noneB]; simp [c5]
                by_cases c6 : cur.f1 < g
                · have d6 : decide (cur.f1 < g) = true := decide_eq_true c6
                  go_quiet (fail)
                  go_wp2
                  go_roundg j
                  case measure => omega
                  case rel =>
                    refine ⟨i + 1, by go_num, by omega, ⟨?_⟩⟩
                    have ht : atN a0_0 a0_1 l0_3 l0_4 dp t.c e (i + 1) = ⟨⟨(i : Int), (e : Int)⟩, g⟩ := by
                      rw [atN, ← HCUR.out, atOne, if_neg (by rw [← HS.out, ← HGG.out]; omega)]
                      have hv : atVal a0_0 a0_1 l0_3 l0_4 dp t.c e i = g := by
                        rw [atVal, ← HS.out, ← HGG.out, if_neg (by omega)]
                      rw [hv, if_pos (.inr c6)]
                    rw [ht]
                    have := fun nq => (HX.out.draw nq).setA e hlen' ⟨⟨i, e⟩, g⟩
                    dsimp only at this
                    simp only [List.set_set] at this
                    first
                      | exact this _
                      | (simp only [World.drewN_drewN]; exact this _)
                · have d6 : decide (cur.f1 < g) = false := decide_eq_false c6
                  go_quiet (fail)
                  go_wp2
                  go_roundg j
                  case measure => omega
                  case rel =>
                    refine ⟨i + 1, by go_num, by omega, ⟨?_⟩⟩
                    have ht : atN a0_0 a0_1 l0_3 l0_4 dp t.c e (i + 1) = cur := by
                      rw [atN, ← HCUR.out, atOne, if_neg (by rw [← HS.out, ← HGG.out]; omega)]
                      have hv : atVal a0_0 a0_1 l0_3 l0_4 dp t.c e i = g := by
                        rw [atVal, ← HS.out, ← HGG.out, if_neg (by omega)]
                      rw [hv, if_neg (by rintro (h | h) <;> first | exact c5 h | omega)]
                    rw [ht]
                    first
                      | exact HX.out.draw _
                      | (simp only [World.drewN_drewN]; exact HX.out.draw _)
end Go.Proofs.YtoaicheopcojoaaDoor.P
