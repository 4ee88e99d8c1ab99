import Derived.Test.YtoaicheopcojoaaDoorSq
import Derived.Lib.Hide
namespace Go.Proofs.YtoaicheopcojoaaDoor.P
open Go.RowKit Go.Proofs.YtoaicheopcojoaaDoorW.PrintWords Go.Proofs.YtoaicheopcojoaaDoorW.PrintLast Go.Proofs.YtoaicheopcojoaaDoorW.PrintMore
set_option linter.unusedVariables false
set_option linter.unusedSimpArgs false
/-! ### sawmilllaw17_copied: function 42, by hand out of a print (wip/tools/print42.sh, mk42.py) -/
section
open Kd
theorem R_append_rows_step {α : Type} {P : Program} {ops : Array Oper} {o : Oper} {a : Act} {Q : Exit → Act → World → Prop} {Kc : Act → World → Prop} (d : Kd α) {Rr : α → List Value → Prop} {w0 W : World} (base : Nat) (hw : Region.wanted o (yielded ops a.tmps) = true) (s x : Operand) (t e : TypeId) (z : Value) (bytes : Nat)
    (ho : o.op = .call { callee := .builtin .append, args := #[s, x], argTypes := #[t, t] })
    (ht : P.underlying t = some (.slice e)) (hinfo : (P.info? e).map (fun i => (i.zero, i.size, i.bytes)) = some (some z, d.sz, bytes)) (hz : z.cells.size = d.sz) (hs0 : 0 < d.sz) (hb0 : 0 < bytes)
    (v : Value) (xs ys : List α) (A : Option Addr) (m c : Nat) (ok okp : Nat → Prop) (hs : a.eval s = v) (hx : a.eval x = .slice A m c)
    (HO : d.R e W base ok v xs) (HR : ReadsRow Rr d.sz W A m ys) (hKM : ∀ x cs, Rr x cs → d.M W base okp x cs) (hokp : ∀ k, okp k → ok k ∧ some k ≠ v.ownBlock) (hfresh : ∀ k, W.heap.size ≤ k → ok k)
    (HB : Below base w0 W) (hbase : base ≤ W.heap.size) (hl : (xs.length + m) * bytes ≤ 140737488355328)
    (h : ∀ v1 w1, d.R e w1 base ok v1 (xs ++ ys) → Below base w0 w1 → W.grownBy w1 v.ownBlock → (v1.ownBlock = v.ownBlock ∨ ∃ b, v1.ownBlock = some b ∧ W.heap.size ≤ b) → Kc (a.put o.dst v1) w1) :
    if Region.wanted o (yielded ops a.tmps) = true then Oper.wp P o a W Kc Q else Kc (a.put o.dst undef) W := by
  obtain ⟨i0, hi, hzz⟩ := Option.map_eq_some_iff.1 hinfo
  simp only [Prod.mk.injEq] at hzz
  obtain ⟨hz0, hz1, hz2⟩ := hzz
  have hm : ys.length = m := HR.1
  have hlen : xs.length + m ≤ 140737488355328 := Nat.le_trans (Nat.le_mul_of_pos_right _ hb0) hl
  obtain ⟨hok, inner, hown, hr⟩ := HO
  have hrun : ∃ v1 w1, (Builtin.append_ #[t, t] o.type #[v, .slice A m c]).run P W = .ok v1 w1 ∧ d.R e w1 base ok v1 (xs ++ ys) ∧ W.grownBy w1 v.ownBlock ∧ (v1.ownBlock = v.ownBlock ∨ ∃ b, v1.ownBlock = some b ∧ W.heap.size ≤ b) := by
    rcases A with _ | ad
    · have h0 : m = 0 := by
        rcases Nat.eq_zero_or_pos m with h0 | h0
        · exact h0
        · obtain ⟨ad, h, _⟩ := HR.2.2 h0
          cases h
      subst h0
      obtain rfl : ys = [] := List.eq_nil_of_length_eq_zero hm
      refine ⟨v, W, ?_, by rw [List.append_nil]; exact ⟨hok, inner, hown, hr⟩, World.grownBy.refl W _, .inl rfl⟩
      rcases hown.2 with ⟨rfl, hn⟩ | ⟨g, cap, cur, rfl, _, _, hnc, _⟩
      · simp [Builtin.append_, run_underlying ht, sizeOf, typeInfo, hi, Builtin.lenOf, Builtin.firstCells]
      · simp [Builtin.append_, run_underlying ht, sizeOf, typeInfo, hi, Builtin.lenOf, Builtin.firstCells, hnc, storeCells]
    · obtain ⟨news, hnr, hnc⟩ := ReadsRow.inner_ HR
      have hnM : Reps (d.M W base okp) d.sz ys news := hnr.imp_ (fun p c hp => hKM p c hp)
      have hone : ∀ u ∈ news, u.oneCell' = true := by
        intro u hu
        obtain ⟨q, hq, rfl⟩ := List.mem_iff_getElem.1 hu
        have hql : q / d.sz < ys.length := by
          rw [Nat.div_lt_iff_lt_mul hs0]
          rw [← hnM.1]
          exact hq
        have hc := hnM.2 (q / d.sz) _ (List.getElem?_eq_getElem hql)
        refine d.K_one (d.K_of_M hc) _ ?_
        rw [List.mem_iff_getElem?]
        refine ⟨q % d.sz, ?_⟩
        rw [List.getElem?_take, if_pos (Nat.mod_lt _ hs0), List.getElem?_drop, Nat.mul_comm, Nat.div_add_mod, List.getElem?_eq_getElem hq]
      obtain ⟨v1, w1, hrun, h2, hg, _, hat⟩ := run_append_own_at (P := P) W base t o.type e i0 z d.sz bytes ht hi hz0 hz1 hz2 hz hs0 v xs.length inner hown ad m c news (by rw [hnM.1, hm]) hnc hone (by simp only [maxLen]; omega) hl hbase
      have hat' : v1.ownBlock = v.ownBlock ∨ ∃ b, v1.ownBlock = some b ∧ W.heap.size ≤ b := by
        rcases hat with hat | hat
        · exact .inl hat
        · exact .inr ⟨_, hat, Nat.le_refl _⟩
      have hne : ∀ k, some k ≠ v.ownBlock → k < W.heap.size → some k ≠ v1.ownBlock := by
        intro k hk hlt
        rcases hat' with hat | ⟨b, hb, hle⟩
        · rw [hat]; exact hk
        · rw [hb]
          intro he
          injection he with he
          omega
      have step : ∀ {q : α} {c : List Value} {o : Nat → Prop}, d.M W base o q c → (∀ k, o k → ok k ∧ some k ≠ v.ownBlock) → d.M w1 base (fun k => ok k ∧ some k ≠ v1.ownBlock) q c := by
        intro q c o hq ho
        have h1 := d.M_move (w1 := w1) (fun k hk => hg.block k hk.2.2.1 (ho k hk.1).2) (d.M_bound hq)
        exact d.M_mono (fun k hk => ⟨(ho k hk.1).1, hne k (ho k hk.1).2 hk.2.2.1⟩) h1
      refine ⟨v1, w1, hrun, ⟨fun k hk => ?_, inner ++ news, by rw [List.length_append, hm]; exact h2, reps_append (hr.imp_ (fun _ _ hq => step hq (fun _ hk => hk))) (hnM.imp_ (fun _ _ hq => step hq hokp))⟩, hg, hat'⟩
      rcases hat' with hat | ⟨b, hb, hle⟩
      · exact hok k (hat ▸ hk)
      · rw [hb] at hk
        injection hk with hk
        exact hfresh k (by omega)
  obtain ⟨v1, w1, hr1, h1, hg, hat⟩ := hrun
  rw [if_pos hw]
  unfold Oper.wp execOp
  simp only [ho, resolve, invoke, builtin, Sem.run_bind, Sem.run_pure, Result.andThen_ok, List.map_toArray, List.map_cons, List.map_nil, hs, hx, hr1]
  exact h v1 w1 h1 (HB.grown hg hbase (own_base hown)) hg hat

theorem far1 {W : World} {g g' i t' : Nat} {c : Value} {cs : Array Value} (ho : W.heap[g']? = some (.cells cs t' (0, 0))) (hne : g' ≠ g) : (W.setCell ⟨g, i, none⟩ c).heap[g']? = some (.cells cs t' (0, 0)) := blk_far (p := ⟨g, i, none⟩) ho hne _
/-- A struct of seven cells written whole into a block. -/
theorem set7_facts {w w5 : World} {g t : Nat} {c0 c1 c2 c3 c4 c5 c6 z0 z1 z2 z3 z4 z5 z6 : Value} (h : w5.heap[g]? = some (.cells #[z0, z1, z2, z3, z4, z5, z6] t (0, 0))) (hB : Below w.heap.size w w5) (hg : w.heap.size ≤ g) :
    ∃ W, W = (((((((w5.setCell ⟨g, 0, none⟩ c0).setCell ⟨g, 1, none⟩ c1).setCell ⟨g, 2, none⟩ c2).setCell ⟨g, 3, none⟩ c3).setCell ⟨g, 4, none⟩ c4).setCell ⟨g, 5, none⟩ c5).setCell ⟨g, 6, none⟩ c6) ∧ W.heap[g]? = some (.cells #[c0, c1, c2, c3, c4, c5, c6] t (0, 0)) ∧ Below w.heap.size w W ∧ ∀ (g' t' : Nat) (cs : Array Value), g' ≠ g → w5.heap[g']? = some (.cells cs t' (0, 0)) → W.heap[g']? = some (.cells cs t' (0, 0)) := by
  refine ⟨_, rfl, ?_, ?_, fun g' t' cs hne ho => ?_⟩
  · refine blk_put (cs := #[c0, c1, c2, c3, c4, c5, z6]) ?_ 6 _ rfl
    refine blk_put (cs := #[c0, c1, c2, c3, c4, z5, z6]) ?_ 5 _ rfl
    refine blk_put (cs := #[c0, c1, c2, c3, z4, z5, z6]) ?_ 4 _ rfl
    refine blk_put (cs := #[c0, c1, c2, z3, z4, z5, z6]) ?_ 3 _ rfl
    refine blk_put (cs := #[c0, c1, z2, z3, z4, z5, z6]) ?_ 2 _ rfl
    refine blk_put (cs := #[c0, z1, z2, z3, z4, z5, z6]) ?_ 1 _ rfl
    refine blk_put (cs := #[z0, z1, z2, z3, z4, z5, z6]) ?_ 0 _ rfl
    exact h
  · exact below_set (below_set (below_set (below_set (below_set (below_set (below_set hB hg) hg) hg) hg) hg) hg) hg
  · exact far1 (far1 (far1 (far1 (far1 (far1 (far1 ho hne) hne) hne) hne) hne) hne) hne
/-- A fresh empty row. -/
theorem R_empty {W : World} {ok : Nat → Prop} (hok : ok W.heap.size) : R (Kd.int .i64) 3 (W.alloc (.cells #[] 3)) W.heap.size ok (.slice (some ⟨W.heap.size, 0, none⟩) 0 0) [] := by
  refine ⟨fun k hk => ?_, [], ⟨by simp, .inr ⟨W.heap.size, 0, #[], rfl, Nat.le_refl _, heap_alloc_new W _, by simp, by simp, by simp⟩⟩, Reps.none _ _⟩
  injection hk with hk
  exact hk ▸ hok
end
theorem take_step (l : List (List Int)) (i : Nat) (h : i < l.length) : l.take (i + 1) = l.take i ++ [rd_L1 l (i : Int)] := by
  rw [List.take_add_one, List.getElem?_eq_getElem h]
  simp [rd_L1, h]
def sawmilllaw17_copied.f (a0_0 : Int) (a0_1 : Int) (a0_2 : Int) (l0_3 : List Int) (l0_4 : List (List Int)) (l0_5 : List Int) (l0_6 : List Int) : Option (Int × Int × Int × List Int × (List (List Int)) × List Int × List Int) :=
  if l0_3.length ≤ 1000000 ∧ l0_4.length ≤ 1000000 ∧ (l0_4.all fun r => decide (r.length ≤ 1000000)) = true then some (a0_0, a0_1, a0_2, l0_3, l0_4, l0_5, l0_6) else none
def sawmilllaw17_copied.T7 : Bool × List (List Nat × List Nat) := (true, [([], []), ([0], [0]), ([], []), ([], []), ([3], [3]), ([], []), ([4, 5], [4, 5]), ([6], [6]), ([2, 7], [2, 7]), ([8], [8]), ([1, 9, 8], [1, 9]), ([0, 1, 2, 3, 4, 5, 6, 7, 8, 9, 10], []), ([11, 10, 10, 0, 1, 2, 3, 4, 5, 6, 7, 8, 9, 10], [10, 11])])
def sawmilllaw17_copied.B7 : List Nat := [0, 1, 0, 0, 8, 0, 56, 120, 252, 508, 1023, 2047, 4095]
theorem sawmilllaw17_copied.tab7 : rtab .any (opsOf Tryd.f42 7) = sawmilllaw17_copied.T7 := by kernel_rfl
theorem sawmilllaw17_copied.bits7 : waitsOk sawmilllaw17_copied.T7.2 sawmilllaw17_copied.B7 = true := by kernel_rfl
set_option maxHeartbeats 8000000 in
set_option maxRecDepth 100000 in
theorem sawmilllaw17_copied.calls (a0_0 : Int) (a0_1 : Int) (a0_2 : Int) (A0_3 : Option Addr) (c0_3 : Nat) (l0_3 : List Int) (A0_4 : Option Addr) (c0_4 : Nat) (l0_4 : List (List Int)) (A0_5 : Option Addr) (c0_5 : Nat) (l0_5 : List Int) (A0_6 : Option Addr) (c0_6 : Nat) (l0_6 : List Int) (w : World) (hr0_3 : Kd.C (Kd.int .i64) w A0_3 l0_3.length l0_3) (hc0_3 : l0_3.length ≤ c0_3) (hr0_4 : Kd.C (Kd.slice 3 (Kd.int .i64)) w A0_4 l0_4.length l0_4) (hc0_4 : l0_4.length ≤ c0_4) (hs : l0_3.length ≤ 1000000) (hg : l0_4.length ≤ 1000000) (hrow : ∀ i : Int, 0 ≤ i → i < (l0_4.length : Int) → (rd_L1 l0_4 i).length ≤ 1000000) :
    Calls Tryd.prog 42 #[.agg #[.int .i64 a0_0, .int .i64 a0_1, .int .i64 a0_2, .slice A0_3 l0_3.length c0_3, .slice A0_4 l0_4.length c0_4, .slice A0_5 l0_5.length c0_5, .slice A0_6 l0_6.length c0_6]] w fun e w' => ∃ v3_ v4_ : Value, e = .returned (.agg #[.int .i64 a0_0, .int .i64 a0_1, .int .i64 a0_2, v3_, v4_, .slice A0_5 l0_5.length c0_5, .slice A0_6 l0_6.length c0_6]) ∧ Kd.R (Kd.int .i64) 3 w' w.heap.size (fun _ => True) v3_ l0_3 ∧ Kd.S (Kd.slice 3 (Kd.int .i64)) 22 w' w.heap.size (fun k_ => some k_ ≠ (v3_ : Value).ownBlock) v4_ l0_4 ∧ Below w.heap.size w w' := by
 have hu25 := Tryd.underlying25
 have HR0_3 := Aside0.mk hr0_3
 have HC0_3 := Aside0.mk hc0_3
 clear hr0_3 hc0_3
 have HR0_4 := Aside0.mk hr0_4
 have HC0_4 := Aside0.mk hc0_4
 clear hr0_4 hc0_4
 have HS := Aside0.mk hs
 have HG := Aside0.mk hg
 have HRW := Aside0.mk hrow
 clear hs hg hrow
 have HB := Aside0.mk (Below.refl w.heap.size w)
 go_enter Tryd.func42, Tryd.ntmps42
 go_upto_region 2 with (first | ((with_reducible refine gate_dst (N := 1) rfl ?_); refine bx1 (N := 1) #[.int .i64 a0_0, .int .i64 a0_1, .int .i64 a0_2, .slice A0_3 l0_3.length c0_3, .slice A0_4 l0_4.length c0_4, .slice A0_5 l0_5.length c0_5, .slice A0_6 l0_6.length c0_6] 25 ?_; intro gb105 hg w3 hbox hb; have n0_ := Aside0.mk (below_step bl hb); have n1_ := Aside0.mk (hbox); have n2_ := Aside0.mk ((gs1 : w.heap.size ≤ gb105)); have n3_ := Aside0.mk ((gs1 : w.heap.size ≤ gb105)); clear HB; have HB := n0_; have BK105 := n1_; have GW105 := n2_; have GE105 := n3_; clear n0_ n1_ n2_ n3_; clear hb hbox hg) | ((with_reducible refine gate_dst (N := 2) rfl ?_); refine bx1 (N := 2) #[.int .i64 0, .int .i64 0, .int .i64 0, .slice none 0 0, .slice none 0 0, .slice none 0 0, .slice none 0 0] 25 ?_; intro gb106 hg w4 hbox hb; have n0_ := Aside0.mk (blk_below (bu BK105.out) hb); have n1_ := Aside0.mk (below_step bl hb); have n2_ := Aside0.mk (hbox); have n3_ := Aside0.mk ((gs1 : w.heap.size ≤ gb106)); have n4_ := Aside0.mk ((gs1 : w.heap.size ≤ gb106)); have n5_ := Aside0.mk ((nl1 BK105 : gb105 ≠ gb106)); have n6_ := Aside0.mk ((ng1 BK105 : gb106 ≠ gb105)); clear BK105; clear HB; have BK105 := n0_; have HB := n1_; have BK106 := n2_; have GW106 := n3_; have GE106 := n4_; have NB105_106 := n5_; have NB106_105 := n6_; clear n0_ n1_ n2_ n3_ n4_ n5_ n6_; clear hb hbox hg; have hcz1 := blk_cells BK105.out; have hfz1 := blk_frozens BK105.out) | ((with_reducible refine gate_dst (N := 3) rfl ?_); refine bx1 (N := 3) #[.int .i64 0, .int .i64 0, .int .i64 0, .slice none 0 0, .slice none 0 0, .slice none 0 0, .slice none 0 0] 25 ?_; intro gb107 hg w5 hbox hb; have n0_ := Aside0.mk (blk_below (bu BK105.out) hb); have n1_ := Aside0.mk (blk_below (bu BK106.out) hb); have n2_ := Aside0.mk (below_step bl hb); have n3_ := Aside0.mk (hbox); have n4_ := Aside0.mk ((gs1 : w.heap.size ≤ gb107)); have n5_ := Aside0.mk ((gs1 : w.heap.size ≤ gb107)); have n6_ := Aside0.mk ((nl1 BK105 : gb105 ≠ gb107)); have n7_ := Aside0.mk ((ng1 BK105 : gb107 ≠ gb105)); have n8_ := Aside0.mk ((nl1 BK106 : gb106 ≠ gb107)); have n9_ := Aside0.mk ((ng1 BK106 : gb107 ≠ gb106)); clear BK105; clear BK106; clear HB; have BK105 := n0_; have BK106 := n1_; have HB := n2_; have BK107 := n3_; have GW107 := n4_; have GE107 := n5_; have NB105_107 := n6_; have NB107_105 := n7_; have NB106_107 := n8_; have NB107_106 := n9_; clear n0_ n1_ n2_ n3_ n4_ n5_ n6_ n7_ n8_ n9_; clear hb hbox hg; have hnb6 := NB105_106.out; have hnc6 := NB106_105.out; have hnb7 := NB105_107.out; have hnc7 := NB107_105.out; have hcz8 := blk_cells BK105.out; have hfz8 := blk_frozens BK105.out; have hcz3 := blk_cells BK107.out; have hfz3 := blk_frozens BK107.out))
 clear hcz8 hfz8 hcz3 hfz3
 obtain ⟨w6, e6, n3_, n2_, far⟩ := set7_facts (w := w) (c0 := .int .i64 a0_0) (c1 := .int .i64 a0_1) (c2 := .int .i64 a0_2) (c3 := .slice A0_3 l0_3.length c0_3) (c4 := .slice A0_4 l0_4.length c0_4) (c5 := .slice A0_5 l0_5.length c0_5) (c6 := .slice A0_6 l0_6.length c0_6) BK107.out HB.out GE107.out
 rw [← e6]
 have n0_ := far gb105 _ _ NB105_107.out BK105.out
 have n1_ := far gb106 _ _ NB106_107.out BK106.out
 clear far e6 BK105 BK106 BK107 HB
 have BK105 := Aside0.mk n0_
 have BK106 := Aside0.mk n1_
 have BK107 := Aside0.mk n3_
 have HB := Aside0.mk n2_
 clear n0_ n1_ n2_ n3_
 have hcz8 := blk_cells BK105.out
 have hfz8 := blk_frozens BK105.out
 go_upto_region 3 with (first | ((with_reducible refine gate_dst (N := 6) rfl ?_); refine Kd.R_lit (Kd.int .i64) _ 3 ?hg (N := 6) ?hd (xs := ([] : List Int)) (inner := []) (ok := fun _ => True) (okp := fun _ => True) ?hr ?hp (fun _ hk => hk) trivial (Below.refl _ _) (Nat.le_refl _) (by simp) ?_; (case hd => rfl); (case hg => rfl); (case hr => first | (go_simp; done) | (go_simp; rfl)); (case hp => exact (Reps.none _ _)); intro v6 w7 ho13 hb hg_ hnew_; clear hg_ hnew_; have n0_ := Aside0.mk (Kd.R_lower ho13 (below_size bl)); have n1_ := Aside0.mk (blk_below (bu BK105.out) hb); have n2_ := Aside0.mk (blk_below (bu BK106.out) hb); have n3_ := Aside0.mk (blk_below (bu BK107.out) hb); have n4_ := Aside0.mk (below_step bl hb); clear BK105 BK106 BK107 HB ho13 hb hcz8 hfz8; have HO6 := n0_; have BK105 := n1_; have BK106 := n2_; have BK107 := n3_; have HB := n4_; clear n0_ n1_ n2_ n3_ n4_; have hcz8 := blk_cells BK105.out; have hfz8 := blk_frozens BK105.out) | ((with_reducible refine gate_builtin (b := .append) (xs := #[.tmp 6, .tmp 8]) rfl ?_); at_builtin; refine Kd.R_append_rows (Kd.int .i64) (w0 := w) w.heap.size rfl (.tmp 6) (.tmp 8) 22 3 (.int .i64 0) 8 rfl Tryd.underlying22 info3 rfl (by decide) (by omega) v6 ([] : List Int) l0_3 _ _ _ (fun _ => True) (fun _ => False) rfl rfl ?aO ?aR (fun _ _ h => h) (fun _ h => h.elim) ?aF ?aB ?aS ?aL ?_; (case aR => exact cu1 (Kd.C_below HR0_3.out HB.out)); (case aB => exact bl); (case aF => exact (fun _ _ => trivial)); (case aO => exact (ru HO6.out)); (case aS => exact (below_size bl)); (case aL => have := HS.out; simp only [List.length_nil]; omega); intro v9 w9 ho hb hg hat; rw [List.nil_append] at ho; have n0_ := Aside0.mk (blk_grown (g := gb105) (o := .cells #[.int .i64 a0_0, .int .i64 a0_1, .int .i64 a0_2, .slice A0_3 l0_3.length c0_3, .slice A0_4 l0_4.length c0_4, .slice A0_5 l0_5.length c0_5, .slice A0_6 l0_6.length c0_6] 25 (0, 0)) (bu BK105.out) hg (Kd.R_ne HO6.out BK105.out (by decide))); have n1_ := Aside0.mk (blk_grown (g := gb106) (o := .cells #[.int .i64 0, .int .i64 0, .int .i64 0, .slice none 0 0, .slice none 0 0, .slice none 0 0, .slice none 0 0] 25 (0, 0)) (bu BK106.out) hg (Kd.R_ne HO6.out BK106.out (by decide))); have n2_ := Aside0.mk (blk_grown (g := gb107) (o := .cells #[.int .i64 a0_0, .int .i64 a0_1, .int .i64 a0_2, .slice A0_3 l0_3.length c0_3, .slice A0_4 l0_4.length c0_4, .slice A0_5 l0_5.length c0_5, .slice A0_6 l0_6.length c0_6] 25 (0, 0)) (bu BK107.out) hg (Kd.R_ne HO6.out BK107.out (by decide))); have n3_ := Aside0.mk hb; have n4_ := Aside0.mk ho; clear BK105 BK106 BK107 HB HO6; have BK105 := n0_; have BK106 := n1_; have BK107 := n2_; have HB := n3_; have HO110 := n4_; clear n0_ n1_ n2_ n3_ n4_ ho hb hg hat hcz8 hfz8; obtain ⟨Ao10, co10, eo10⟩ := Kd.R_slice HO110.out; subst eo10; have hcz12 := blk_cells BK107.out; have hfz12 := blk_frozens BK107.out))
 have hcz12 := blk_cells BK107.out
 have hfz12 := blk_frozens BK107.out
 have hnb11 := NB107_106.out
 have hnc11 := NB106_107.out
 go_wp2
 go_loopg [4] l0_4.length (fun kq v4 w' => ∃ (i : Nat) (u : Value), v4 = .int .i64 (i : Int) ∧ i + kq = l0_4.length ∧ Aside0 (Kd.R (Kd.int .i64) 3 w' w.heap.size (fun _ => True) (.slice Ao10 l0_3.length co10) l0_3) ∧ Aside0 (Kd.S (Kd.slice 3 (Kd.int .i64)) 22 w' w.heap.size (fun k_ => some k_ ≠ ((.slice Ao10 l0_3.length co10) : Value).ownBlock) u (l0_4.take i)) ∧ Aside0 (w'.heap[gb105]? = some (.cells #[.int .i64 a0_0, .int .i64 a0_1, .int .i64 a0_2, .slice A0_3 l0_3.length c0_3, .slice A0_4 l0_4.length c0_4, .slice A0_5 l0_5.length c0_5, .slice A0_6 l0_6.length c0_6] 25 (0, 0))) ∧ Aside0 (w'.heap[gb106]? = some (.cells #[.int .i64 0, .int .i64 0, .int .i64 0, .slice none 0 0, .slice none 0 0, .slice none 0 0, .slice none 0 0] 25 (0, 0))) ∧ Aside0 (w'.heap[gb107]? = some (.cells #[.int .i64 a0_0, .int .i64 a0_1, .int .i64 a0_2, .slice Ao10 l0_3.length co10, u, .slice A0_5 l0_5.length c0_5, .slice A0_6 l0_6.length c0_6] 25 (0, 0))) ∧ Aside0 (Below w.heap.size w w'))
 case atStart => exact ⟨0, .slice none 0 0, rfl, by omega, ⟨by (with_reducible repeat (first | apply Kd.R_alloc | apply Kd.R_drewN | apply Kd.R_drew)); exact Kd.R_mono (Kd.R_far (p := ⟨gb107, 4, none⟩) (Kd.R_far (p := ⟨gb107, 3, none⟩) (Kd.R_types HO110.out BK107.out (by decide)) (fun _ hk => hk.2) (.slice Ao10 l0_3.length co10)) (fun _ hk => hk.2) (.slice none 0 0)) (fun _ hk => trivial)⟩, ⟨by rw [List.take_zero]; exact Kd.S_nil _ _ _ _ _⟩, ⟨by (with_reducible repeat (first | refine blk_drewN ?_ _ | refine blk_drew ?_ | refine blk_alloc ?_ _)); refine blk_far ?_ NB105_107.out _; (with_reducible repeat (first | refine blk_drewN ?_ _ | refine blk_drew ?_ | refine blk_alloc ?_ _)); refine blk_far ?_ NB105_107.out _; (with_reducible repeat (first | refine blk_drewN ?_ _ | refine blk_drew ?_ | refine blk_alloc ?_ _)); exact BK105.out⟩, ⟨by (with_reducible repeat (first | refine blk_drewN ?_ _ | refine blk_drew ?_ | refine blk_alloc ?_ _)); refine blk_far ?_ NB106_107.out _; (with_reducible repeat (first | refine blk_drewN ?_ _ | refine blk_drew ?_ | refine blk_alloc ?_ _)); refine blk_far ?_ NB106_107.out _; (with_reducible repeat (first | refine blk_drewN ?_ _ | refine blk_drew ?_ | refine blk_alloc ?_ _)); exact BK106.out⟩, ⟨by (with_reducible repeat (first | refine blk_drewN ?_ _ | refine blk_drew ?_ | refine blk_alloc ?_ _)); refine blk_put (cs := #[.int .i64 a0_0, .int .i64 a0_1, .int .i64 a0_2, .slice Ao10 l0_3.length co10, .slice A0_4 l0_4.length c0_4, .slice A0_5 l0_5.length c0_5, .slice A0_6 l0_6.length c0_6]) ?_ 4 _ rfl; (with_reducible repeat (first | refine blk_drewN ?_ _ | refine blk_drew ?_ | refine blk_alloc ?_ _)); refine blk_put (cs := #[.int .i64 a0_0, .int .i64 a0_1, .int .i64 a0_2, .slice A0_3 l0_3.length c0_3, .slice A0_4 l0_4.length c0_4, .slice A0_5 l0_5.length c0_5, .slice A0_6 l0_6.length c0_6]) ?_ 3 _ rfl; (with_reducible repeat (first | refine blk_drewN ?_ _ | refine blk_drew ?_ | refine blk_alloc ?_ _)); exact BK107.out⟩, ⟨bl⟩⟩
 clear hcz12 hfz12 BK105 BK106 BK107 HB HO110; (try clear hcz1); (try clear hfz1); (try clear hnb6); (try clear hnc6); (try clear hnb7); (try clear hnc7); (try clear hnb11); (try clear hnc11)
 obtain ⟨i, u, rfl, hij, HO1, HO2, BK105, BK106, BK107, HB⟩ := hrel
 have HI := Aside0.mk hij
 clear hij
 rcases gk with _ | k1
 · have hi : i = l0_4.length := by have := HI.out; omega
   subst hi
   have c13b0 : decide (((l0_4.length : Nat) : Int) < (l0_4.length : Int)) = false := decide_eq_false (by omega)
   have HO2' := HO2.out
   rw [List.take_length] at HO2'
   clear HO2
   have HO2 := Aside0.mk HO2'
   clear HO2'
   have hnb26 := NB105_106.out
   have hnc26 := NB106_105.out
   have hnb27 := NB105_107.out
   have hnc27 := NB107_105.out
   have hcz28 := blk_cells BK105.out
   have hfz28 := blk_frozens BK105.out
   have hnb29 := NB107_106.out
   have hnc29 := NB106_107.out
   have hcz30 := blk_cells BK107.out
   have hfz30 := blk_frozens BK107.out
   have hcz31 := blk_cells BK106.out
   have hfz31 := blk_frozens BK106.out
   obtain ⟨Ao32, co32, eo32⟩ := Kd.S_slice HO2.out
   subst eo32
   go_wp2
   refine bodyPost_ret (results_cell_row rfl _ _ gb106 25 #[.int .i64 a0_0, .int .i64 a0_1, .int .i64 a0_2, .slice Ao10 l0_3.length co10, .slice Ao32 l0_4.length co32, .slice A0_5 l0_5.length c0_5, .slice A0_6 l0_6.length c0_6] (0, 0) _ rfl (by (with_reducible repeat (first | refine blk_drewN ?_ _ | refine blk_drew ?_ | refine blk_alloc ?_ _)); refine blk_put (cs := #[.int .i64 a0_0, .int .i64 a0_1, .int .i64 a0_2, .slice Ao10 l0_3.length co10, .slice Ao32 l0_4.length co32, .slice A0_5 l0_5.length c0_5, .slice none 0 0]) ?_ 6 _ rfl; (with_reducible repeat (first | refine blk_drewN ?_ _ | refine blk_drew ?_ | refine blk_alloc ?_ _)); refine blk_put (cs := #[.int .i64 a0_0, .int .i64 a0_1, .int .i64 a0_2, .slice Ao10 l0_3.length co10, .slice Ao32 l0_4.length co32, .slice none 0 0, .slice none 0 0]) ?_ 5 _ rfl; (with_reducible repeat (first | refine blk_drewN ?_ _ | refine blk_drew ?_ | refine blk_alloc ?_ _)); refine blk_put (cs := #[.int .i64 a0_0, .int .i64 a0_1, .int .i64 a0_2, .slice Ao10 l0_3.length co10, .slice none 0 0, .slice none 0 0, .slice none 0 0]) ?_ 4 _ rfl; (with_reducible repeat (first | refine blk_drewN ?_ _ | refine blk_drew ?_ | refine blk_alloc ?_ _)); refine blk_put (cs := #[.int .i64 a0_0, .int .i64 a0_1, .int .i64 a0_2, .slice none 0 0, .slice none 0 0, .slice none 0 0, .slice none 0 0]) ?_ 3 _ rfl; (with_reducible repeat (first | refine blk_drewN ?_ _ | refine blk_drew ?_ | refine blk_alloc ?_ _)); refine blk_put (cs := #[.int .i64 a0_0, .int .i64 a0_1, .int .i64 0, .slice none 0 0, .slice none 0 0, .slice none 0 0, .slice none 0 0]) ?_ 2 _ rfl; (with_reducible repeat (first | refine blk_drewN ?_ _ | refine blk_drew ?_ | refine blk_alloc ?_ _)); refine blk_put (cs := #[.int .i64 a0_0, .int .i64 0, .int .i64 0, .slice none 0 0, .slice none 0 0, .slice none 0 0, .slice none 0 0]) ?_ 1 _ rfl; (with_reducible repeat (first | refine blk_drewN ?_ _ | refine blk_drew ?_ | refine blk_alloc ?_ _)); refine blk_put (cs := #[.int .i64 0, .int .i64 0, .int .i64 0, .slice none 0 0, .slice none 0 0, .slice none 0 0, .slice none 0 0]) ?_ 0 _ rfl; (with_reducible repeat (first | refine blk_drewN ?_ _ | refine blk_drew ?_ | refine blk_alloc ?_ _)); exact BK106.out) Tryd.underlying25 rfl (by kernel_rfl)) rfl ?_
   exact ⟨_, _, fe1, by (with_reducible repeat (first | apply Kd.R_alloc | apply Kd.R_drewN | apply Kd.R_drew)); exact Kd.R_mono (Kd.R_far (p := ⟨gb106, 6, none⟩) (Kd.R_far (p := ⟨gb106, 5, none⟩) (Kd.R_far (p := ⟨gb106, 4, none⟩) (Kd.R_far (p := ⟨gb106, 3, none⟩) (Kd.R_far (p := ⟨gb106, 2, none⟩) (Kd.R_far (p := ⟨gb106, 1, none⟩) (Kd.R_far (p := ⟨gb106, 0, none⟩) (Kd.R_types HO1.out BK106.out (by decide)) (fun _ hk => hk.2) (.int .i64 a0_0)) (fun _ hk => hk.2) (.int .i64 a0_1)) (fun _ hk => hk.2) (.int .i64 a0_2)) (fun _ hk => hk.2) (.slice Ao10 l0_3.length co10)) (fun _ hk => hk.2) (.slice Ao32 l0_4.length co32)) (fun _ hk => hk.2) (.slice A0_5 l0_5.length c0_5)) (fun _ hk => hk.2) (.slice A0_6 l0_6.length c0_6)) (fun _ hk => trivial), by (with_reducible repeat (first | apply Kd.S_alloc | apply Kd.S_drewN | apply Kd.S_drew)); exact Kd.S_mono (Kd.S_far (p := ⟨gb106, 6, none⟩) (Kd.S_far (p := ⟨gb106, 5, none⟩) (Kd.S_far (p := ⟨gb106, 4, none⟩) (Kd.S_far (p := ⟨gb106, 3, none⟩) (Kd.S_far (p := ⟨gb106, 2, none⟩) (Kd.S_far (p := ⟨gb106, 1, none⟩) (Kd.S_far (p := ⟨gb106, 0, none⟩) (Kd.S_types HO2.out BK106.out (by decide)) (fun _ hk => hk.2) (.int .i64 a0_0)) (fun _ hk => hk.2) (.int .i64 a0_1)) (fun _ hk => hk.2) (.int .i64 a0_2)) (fun _ hk => hk.2) (.slice Ao10 l0_3.length co10)) (fun _ hk => hk.2) (.slice Ao32 l0_4.length co32)) (fun _ hk => hk.2) (.slice A0_5 l0_5.length c0_5)) (fun _ hk => hk.2) (.slice A0_6 l0_6.length c0_6)) (fun _ hk => hk.1), bl⟩
 have hi : i < l0_4.length := by have := HI.out; omega
 have c13b0 : decide ((i : Int) < (l0_4.length : Int)) = true := decide_eq_true (by omega)
 have c14b0 : decide (0 ≤ (i : Int)) = true := decide_eq_true (by omega)
 have LMr := Aside0.mk (HRW.out (i : Int) (by omega) (by omega))
 obtain ⟨xs_, hxs⟩ : ∃ x_ : List (List Int), x_ = l0_4.take i := ⟨_, rfl⟩
 obtain ⟨ys_, hys⟩ : ∃ y_ : List (List Int), y_ = l0_4.take (i + 1) := ⟨_, rfl⟩
 rw [← hxs] at HO2
 have NY_ := Aside0.mk (show ys_ = xs_ ++ [rd_L1 l0_4 (i : Int)] from by rw [hys, hxs]; exact take_step l0_4 i hi)
 have HYS := Lib.hid hys
 have LMt : xs_.length ≤ 1000000 := by rw [hxs, List.length_take]; have := HG.out; omega
 have LMc16 := Aside0.mk LMt
 have HHI := Lib.hid hi
 clear hi LMt hxs hys
 have hnb17 := NB105_106.out
 have hnc17 := NB106_105.out
 have hnb18 := NB105_107.out
 have hnc18 := NB107_105.out
 have hcz19 := blk_cells BK105.out
 have hfz19 := blk_frozens BK105.out
 try go_wp2
 have n0_ := Aside0.mk (Kd.R_drew HO1.out)
 have n1_ := Aside0.mk (Kd.S_drew HO2.out)
 have n2_ := Aside0.mk (blk_drew BK105.out)
 have n3_ := Aside0.mk (blk_drew BK106.out)
 have n4_ := Aside0.mk (blk_drew BK107.out)
 have n5_ := Aside0.mk (below_drew1 HB.out)
 clear HO1; clear HO2; clear BK105; clear BK106; clear BK107; clear HB
 have HO1 := n0_
 have HO2 := n1_
 have BK105 := n2_
 have BK106 := n3_
 have BK107 := n4_
 have HB := n5_
 clear n0_ n1_ n2_ n3_ n4_ n5_
 have p111 : 0 ≤ ((i : Int) : Int) := da1
 have q111 : (i : Int) < (l0_4.length : Int) := da1
 obtain ⟨ad111, A111_0, c111_0, e111, hx111_0, hl111_0, hi111_0⟩ := at_L1 HR0_4.out (i : Int) p111 q111
 simp only [Int.toNat_natCast] at hx111_0
 have hw111_0 := hx111_0
 cases e111
 (try replace hx111_0 := (HB.out.cell (World.block_lt_of_cell? w _ hx111_0)).trans hx111_0)
 have HR111_0 := Aside0.mk hi111_0
 have HC111_0 := Aside0.mk hl111_0
 clear hi111_0 hl111_0
 replace p111 := eq_true p111
 replace q111 := eq_true q111
 refine start_ (n := 13) (S := fun w' => w'.cell? ⟨gb107, 0, none⟩ = some (.int .i64 a0_0) ∧ w'.cell? ⟨gb107, 1, none⟩ = some (.int .i64 a0_1) ∧ w'.cell? ⟨gb107, 2, none⟩ = some (.int .i64 a0_2) ∧ w'.cell? ⟨gb107, 3, none⟩ = some (.slice Ao10 l0_3.length co10) ∧ w'.cell? ⟨gb107, 4, none⟩ = some (u) ∧ w'.cell? ⟨gb107, 5, none⟩ = some (.slice A0_5 l0_5.length c0_5) ∧ w'.cell? ⟨gb107, 6, none⟩ = some (.slice A0_6 l0_6.length c0_6) ∧ w'.cell? ⟨gb105, 0, none⟩ = some (.int .i64 a0_0) ∧ w'.cell? ⟨gb105, 1, none⟩ = some (.int .i64 a0_1) ∧ w'.cell? ⟨gb105, 2, none⟩ = some (.int .i64 a0_2) ∧ w'.cell? ⟨gb105, 3, none⟩ = some (.slice A0_3 l0_3.length c0_3) ∧ w'.cell? ⟨gb105, 4, none⟩ = some (.slice (some ad111) l0_4.length c0_4) ∧ w'.cell? ⟨gb105, 5, none⟩ = some (.slice A0_5 l0_5.length c0_5) ∧ w'.cell? ⟨gb105, 6, none⟩ = some (.slice A0_6 l0_6.length c0_6) ∧ w'.cell? (ad111.add i) = some (.slice A111_0 (rd_L1 l0_4 (i : Int)).length c111_0)) (ds := [12]) #[false, false, false, false, false, false, false, false, false, false, false, false, false] (by kernel_rfl) rfl rfl ⟨(blk_cell BK107.out 0).trans rfl, (blk_cell BK107.out 1).trans rfl, (blk_cell BK107.out 2).trans rfl, (blk_cell BK107.out 3).trans rfl, (blk_cell BK107.out 4).trans rfl, (blk_cell BK107.out 5).trans rfl, (blk_cell BK107.out 6).trans rfl, (blk_cell BK105.out 0).trans rfl, (blk_cell BK105.out 1).trans rfl, (blk_cell BK105.out 2).trans rfl, (blk_cell BK105.out 3).trans rfl, (blk_cell BK105.out 4).trans rfl, (blk_cell BK105.out 5).trans rfl, (blk_cell BK105.out 6).trans rfl, ((HB.out.cell (World.block_lt_of_cell? w _ hw111_0)).trans hw111_0)⟩ (fun hHeld => ?_); refine with_tabW sawmilllaw17_copied.tab7 sawmilllaw17_copied.bits7 (fun HT_ HW_ => ?_)
 generalize wr.drew = w20 at HO1 HO2 BK105 BK106 BK107 HB HR111_0 hx111_0 hHeld ⊢
 refine pu1 0 (some 19) #[true, false, false, false, false, false, false, false, false, false, false, false, false] ?_
 refine pu1 3 (some 22) #[true, false, false, true, false, false, false, false, false, false, false, false, false] ?_
 refine pu1 5 (some 24) #[true, false, false, true, false, true, false, false, false, false, false, false, false] ?_
 refine ta1 1 (some 20) #[true, true, false, true, false, true, false, false, false, false, false, false, false] ?_
 refine ta1 4 (some 23) #[true, true, false, true, true, true, false, false, false, false, false, false, false] ?_
 refine pu1 6 (some 25) #[true, true, false, true, true, true, true, false, false, false, false, false, false] ?_
 refine ta1 7 (some 26) #[true, true, false, true, true, true, true, true, false, false, false, false, false] ?_
 refine one_ (i := 2) (N := some 21) #[true, true, true, true, true, true, true, true, false, false, false, false, false] rfl rfl (one_of HT_.out (by kernel_rfl)) (by decide) (fun K hK => ?_)
 refine value_ (w1 := ?_) (v := ?_) (by rfl) rfl ?_ ?_
 rotate_left 2
 · go_simp
   constructor
   · rfl
   · rfl
 refine hK.out _ _ ⟨(blk_cell (blk_alloc BK107.out _) 0).trans rfl, (blk_cell (blk_alloc BK107.out _) 1).trans rfl, (blk_cell (blk_alloc BK107.out _) 2).trans rfl, (blk_cell (blk_alloc BK107.out _) 3).trans rfl, (blk_cell (blk_alloc BK107.out _) 4).trans rfl, (blk_cell (blk_alloc BK107.out _) 5).trans rfl, (blk_cell (blk_alloc BK107.out _) 6).trans rfl, (blk_cell (blk_alloc BK105.out _) 0).trans rfl, (blk_cell (blk_alloc BK105.out _) 1).trans rfl, (blk_cell (blk_alloc BK105.out _) 2).trans rfl, (blk_cell (blk_alloc BK105.out _) 3).trans rfl, (blk_cell (blk_alloc BK105.out _) 4).trans rfl, (blk_cell (blk_alloc BK105.out _) 5).trans rfl, (blk_cell (blk_alloc BK105.out _) 6).trans rfl, (World.cell?_alloc_lt _ _ _ (World.block_lt_of_cell? _ _ (((HB.out.cell (World.block_lt_of_cell? w _ hw111_0)).trans hw111_0)))).trans (((HB.out.cell (World.block_lt_of_cell? w _ hw111_0)).trans hw111_0))⟩ (fun hHeld => ?_)
 clear hK K
 refine norm_ (a' := ?_) ?_ ?_
 rotate_left
 · show Act.put _ (some 21) _ = _
   simp only [Act.put, List.setIfInBounds_toArray, List.set_cons_zero, List.set_cons_succ, i64_w, i32_w]
   rfl
 refine one_ (i := 8) (N := some 27) #[true, true, true, true, true, true, true, true, true, false, false, false, false] rfl rfl (one_of HT_.out (by kernel_rfl)) (by decide) (fun K hK => ?_)
 refine R_append_rows_step (Kd.int .i64) (w0 := w20) w20.heap.size (by rfl) (.tmp 21) (.tmp 26) 22 3 (.int .i64 0) 8 rfl Tryd.underlying22 info3 rfl (by decide) (by omega) (.slice (some ⟨w20.heap.size, 0, none⟩) 0 0) ([] : List Int) (rd_L1 l0_4 (i : Int)) _ _ _ (fun _ => True) (fun _ => False) rfl rfl ?aO ?aR (fun _ _ h => h) (fun _ h => h.elim) ?aF ?aB ?aS ?aL ?_
 (case aO => exact R_empty trivial)
 (case aR => exact Kd.C_below HR111_0.out (below_alloc HB.out _))
 (case aF => exact (fun _ _ => trivial))
 (case aB => exact below_alloc (Below.refl _ _) _)
 (case aS => exact below_size (below_alloc (Below.refl w20.heap.size w20) _))
 (case aL => have := LMr.out; simp only [List.length_nil]; omega)
 intro v113 w21 ho0 hb hg hat
 rw [List.nil_append] at ho0
 clear hg hat
 have n0_ := Aside0.mk (Kd.R_elder' (ru HO1.out) (Kd.R_base ho0) hb)
 have n1_ := Aside0.mk (Kd.S_elder' (su HO2.out) (Kd.R_base ho0) hb)
 have n2_ := Aside0.mk (Kd.R_lower (Kd.R_new' ho0 (Kd.R_lt (ru HO1.out))) (below_size bl))
 have n3_ := Aside0.mk (blk_below (bu BK105.out) hb)
 have n4_ := Aside0.mk (blk_below (bu BK106.out) hb)
 have n5_ := Aside0.mk (blk_below (bu BK107.out) hb)
 have n6_ := Aside0.mk (below_step bl hb)
 clear HO1; clear HO2; clear BK105; clear BK106; clear BK107; clear HB
 have HO1 := n0_
 have HO2 := n1_
 have HO114 := n2_
 have BK105 := n3_
 have BK106 := n4_
 have BK107 := n5_
 have HB := n6_
 clear n0_ n1_ n2_ n3_ n4_ n5_ n6_
 (try clear hb)
 (try clear hb2)
 (try clear hk)
 (try clear hi)
 (try clear ho0)
 obtain ⟨Ao23, co23, eo23⟩ := Kd.R_slice HO114.out
 (first | subst eo23 | (injection eo23 with f1_ f2_ f3_; have f4_ := f1_.symm; have f5_ := f3_.symm; clear f1_ f2_ f3_; subst f4_; subst f5_))
 refine hK.out _ _ ⟨(blk_cell BK107.out 0).trans rfl, (blk_cell BK107.out 1).trans rfl, (blk_cell BK107.out 2).trans rfl, (blk_cell BK107.out 3).trans rfl, (blk_cell BK107.out 4).trans rfl, (blk_cell BK107.out 5).trans rfl, (blk_cell BK107.out 6).trans rfl, (blk_cell BK105.out 0).trans rfl, (blk_cell BK105.out 1).trans rfl, (blk_cell BK105.out 2).trans rfl, (blk_cell BK105.out 3).trans rfl, (blk_cell BK105.out 4).trans rfl, (blk_cell BK105.out 5).trans rfl, (blk_cell BK105.out 6).trans rfl, ((HB.out.cell (World.block_lt_of_cell? w _ hw111_0)).trans hw111_0)⟩ (fun hHeld => ?_)
 clear hK K
 refine norm_ (a' := ?_) ?_ ?_
 rotate_left
 · show Act.put _ (some 27) _ = _
   simp only [Act.put, List.setIfInBounds_toArray, List.set_cons_zero, List.set_cons_succ, i64_w, i32_w]
   rfl
 refine one_ (i := 9) (N := some 28) #[true, true, true, true, true, true, true, true, true, true, false, false, false] rfl rfl (one_of HT_.out (by kernel_rfl)) (by decide) (fun K hK => ?_)
 refine value_ (w1 := ?_) (v := ?_) (by rfl) rfl ?_ ?_
 rotate_left 2
 · go_simp
   constructor
   · rfl
   · rfl
 refine hK.out _ _ ⟨(blk_cell (blk_alloc BK107.out _) 0).trans rfl, (blk_cell (blk_alloc BK107.out _) 1).trans rfl, (blk_cell (blk_alloc BK107.out _) 2).trans rfl, (blk_cell (blk_alloc BK107.out _) 3).trans rfl, (blk_cell (blk_alloc BK107.out _) 4).trans rfl, (blk_cell (blk_alloc BK107.out _) 5).trans rfl, (blk_cell (blk_alloc BK107.out _) 6).trans rfl, (blk_cell (blk_alloc BK105.out _) 0).trans rfl, (blk_cell (blk_alloc BK105.out _) 1).trans rfl, (blk_cell (blk_alloc BK105.out _) 2).trans rfl, (blk_cell (blk_alloc BK105.out _) 3).trans rfl, (blk_cell (blk_alloc BK105.out _) 4).trans rfl, (blk_cell (blk_alloc BK105.out _) 5).trans rfl, (blk_cell (blk_alloc BK105.out _) 6).trans rfl, (World.cell?_alloc_lt _ _ _ (World.block_lt_of_cell? _ _ (((HB.out.cell (World.block_lt_of_cell? w _ hw111_0)).trans hw111_0)))).trans (((HB.out.cell (World.block_lt_of_cell? w _ hw111_0)).trans hw111_0))⟩ (fun hHeld => ?_)
 clear hK K
 refine norm_ (a' := ?_) ?_ ?_
 rotate_left
 · show Act.put _ (some 28) _ = _
   simp only [Act.put, List.setIfInBounds_toArray, List.set_cons_zero, List.set_cons_succ, i64_w, i32_w]
   rfl
 refine one_ (i := 10) (N := some 29) #[true, true, true, true, true, true, true, true, true, true, true, false, false] rfl rfl (one_of HT_.out (by kernel_rfl)) (by decide) (fun K hK => ?_)
 refine Kd.S_append_step (Kd.slice 3 (Kd.int .i64)) (w0 := w) w.heap.size (by rfl) (.tmp 20) (.tmp 28) 23 22 (.slice none 0 0) 24 rfl Tryd.underlying23 info22 rfl (by decide) (by omega) u xs_ (rd_L1 l0_4 (i : Int)) [.slice Ao23 (rd_L1 l0_4 (i : Int)).length co23] (fun k_ => some k_ ≠ (.slice Ao10 l0_3.length co10 : Value).ownBlock) (fun k_ => some k_ = (.slice Ao23 (rd_L1 l0_4 (i : Int)).length co23 : Value).ownBlock) rfl rfl ?aP (fun k_ hk_ => ((Kd.R_mono (ok' := fun k_ => ((fun k_ => some k_ ≠ (.slice Ao10 l0_3.length co10 : Value).ownBlock)) k_ ∧ some k_ ≠ (u : Value).ownBlock) (Kd.R_apart' (HO114.out) (Kd.S_typed HO2.out) (by decide)) (fun k_ hk => ⟨hk.1.2, hk.2⟩))).1 k_ hk_.symm) ?aF ?aO ?aB ?aS ?aL ?_
 (case aP => exact Kd.M_row (Kd.R_mono (Kd.R_tight rfl (Kd.R_mono (ok' := fun k_ => ((fun k_ => some k_ ≠ (.slice Ao10 l0_3.length co10 : Value).ownBlock)) k_ ∧ some k_ ≠ (u : Value).ownBlock) (Kd.R_apart' (HO114.out) (Kd.S_typed HO2.out) (by decide)) (fun k_ hk => ⟨hk.1.2, hk.2⟩))) (fun _ h_ => h_)))
 (case aB => exact bl)
 (case aF => exact (fun k_ hk => Kd.fresh' (Kd.R_lt (ru HO1.out)) k_ hk))
 (case aO => exact (by (with_reducible repeat (first | apply Kd.S_alloc | apply Kd.S_drewN | apply Kd.S_drew)); exact Kd.S_mono HO2.out (fun k_ hk => ⟨hk.1, fun e_ => hk.2 e_⟩)))
 (case aS => exact (below_size bl))
 (case aL => have := LMc16.out; omega)
 intro v116 w22 ho hb hg hat
 rw [← NY_.out] at ho
 have n0_ := Aside0.mk (Kd.R_over' (ru HO1.out) (Kd.S_typed (su HO2.out)) (by decide) hg)
 have n1_ := Aside0.mk (blk_grown (g := gb105) (o := .cells #[.int .i64 a0_0, .int .i64 a0_1, .int .i64 a0_2, .slice A0_3 l0_3.length c0_3, .slice (some ad111) l0_4.length c0_4, .slice A0_5 l0_5.length c0_5, .slice A0_6 l0_6.length c0_6] 25 (0, 0)) (bu BK105.out) hg (Kd.S_ne HO2.out BK105.out (by decide)))
 have n2_ := Aside0.mk (blk_grown (g := gb106) (o := .cells #[.int .i64 0, .int .i64 0, .int .i64 0, .slice none 0 0, .slice none 0 0, .slice none 0 0, .slice none 0 0] 25 (0, 0)) (bu BK106.out) hg (Kd.S_ne HO2.out BK106.out (by decide)))
 have n3_ := Aside0.mk (blk_grown (g := gb107) (o := .cells #[.int .i64 a0_0, .int .i64 a0_1, .int .i64 a0_2, .slice Ao10 l0_3.length co10, u, .slice A0_5 l0_5.length c0_5, .slice A0_6 l0_6.length c0_6] 25 (0, 0)) (bu BK107.out) hg (Kd.S_ne HO2.out BK107.out (by decide)))
 have n4_ := Aside0.mk (hb)
 have n5_ := Aside0.mk (ho)
 clear HO1; clear BK105; clear BK106; clear BK107; clear HB; clear HO2; clear HO114
 have HO1 := n0_
 have BK105 := n1_
 have BK106 := n2_
 have BK107 := n3_
 have HB := n4_
 have HO117 := n5_
 clear n0_ n1_ n2_ n3_ n4_ n5_; clear ho hb hg hat
 obtain ⟨Ao24, co24, eo24⟩ := Kd.S_slice HO117.out
 (first | subst eo24 | (injection eo24 with f1_ f2_ f3_; have f4_ := f1_.symm; have f5_ := f3_.symm; clear f1_ f2_ f3_; subst f4_; subst f5_))
 refine hK.out _ _ ⟨(blk_cell BK107.out 0).trans rfl, (blk_cell BK107.out 1).trans rfl, (blk_cell BK107.out 2).trans rfl, (blk_cell BK107.out 3).trans rfl, (blk_cell BK107.out 4).trans rfl, (blk_cell BK107.out 5).trans rfl, (blk_cell BK107.out 6).trans rfl, (blk_cell BK105.out 0).trans rfl, (blk_cell BK105.out 1).trans rfl, (blk_cell BK105.out 2).trans rfl, (blk_cell BK105.out 3).trans rfl, (blk_cell BK105.out 4).trans rfl, (blk_cell BK105.out 5).trans rfl, (blk_cell BK105.out 6).trans rfl, ((HB.out.cell (World.block_lt_of_cell? w _ hw111_0)).trans hw111_0)⟩ (fun hHeld => ?_)
 clear hK K
 refine norm_ (a' := ?_) ?_ ?_
 rotate_left
 · show Act.put _ (some 29) _ = _
   simp only [Act.put, List.setIfInBounds_toArray, List.set_cons_zero, List.set_cons_succ, i64_w, i32_w]
   rfl
 refine pu1 11 (some 30) #[true, true, true, true, true, true, true, true, true, true, true, true, false] ?_
 refine last_ (i := 12) (N := none) #[true, true, true, true, true, true, true, true, true, true, true, true, true] rfl rfl (one_of HT_.out (by kernel_rfl)) (by decide) (fun K hK => ?_)
 have hs25 : w22.cell? ⟨gb107, 4, none⟩ = some (u) := (blk_cell BK107.out 4).trans rfl
 have hfs25 := blk_frozen BK107.out 4
 have hns25_0 := NB105_107.out
 have hns25_1 := NB106_107.out
 have hms25_0 := NB107_105.out
 have hms25_1 := NB107_106.out
 refine skip_ (w1 := ?_) (by rfl) rfl ?_ ?_
 rotate_left
 · go_simp
   rfl
 refine hK.out _ _ ?_
 clear hK K
 refine done_ (done_of HT_.out (by kernel_rfl)) ?_
 try go_wp2
 go_roundg k1
 case measure => exact Nat.lt_succ_self _
 case rel =>
  have hw1 : ∀ _ : Unit, wrap64 ((i : Int) + 1) = ((i + 1 : Nat) : Int) := fun _ => by rw [IntWalk.wrap64_in _ (by have := HHI.out; have := HG.out; omega)]; rfl
  exact ⟨i + 1, (.slice Ao24 ys_.length co24), by rw [hw1 ()], by have := HI.out; omega, ⟨by (with_reducible repeat (first | apply Kd.R_alloc | apply Kd.R_drewN | apply Kd.R_drew)); exact Kd.R_mono (Kd.R_far (p := ⟨gb107, 4, none⟩) (Kd.R_types HO1.out BK107.out (by decide)) (fun _ hk => hk.2) (.slice Ao24 ys_.length co24)) (fun _ hk => trivial)⟩, ⟨by rw [← HYS.out]; (with_reducible repeat (first | apply Kd.S_alloc | apply Kd.S_drewN | apply Kd.S_drew)); exact Kd.S_mono (Kd.S_far (p := ⟨gb107, 4, none⟩) (Kd.S_types HO117.out BK107.out (by decide)) (fun _ hk => hk.2) (.slice Ao24 ys_.length co24)) (fun _ hk => hk.1)⟩, ⟨by (with_reducible repeat (first | refine blk_drewN ?_ _ | refine blk_drew ?_ | refine blk_alloc ?_ _)); refine blk_far ?_ NB105_107.out _; (with_reducible repeat (first | refine blk_drewN ?_ _ | refine blk_drew ?_ | refine blk_alloc ?_ _)); exact BK105.out⟩, ⟨by (with_reducible repeat (first | refine blk_drewN ?_ _ | refine blk_drew ?_ | refine blk_alloc ?_ _)); refine blk_far ?_ NB106_107.out _; (with_reducible repeat (first | refine blk_drewN ?_ _ | refine blk_drew ?_ | refine blk_alloc ?_ _)); exact BK106.out⟩, ⟨by (with_reducible repeat (first | refine blk_drewN ?_ _ | refine blk_drew ?_ | refine blk_alloc ?_ _)); refine blk_put (cs := #[.int .i64 a0_0, .int .i64 a0_1, .int .i64 a0_2, .slice Ao10 l0_3.length co10, u, .slice A0_5 l0_5.length c0_5, .slice A0_6 l0_6.length c0_6]) ?_ 4 _ rfl; (with_reducible repeat (first | refine blk_drewN ?_ _ | refine blk_drew ?_ | refine blk_alloc ?_ _)); exact BK107.out⟩, ⟨bl⟩⟩
theorem sawmilllaw17_copied.calls12 (a0_0 : Int) (a0_1 : Int) (a0_2 : Int) (A0_3 : Option Addr) (c0_3 : Nat) (l0_3 : List Int) (A0_4 : Option Addr) (c0_4 : Nat) (l0_4 : List (List Int)) (A0_5 : Option Addr) (c0_5 : Nat) (l0_5 : List Int) (A0_6 : Option Addr) (c0_6 : Nat) (l0_6 : List Int) (r1 : Int) (r2 : Int) (r3 : Int) (r4 : List Int) (r5 : List (List Int)) (r6 : List Int) (r7 : List Int) (w : World) (hr0_3 : Kd.C (Kd.int .i64) w A0_3 l0_3.length l0_3) (hc0_3 : l0_3.length ≤ c0_3) (hr0_4 : Kd.C (Kd.slice 3 (Kd.int .i64)) w A0_4 l0_4.length l0_4) (hc0_4 : l0_4.length ≤ c0_4) (h : sawmilllaw17_copied.f a0_0 a0_1 a0_2 l0_3 l0_4 l0_5 l0_6 = some (r1, r2, r3, r4, r5, r6, r7)) :
    Calls Tryd.prog 42 #[.agg #[.int .i64 a0_0, .int .i64 a0_1, .int .i64 a0_2, .slice A0_3 l0_3.length c0_3, .slice A0_4 l0_4.length c0_4, .slice A0_5 l0_5.length c0_5, .slice A0_6 l0_6.length c0_6]] w fun e w' => ∃ v3_ v4_ : Value, e = .returned (.agg #[.int .i64 r1, .int .i64 r2, .int .i64 r3, v3_, v4_, .slice A0_5 l0_5.length c0_5, .slice A0_6 l0_6.length c0_6]) ∧ Kd.R (Kd.int .i64) 3 w' w.heap.size (fun k_ => some k_ ≠ (.slice none 0 0 : Value).ownBlock ∧ some k_ ≠ (.slice none 0 0 : Value).ownBlock) v3_ r4 ∧ Kd.S (Kd.slice 3 (Kd.int .i64)) 22 w' w.heap.size (fun k_ => some k_ ≠ (v3_ : Value).ownBlock ∧ some k_ ≠ (.slice none 0 0 : Value).ownBlock ∧ some k_ ≠ (.slice none 0 0 : Value).ownBlock) v4_ r5 ∧ Kd.R (Kd.int .i64) 3 w' w.heap.size (fun k_ => some k_ ≠ (v3_ : Value).ownBlock ∧ some k_ ≠ (.slice none 0 0 : Value).ownBlock) (.slice none 0 0) ([] : List Int) ∧ Kd.R (Kd.int .i64) 3 w' w.heap.size (fun k_ => some k_ ≠ (v3_ : Value).ownBlock ∧ some k_ ≠ (.slice none 0 0 : Value).ownBlock) (.slice none 0 0) ([] : List Int) ∧ Below w.heap.size w w' := by
  unfold sawmilllaw17_copied.f at h
  by_cases hc : l0_3.length ≤ 1000000 ∧ l0_4.length ≤ 1000000 ∧ (l0_4.all fun r => decide (r.length ≤ 1000000)) = true
  · rw [if_pos hc] at h
    simp only [Option.some.injEq, Prod.mk.injEq] at h
    obtain ⟨rfl, rfl, rfl, rfl, rfl, rfl, rfl⟩ := h
    refine (sawmilllaw17_copied.calls a0_0 a0_1 a0_2 A0_3 c0_3 l0_3 A0_4 c0_4 l0_4 A0_5 c0_5 l0_5 A0_6 c0_6 l0_6 w hr0_3 hc0_3 hr0_4 hc0_4 hc.1 hc.2.1 (fun i h0 h1 => ?_)).mono ?_
    · have hi : i.toNat < l0_4.length := by omega
      have := List.all_eq_true.mp hc.2.2 _ (List.getElem_mem hi)
      have e : rd_L1 l0_4 i = l0_4[i.toNat] := by simp [rd_L1, hi]
      rw [e]
      exact of_decide_eq_true this
    · rintro e w' ⟨v3_, v4_, rfl, ho0, ho1, hb⟩
      exact ⟨v3_, v4_, rfl, Kd.R_mono ho0 (fun k_ _ => ⟨by simp [Value.ownBlock], by simp [Value.ownBlock]⟩), Kd.S_mono ho1 (fun k_ hk => ⟨hk, by simp [Value.ownBlock], by simp [Value.ownBlock]⟩), Kd.R_nil _ _ _ _ _, Kd.R_nil _ _ _ _ _, hb⟩
  · rw [if_neg hc] at h
    cases h
end Go.Proofs.YtoaicheopcojoaaDoor.P
