import Derived.Test.YtoaicheopcojoaaDoorHCuts
import Derived.Lib.Hide
namespace Go.Proofs.YtoaicheopcojoaaDoor.P
open Go.RowKit Go.Proofs.YtoaicheopcojoaaDoorW.PrintWords Go.Proofs.YtoaicheopcojoaaDoorW.PrintLast Go.Proofs.YtoaicheopcojoaaDoorW.PrintMore
attribute [local go_sem] max2_int min2_int max_two min_two max_three min_three max_four min_four
set_option linter.unusedVariables false
set_option linter.unusedSimpArgs false
/-- What the loop keeps. -/
structure CInv (w wr : World) (k : Nat) (edge len : Int) (d c : List S49) (vd vc : Value) : Prop where
  e0 : 0 ≤ edge
  e1 : edge ≤ len
  nd : d.length ≤ 2 * k
  nc : c.length ≤ k
  t : Two w wr (w.heap.size + 1) (w.heap.size + 2) vd vc d c
theorem cell_keep {w : World} {a : Addr} {v : Value} (h : w.cell? a = some v) : ∀ o, (w.alloc o).cell? a = some v := fun o => pw_cell_below (below_alloc (Below.refl _ _) o) h
theorem frozen_keep {w : World} {g j : Nat} {t : TypeId} {cs : Array Value} (h : w.heap[g]? = some (.cells cs t (0, 0))) : ∀ o, (w.alloc o).frozen? ⟨g, j, none⟩ = false := fun o => blk_frozen (blk_alloc h o) j

theorem Two.later {w0 w w1 : World} {g g' : Nat} {v v' : Value} {l l' : List S49} (H : Two w0 w g g' v v' l l') (hb : Below w.heap.size w w1) : Two w0 w1 g g' v v' l l' :=
  ⟨blk_below H.h hb, blk_below H.h' hb, Kd.R_below H.r hb, Kd.R_below H.r' hb, below_step H.hb hb, H.ne, H.b, H.b'⟩
theorem addS_length (l : List S49) (a b : Int) : (addS l a b).length ≤ l.length + 1 := by unfold addS; split <;> simp
theorem res53 {tmps : Array Value} {w : World} {g g' : Nat} {v v' : Value} {n : Int} (h4 : tmps.getD 4 undef = .pointer (some ⟨g, 0, none⟩)) (h5 : tmps.getD 5 undef = .pointer (some ⟨g', 0, none⟩)) (h6 : tmps.getD 6 undef = .int .i64 n)
    (h : w.heap[g]? = some (.cells #[v] 31 (0, 0))) (h' : w.heap[g']? = some (.cells #[v'] 31 (0, 0))) : (results Tryd.f53 tmps).run Tryd.prog w = .ok (.tuple #[v, v', .int .i64 n]) w := by
  have hc := blk_cell h 0
  have hc' := blk_cell h' 0
  have h4' : tmps[4]?.getD undef = .pointer (some ⟨g, 0, none⟩) := by simpa using h4
  have h5' : tmps[5]?.getD undef = .pointer (some ⟨g', 0, none⟩) := by simpa using h5
  have h6' : tmps[6]?.getD undef = .int .i64 n := by simpa using h6
  simp at hc hc'
  simp [results, Tryd.results53, go_sem, h4', h5', h6', hc, hc']
theorem KeepX.trans {w w1 w2 : World} {g g' : Nat} (h : KeepX w w1 g) (h' : KeepX w1 w2 g') : ∀ i cs t, w.heap[i]? = some (.cells cs t (0, 0)) → t ≠ 49 → i ≠ g → i ≠ g' → w2.heap[i]? = some (.cells cs t (0, 0)) :=
  fun i cs t hi ht h1 h2 => h' i cs t (h i cs t hi ht h1) ht h2

set_option maxHeartbeats 4000000 in
set_option maxRecDepth 100000 in
theorem cutting_cuts.calls (a0_0 : Int) (a0_1 : Int) (a0_2 : Int) (A0_3 : Option Addr) (c0_3 : Nat) (l0_3 : List Int) (A0_4 : Option Addr) (c0_4 : Nat) (l0_4 : List (List Int)) (A0_5 : Option Addr) (c0_5 : Nat) (l0_5 : List Int) (A0_6 : Option Addr) (c0_6 : Nat) (l0_6 : List Int) (A1 : Option Addr) (c1 : Nat) (l1 : List (S69)) (r1 : List (S49)) (r2 : List (S49)) (r3 : Int) (w : World) (hr0_3 : Kd.C (Kd.int .i64) w A0_3 l0_3.length l0_3) (hc0_3 : l0_3.length ≤ c0_3) (hr0_4 : Kd.C (Kd.slice 3 (Kd.int .i64)) w A0_4 l0_4.length l0_4) (hc0_4 : l0_4.length ≤ c0_4) (hr0_5 : Kd.C (Kd.int .i64) w A0_5 l0_5.length l0_5) (hc0_5 : l0_5.length ≤ c0_5) (hr0_6 : Kd.C (Kd.int .i64) w A0_6 l0_6.length l0_6) (hc0_6 : l0_6.length ≤ c0_6) (hr1 : Kd.C k69 w A1 l1.length l1) (hc1 : l1.length ≤ c1) (h : cutting_cuts.f a0_0 a0_1 a0_2 l0_3 l0_4 l0_5 l0_6 l1 = some (r1, r2, r3)) :
    Calls Tryd.prog 53 #[.agg #[.int .i64 a0_0, .int .i64 a0_1, .int .i64 a0_2, .slice A0_3 l0_3.length c0_3, .slice A0_4 l0_4.length c0_4, .slice A0_5 l0_5.length c0_5, .slice A0_6 l0_6.length c0_6], .slice A1 l1.length c1] w fun e w' => ∃ v0_ v1_ : Value, e = .returned (.tuple #[v0_, v1_, .int .i64 r3]) ∧ Kd.R k49 49 w' w.heap.size (fun k_ => some k_ ≠ (v1_ : Value).ownBlock) v0_ r1 ∧ Kd.R k49 49 w' w.heap.size (fun k_ => some k_ ≠ (v0_ : Value).ownBlock) v1_ r2 ∧ Below w.heap.size w w' := by
  unfold cutting_cuts.f at h
  split at h
  case isFalse => cases h
  rename_i hok
  obtain ⟨OK, hpl, hpw⟩ := hok
  have HR := Lib.hid (Option.some.inj h)
  clear h
  have HPW := Lib.hid hpw
  have OKH := Lib.hid OK
  clear hpw OK
  have hl0 := OKH.out.len0
  have hl1 := OKH.out.len1
  have hk0 := OKH.out.kerf0
  have hk1 := OKH.out.kerf1
  have hp0 := OKH.out.pitch0
  have hp1 := OKH.out.pitch1
  have hns := OKH.out.nsizes
  go_enter Tryd.func53, Tryd.ntmps53
  go_wp2
  go_loopw [8, 9, 17] (fun v8 v9 v17 wr => ∃ (k : Nat) (edge : Int) (en : Bool) (d c : List S49) (vd vc : Value), k ≤ l1.length ∧ v17 = .int .i64 k ∧ v8 = .int .i64 edge ∧ v9 = .bool en ∧
      Aside0 (CInv w wr k edge a0_0 d c vd vc) ∧ Aside0 (wr.heap[w.heap.size]? = some (.cells #[.int .i64 a0_0, .int .i64 a0_1, .int .i64 a0_2, .slice A0_3 l0_3.length c0_3, .slice A0_4 l0_4.length c0_4, .slice A0_5 l0_5.length c0_5, .slice A0_6 l0_6.length c0_6] 25 (0, 0))) ∧
      Aside0 (cutsL a0_0 a0_1 a0_2 l0_3 l0_4 (l1.drop k) edge en d c = (r1, r2, r3))) (fun _ _ v17 _ => l1.length - (intOf v17).toNat)
  case atStart =>
    refine ⟨0, 0, false, [], [], .slice none 0 0, .slice none 0 0, Nat.zero_le _, rfl, rfl, rfl, ⟨⟨by omega, by omega, by simp, by simp, ⟨?_, ?_, Kd.R_nil _ _ _ _ _, Kd.R_nil _ _ _ _ _, ?_, by omega, by omega, by omega⟩⟩⟩, ⟨?_⟩, ⟨by simpa using HR.out⟩⟩
    · exact blk_alloc (by simpa using blk_new (w.alloc _) _) _
    · simpa using blk_new ((w.alloc _).alloc _) _
    · exact below_alloc (below_alloc (below_alloc (Below.refl _ _) _) _) _
    · exact blk_alloc (blk_alloc (blk_new _ _) _) _
  case round =>
    obtain ⟨k, edge, en, d, c, vd, vc, hk, rfl, rfl, rfl, HI, HL, HC⟩ := hrel
    have hL0 := blk_cell HL.out 0
    have hL1 := blk_cell HL.out 1
    have hL2 := blk_cell HL.out 2
    have hL3 := blk_cell HL.out 3
    have hL4 := blk_cell HL.out 4
    have hcd := blk_cell HI.out.t.h 0
    have hcc := blk_cell HI.out.t.h' 0
    simp at hL0 hL1 hL2 hL3 hL4 hcd hcc
    have he0 := HI.out.e0
    have he1 := HI.out.e1
    have hsz := HI.out.t.hb.size
    by_cases hlt : k < l1.length
    · have hg0 := cell_keep hL0
      have hg1 := cell_keep hL1
      have hg2 := cell_keep hL2
      have hg3 := cell_keep hL3
      have hg4 := cell_keep hL4
      have hgd := cell_keep hcd
      have hgc := cell_keep hcc
      have hfd := fun o => frozen_keep HI.out.t.h (j := 0) o
      have hfc := fun o => frozen_keep HI.out.t.h' (j := 0) o
      simp only [show w.heap.size + 2 = w.heap.size + 1 + 1 from rfl] at hcd hcc hgd hgc hfd hfc
      have HRX := Kd.C_below hr1 HI.out.t.hb
      obtain ⟨ad1, rfl, hx0, hx1⟩ := at_T69 HRX k (by omega) (by omega)
      obtain ⟨x, hx⟩ : ∃ x, x = rd_T69 l1 k := ⟨_, rfl⟩
      rw [← hx] at hx0 hx1
      have hdrop : l1.drop k = x :: l1.drop (k + 1) := by
        rw [hx, List.drop_eq_getElem_cons hlt]
        simp [rd_T69, hlt]
      rw [hdrop] at HC
      simp at hx0 hx1
      obtain ⟨s, q⟩ := x
      simp only at hx0 hx1
      clear hx hdrop HRX
      by_cases c1 : s < 0
      · have HC1 := HC.out
        rw [cutsL] at HC1
        dsimp only at HC1
        rw [if_pos (Or.inl c1)] at HC1
        obtain ⟨rfl, rfl, rfl⟩ : [] = r1 ∧ [] = r2 ∧ (9 : Int) = r3 := by simpa using HC1
        clear HC1 HC
        go_wp2
        refine bodyPost_ret (v := .tuple #[.slice none 0 0, .slice none 0 0, .int .i64 9]) (res53 rfl rfl rfl (blk_far (blk_put (blk_alloc HI.out.t.h _) 0 _ rfl) (by show w.heap.size + 1 ≠ w.heap.size + 1 + 1; omega) _) (blk_put (blk_far (blk_alloc HI.out.t.h' _) (by show w.heap.size + 2 ≠ w.heap.size + 1; omega) _) 0 _ rfl)) rfl ⟨_, _, rfl, Kd.R_nil _ _ _ _ _, Kd.R_nil _ _ _ _ _, ?_⟩
        exact ((below_alloc HI.out.t.hb _).setCell (by show w.heap.size ≤ w.heap.size + 1; omega) _).setCell (by show w.heap.size ≤ w.heap.size + 1 + 1; omega) _
      by_cases c2 : (l0_3.length : Int) ≤ s
      · have HC1 := HC.out
        rw [cutsL] at HC1
        dsimp only at HC1
        rw [if_pos (Or.inr c2)] at HC1
        obtain ⟨rfl, rfl, rfl⟩ : [] = r1 ∧ [] = r2 ∧ (9 : Int) = r3 := by simpa using HC1
        clear HC1 HC
        go_wp2
        refine bodyPost_ret (v := .tuple #[.slice none 0 0, .slice none 0 0, .int .i64 9]) (res53 rfl rfl rfl (blk_far (blk_put (blk_alloc HI.out.t.h _) 0 _ rfl) (by show w.heap.size + 1 ≠ w.heap.size + 1 + 1; omega) _) (blk_put (blk_far (blk_alloc HI.out.t.h' _) (by show w.heap.size + 2 ≠ w.heap.size + 1; omega) _) 0 _ rfl)) rfl ⟨_, _, rfl, Kd.R_nil _ _ _ _ _, Kd.R_nil _ _ _ _ _, ?_⟩
        exact ((below_alloc HI.out.t.hb _).setCell (by show w.heap.size ≤ w.heap.size + 1; omega) _).setCell (by show w.heap.size ≤ w.heap.size + 1 + 1; omega) _
      obtain ⟨ad3, rfl, hs⟩ := Kd.at_int (Kd.C_below hr0_3 HI.out.t.hb) s (by omega) (by omega)
      obtain ⟨size, hsize⟩ : ∃ z, z = rd l0_3 s := ⟨_, rfl⟩
      rw [← hsize] at hs
      have hgs := cell_keep hs
      have hsz0 : 1 ≤ size ∧ size ≤ 2000 := by rw [hsize]; exact OKH.out.sizes0 s (by omega) (by omega)
      have hrow := OKH.out.rows s (by omega) (by omega)
      rw [← hsize] at hrow
      obtain ⟨hsz0, hsz1⟩ := hsz0
      have HS := Lib.hid hsize
      have HROW := Lib.hid hrow
      clear hsize hs hrow
      by_cases c3 : q < 0
      · have HC1 := HC.out
        rw [cutsL] at HC1
        dsimp only at HC1
        rw [if_neg (by omega), if_pos (Or.inl c3)] at HC1
        obtain ⟨rfl, rfl, rfl⟩ : [] = r1 ∧ [] = r2 ∧ (20 : Int) = r3 := by simpa using HC1
        clear HC1 HC
        go_wp2
        refine bodyPost_ret (v := .tuple #[.slice none 0 0, .slice none 0 0, .int .i64 20]) (res53 rfl rfl rfl (blk_far (blk_put (blk_alloc HI.out.t.h _) 0 _ rfl) (by show w.heap.size + 1 ≠ w.heap.size + 1 + 1; omega) _) (blk_put (blk_far (blk_alloc HI.out.t.h' _) (by show w.heap.size + 2 ≠ w.heap.size + 1; omega) _) 0 _ rfl)) rfl ⟨_, _, rfl, Kd.R_nil _ _ _ _ _, Kd.R_nil _ _ _ _ _, ?_⟩
        exact ((below_alloc HI.out.t.hb _).setCell (by show w.heap.size ≤ w.heap.size + 1; omega) _).setCell (by show w.heap.size ≤ w.heap.size + 1 + 1; omega) _
      by_cases c4 : a0_0 - size < q
      · have HC1 := HC.out
        rw [cutsL] at HC1
        dsimp only at HC1
        rw [if_neg (by omega), ← HS.out, if_pos (Or.inr c4)] at HC1
        obtain ⟨rfl, rfl, rfl⟩ : [] = r1 ∧ [] = r2 ∧ (20 : Int) = r3 := by simpa using HC1
        clear HC1 HC
        go_wp2
        refine bodyPost_ret (v := .tuple #[.slice none 0 0, .slice none 0 0, .int .i64 20]) (res53 rfl rfl rfl (blk_far (blk_put (blk_alloc HI.out.t.h _) 0 _ rfl) (by show w.heap.size + 1 ≠ w.heap.size + 1 + 1; omega) _) (blk_put (blk_far (blk_alloc HI.out.t.h' _) (by show w.heap.size + 2 ≠ w.heap.size + 1; omega) _) 0 _ rfl)) rfl ⟨_, _, rfl, Kd.R_nil _ _ _ _ _, Kd.R_nil _ _ _ _ _, ?_⟩
        exact ((below_alloc HI.out.t.hb _).setCell (by show w.heap.size ≤ w.heap.size + 1; omega) _).setCell (by show w.heap.size ≤ w.heap.size + 1 + 1; omega) _
      cases en with
      | true =>
        have HC1 := HC.out
        rw [cutsL] at HC1
        dsimp only at HC1
        rw [if_neg (by omega), ← HS.out, if_neg (by omega), if_pos (Or.inl rfl)] at HC1
        obtain ⟨rfl, rfl, rfl⟩ : [] = r1 ∧ [] = r2 ∧ (11 : Int) = r3 := by simpa using HC1
        clear HC1 HC
        go_wp2
        refine bodyPost_ret (v := .tuple #[.slice none 0 0, .slice none 0 0, .int .i64 11]) (res53 rfl rfl rfl (blk_far (blk_put (blk_alloc HI.out.t.h _) 0 _ rfl) (by show w.heap.size + 1 ≠ w.heap.size + 1 + 1; omega) _) (blk_put (blk_far (blk_alloc HI.out.t.h' _) (by show w.heap.size + 2 ≠ w.heap.size + 1; omega) _) 0 _ rfl)) rfl ⟨_, _, rfl, Kd.R_nil _ _ _ _ _, Kd.R_nil _ _ _ _ _, ?_⟩
        exact ((below_alloc HI.out.t.hb _).setCell (by show w.heap.size ≤ w.heap.size + 1; omega) _).setCell (by show w.heap.size ≤ w.heap.size + 1 + 1; omega) _
      | false =>
      by_cases c5 : q = edge ∨ (a0_2 ≤ q - a0_1 - edge ∧ (q - a0_1 - edge) % a0_2 = 0)
      · obtain ⟨ad4, Ar, cr, rfl, hr4, hrc, hrr⟩ := at_L1 (Kd.C_below hr0_4 HI.out.t.hb) s (by omega) (by have := OKH.out.ngain; omega)
        obtain ⟨row, hrow⟩ : ∃ r, r = rd_L1 l0_4 s := ⟨_, rfl⟩
        rw [← hrow] at hr4 hrc hrr
        have hq : q < (row.length : Int) := by have := HROW.out; rw [← hrow] at this; unfold mx at this; split at this <;> omega
        obtain ⟨adr, rfl, hcell⟩ := Kd.at_int hrr q (by omega) hq
        have hgr := cell_keep hr4
        have hgc' := cell_keep hcell
        have hs4 : s < (l0_4.length : Int) := by have := OKH.out.ngain; omega
        obtain ⟨g, hg⟩ : ∃ g, g = rd row q := ⟨_, rfl⟩
        rw [← hg] at hcell hgc'
        have HG := Lib.hid (And.intro hrow hg)
        clear hrow hg hrr hcell hr4
        obtain ⟨nrow, hnrow⟩ : ∃ n, n = row.length := ⟨_, rfl⟩
        rw [← hnrow] at hgr hrc hq
        clear hnrow
        have HC1 := HC.out
        rw [cutsL] at HC1
        dsimp only at HC1
        rw [if_neg (by omega), ← HS.out, if_neg (by omega), ← HG.out.1, ← HG.out.2, if_neg (by rintro (h | ⟨h, h' | h'⟩) <;> first | (cases h; done) | omega)] at HC1
        clear HC
        by_cases c8 : g < 0
        · rw [if_pos c8] at HC1
          obtain ⟨rfl, rfl, rfl⟩ : [] = r1 ∧ [] = r2 ∧ (14 : Int) = r3 := by simpa using HC1
          clear HC1
          by_cases c9 : q = edge
          · subst c9
            go_wp2
            go_quiet (fail)
            go_wp2
            refine bodyPost_ret (v := .tuple #[.slice none 0 0, .slice none 0 0, .int .i64 14]) (res53 rfl rfl rfl (blk_far (blk_put (blk_drewN (blk_alloc HI.out.t.h _) _) 0 _ rfl) (by show w.heap.size + 1 ≠ w.heap.size + 1 + 1; omega) _) (blk_put (blk_far (blk_drewN (blk_alloc HI.out.t.h' _) _) (by show w.heap.size + 2 ≠ w.heap.size + 1; omega) _) 0 _ rfl)) rfl ⟨_, _, rfl, Kd.R_nil _ _ _ _ _, Kd.R_nil _ _ _ _ _, ?_⟩
            exact ((pw_below_drewN (below_alloc HI.out.t.hb _) _).setCell (by show w.heap.size ≤ w.heap.size + 1; omega) _).setCell (by show w.heap.size ≤ w.heap.size + 1 + 1; omega) _
          · have c5' : a0_2 ≤ q - a0_1 - edge ∧ (q - a0_1 - edge) % a0_2 = 0 := c5.resolve_left c9
            have d1 : (q == edge) = false := by simp; omega
            have d2 : (q != edge) = true := by simp; omega
            have d3 : ((q - a0_1 - edge) % a0_2 == 0) = true := by simp [c5'.2]
            have d4 : ((q - a0_1 - edge) % a0_2 != 0) = false := by simp [c5'.2]
            have c51 := c5'.1
            have C5 := Lib.hid c5'
            clear c5 c5'
            go_wp2
            go_quiet (fail)
            go_wp2
            refine bodyPost_ret (v := .tuple #[.slice none 0 0, .slice none 0 0, .int .i64 14]) (res53 rfl rfl rfl (blk_far (blk_put (blk_drewN (blk_alloc HI.out.t.h _) _) 0 _ rfl) (by show w.heap.size + 1 ≠ w.heap.size + 1 + 1; omega) _) (blk_put (blk_far (blk_drewN (blk_alloc HI.out.t.h' _) _) (by show w.heap.size + 2 ≠ w.heap.size + 1; omega) _) 0 _ rfl)) rfl ⟨_, _, rfl, Kd.R_nil _ _ _ _ _, Kd.R_nil _ _ _ _ _, ?_⟩
            exact ((pw_below_drewN (below_alloc HI.out.t.hb _) _).setCell (by show w.heap.size ≤ w.heap.size + 1; omega) _).setCell (by show w.heap.size ≤ w.heap.size + 1 + 1; omega) _
        · rw [if_neg c8] at HC1
          have HC2 := Lib.hid HC1
          clear HC1
          by_cases c9 : q = edge
          · subst c9
            go_wp2
            go_quiet (fail)
            go_wp2_with fail
            all_goals
              refine ((HI.out.t.later (by exact pw_below_drewN (below_alloc (Below.refl _ _) _) _)).put _ _ (by have := HI.out.nd; omega)).mono ?_
              rintro e w' ⟨rfl, v1, ht, hkx, hsz2⟩
              have HT := Lib.hid (And.intro ht hkx)
              clear ht hkx
              go_wp2
              go_roundw
              case measure => simp [intOf]; omega
              case rel =>
                refine ⟨k + 1, _, _, _, c, v1, vc, by omega, by go_num, rfl, rfl, ⟨⟨?_, ?_, ?_, ?_, HT.out.1⟩⟩, ⟨HT.out.2 _ _ _ (blk_drewN (blk_alloc HL.out _) _) (by decide) (by omega)⟩, ⟨?_⟩⟩
                · omega
                · omega
                · exact Nat.le_trans (addS_length _ _ _) (by have := HI.out.nd; omega)
                · have := HI.out.nc; omega
                · have HC3 := HC2.out
                  rw [if_pos trivial] at HC3
                  first
                    | (rw [show mn (q + size + a0_1) a0_0 = a0_0 from by unfold mn; split <;> omega] at HC3; exact HC3)
                    | (rw [show mn (q + size + a0_1) a0_0 = q + size + a0_1 from by unfold mn; split <;> omega] at HC3; exact HC3)
          · have c5' : a0_2 ≤ q - a0_1 - edge ∧ (q - a0_1 - edge) % a0_2 = 0 := c5.resolve_left c9
            have d1 : (q == edge) = false := by simp; omega
            have d2 : (q != edge) = true := by simp; omega
            have d3 : ((q - a0_1 - edge) % a0_2 == 0) = true := by simp [c5'.2]
            have d4 : ((q - a0_1 - edge) % a0_2 != 0) = false := by simp [c5'.2]
            have c51 := c5'.1
            have C5 := Lib.hid c5'
            clear c5 c5'
            have hbx := blk_lt HI.out.t.h'
            go_wp2
            go_quiet (fail)
            go_wp2_with fail
            refine ((HI.out.t.later (by exact pw_below_drewN (below_alloc (Below.refl _ _) _) _)).swap.put _ _ (by have := HI.out.nc; omega)).mono ?_
            rintro e w1 ⟨rfl, v1, ht1, hkx1, hsz1⟩
            have hbx1 := hkx1 _ _ _ (blk_drewN (blk_new wr _) _) (by decide) (by omega)
            have hbl1 := hkx1 _ _ _ (blk_drewN (blk_alloc HL.out _) _) (by decide) (by omega)
            have hy1 := blk_cell hbx1 1
            simp at hy1
            have HB1 := Lib.hid hbx1
            have HL1 := Lib.hid hbl1
            have HT1 := Lib.hid ht1
            clear hbx1 hbl1 ht1 hkx1
            go_wp2_with fail
            refine (HT1.out.swap.put _ _ (by have := HI.out.nd; omega)).mono ?_
            rintro e w2 ⟨rfl, v2, ht2, hkx2, hsz2⟩
            have hbx2 := hkx2 _ _ _ HB1.out (by decide) (by omega)
            have hbl2 := hkx2 _ _ _ HL1.out (by decide) (by omega)
            have hz1 := blk_cell hbx2 1
            have hz2 := blk_cell hbl2 0
            have hz3 := blk_cell hbl2 1
            simp at hz1 hz2 hz3
            have HL2 := Lib.hid hbl2
            have HT2 := Lib.hid ht2
            clear hbx2 hbl2 ht2 hkx2
            go_wp2_with fail
            all_goals
              refine (HT2.out.put _ _ (by have := HI.out.nd; have := addS_length d (edge + (q - a0_1 - edge)) q; omega)).mono ?_
              rintro e w3 ⟨rfl, v3, ht3, hkx3, hsz3⟩
              have HT := Lib.hid (And.intro ht3 hkx3)
              clear ht3 hkx3
              go_wp2
              go_roundw
              case measure => simp [intOf]; omega
              case rel =>
                refine ⟨k + 1, _, _, _, _, v3, v1, by omega, by go_num, rfl, rfl, ⟨⟨?_, ?_, ?_, ?_, HT.out.1⟩⟩, ⟨HT.out.2 _ _ _ HL2.out (by decide) (by omega)⟩, ⟨?_⟩⟩
                · omega
                · omega
                · exact Nat.le_trans (addS_length _ _ _) (by have := HI.out.nd; have := addS_length d (edge + (q - a0_1 - edge)) q; omega)
                · exact Nat.le_trans (addS_length _ _ _) (by have := HI.out.nc; omega)
                · have HC3 := HC2.out
                  rw [if_neg c9] at HC3
                  first
                    | (rw [show mn (q + size + a0_1) a0_0 = a0_0 from by unfold mn; split <;> omega] at HC3; rw [show edge + (q - a0_1 - edge) = q - a0_1 from by omega]; exact HC3)
                    | (rw [show mn (q + size + a0_1) a0_0 = q + size + a0_1 from by unfold mn; split <;> omega] at HC3; rw [show edge + (q - a0_1 - edge) = q - a0_1 from by omega]; exact HC3)
      · have d1 : (q == edge) = false := by simp; omega
        have d2 : (q != edge) = true := by simp; omega
        by_cases c6 : q - a0_1 - edge < a0_2
        · have HC1 := HC.out
          rw [cutsL] at HC1
          dsimp only at HC1
          rw [if_neg (by omega), ← HS.out, if_neg (by omega), if_pos (Or.inr ⟨by omega, Or.inl c6⟩)] at HC1
          obtain ⟨rfl, rfl, rfl⟩ : [] = r1 ∧ [] = r2 ∧ (11 : Int) = r3 := by simpa using HC1
          clear HC1 HC
          go_wp2
          refine bodyPost_ret (v := .tuple #[.slice none 0 0, .slice none 0 0, .int .i64 11]) (res53 rfl rfl rfl (blk_far (blk_put (blk_alloc HI.out.t.h _) 0 _ rfl) (by show w.heap.size + 1 ≠ w.heap.size + 1 + 1; omega) _) (blk_put (blk_far (blk_alloc HI.out.t.h' _) (by show w.heap.size + 2 ≠ w.heap.size + 1; omega) _) 0 _ rfl)) rfl ⟨_, _, rfl, Kd.R_nil _ _ _ _ _, Kd.R_nil _ _ _ _ _, ?_⟩
          exact ((below_alloc HI.out.t.hb _).setCell (by show w.heap.size ≤ w.heap.size + 1; omega) _).setCell (by show w.heap.size ≤ w.heap.size + 1 + 1; omega) _
        · have d3 : ((q - a0_1 - edge) % a0_2 == 0) = false := by simp; omega
          have d4 : ((q - a0_1 - edge) % a0_2 != 0) = true := by simp; omega
          have c7 : (q - a0_1 - edge) % a0_2 ≠ 0 := by omega
          clear c5
          have HC1 := HC.out
          rw [cutsL] at HC1
          dsimp only at HC1
          rw [if_neg (by omega), ← HS.out, if_neg (by omega), if_pos (Or.inr ⟨by omega, Or.inr c7⟩)] at HC1
          obtain ⟨rfl, rfl, rfl⟩ : [] = r1 ∧ [] = r2 ∧ (11 : Int) = r3 := by simpa using HC1
          clear HC1 HC
          go_wp2
          refine bodyPost_ret (v := .tuple #[.slice none 0 0, .slice none 0 0, .int .i64 11]) (res53 rfl rfl rfl (blk_far (blk_put (blk_alloc HI.out.t.h _) 0 _ rfl) (by show w.heap.size + 1 ≠ w.heap.size + 1 + 1; omega) _) (blk_put (blk_far (blk_alloc HI.out.t.h' _) (by show w.heap.size + 2 ≠ w.heap.size + 1; omega) _) 0 _ rfl)) rfl ⟨_, _, rfl, Kd.R_nil _ _ _ _ _, Kd.R_nil _ _ _ _ _, ?_⟩
          exact ((below_alloc HI.out.t.hb _).setCell (by show w.heap.size ≤ w.heap.size + 1; omega) _).setCell (by show w.heap.size ≤ w.heap.size + 1 + 1; omega) _
    · go_wp2_with fail
      have hd : l1.drop k = [] := List.drop_eq_nil_of_le (by omega)
      rw [hd] at HC
      have HC1 := HC.out
      rw [cutsL] at HC1
      obtain ⟨rfl, rfl, rfl⟩ : d = r1 ∧ addS c edge a0_0 = r2 ∧ (0 : Int) = r3 := by simpa using HC1
      clear HC1 HC
      refine (HI.out.t.swap.put _ _ (by have := HI.out.nc; omega)).mono ?_
      rintro e w' ⟨rfl, v', ht, hkx, hsz⟩
      have hc1 := blk_cell ht.h 0
      have hc2 := blk_cell ht.h' 0
      have hf1 := blk_frozen ht.h 0
      have hf2 := blk_frozen ht.h' 0
      simp at hc1 hc2
      simp only [show w.heap.size + 2 = w.heap.size + 1 + 1 from rfl] at hc1 hf1
      obtain ⟨A1, c1, e1⟩ := Kd.R_slice ht.r
      obtain ⟨A2, c2, e2⟩ := Kd.R_slice ht.r'
      obtain ⟨n1, hn1⟩ : ∃ n, n = (addS c edge a0_0).length := ⟨_, rfl⟩
      obtain ⟨n2, hn2⟩ : ∃ n, n = d.length := ⟨_, rfl⟩
      rw [← hn1] at e1
      rw [← hn2] at e2
      subst e1 e2
      have HT := Lib.hid ht
      clear ht hkx hn1 hn2
      go_wp2
      refine bodyPost_ret (v := .tuple #[.slice A2 n2 c2, .slice A1 n1 c1, .int .i64 0]) (res53 rfl rfl rfl (blk_far (blk_put HT.out.h' 0 _ rfl) (by show w.heap.size + 1 ≠ w.heap.size + 1 + 1; omega) _) (blk_put (blk_far HT.out.h (by show w.heap.size + 2 ≠ w.heap.size + 1; omega) _) 0 _ rfl)) rfl ⟨_, _, rfl, ?_, ?_, ?_⟩
      · exact Kd.R_set (Kd.R_set HT.out.r' HT.out.h' (by decide) 0 _) (blk_far HT.out.h (by show w.heap.size + 2 ≠ w.heap.size + 1; omega) _) (by decide) 0 _
      · exact Kd.R_set (Kd.R_set HT.out.r HT.out.h' (by decide) 0 _) (blk_far HT.out.h (by show w.heap.size + 2 ≠ w.heap.size + 1; omega) _) (by decide) 0 _
      · exact (HT.out.hb.setCell (by show w.heap.size ≤ w.heap.size + 1; omega) _).setCell (by show w.heap.size ≤ w.heap.size + 1 + 1; omega) _
end Go.Proofs.YtoaicheopcojoaaDoor.P
