import Derived.Test.YtoaicheopcojoaaDoorHP3
import Derived.Test.YtoaicheopcojoaaDoorF58d
namespace Go.Proofs.YtoaicheopcojoaaDoor.P
open Go.RowKit Go.Proofs.YtoaicheopcojoaaDoorW.PrintWords Go.Proofs.YtoaicheopcojoaaDoorW.PrintLast Go.Proofs.YtoaicheopcojoaaDoorW.PrintMore
set_option linter.unusedVariables false
set_option linter.unusedSimpArgs false

/-! The specification's 'from': the same choice. -/
attribute [local irreducible] mn mx rd rd_L1 posM paidM aft
section
variable {len kerf pitch : Int} {sizes : List Int} {gain : List (List Int)} {chip dust cp dp : List Int} {V : Int → Int} {best : List S100}
def rS (c : S97) : Int := if c.f0.f0 < 0 then -1 else c.f0.f0
def rA (c : S97) : Int := if c.f0.f0 < 0 then 0 else c.f0.f1
theorem after_eq (L : Ln len kerf pitch sizes gain cp dp) (hdl : (dp.length : Int) = len + 1) (hbl : (best.length : Int) = len + 1) {i q : Int} (h0 : 0 ≤ q) (hV : ∀ x : Int, q < x → x ≤ len → (rd_T100 best x).f0 = V x) (hf : Fit len sizes gain i q) (hb : Bd len V q) :
    sawmillref17_after.f len kerf pitch sizes gain chip dust i q dp best = some (aft len kerf sizes gain dp V i q) := by
  obtain ⟨f1, f2, f3, f4⟩ := hf
  have hs := (L.sz i f1 f2)
  have hl1 := L.len1
  have hk := L.kerf0
  have hk1 := L.kerf1
  have hr := L.rows i f1 f2
  have hng := L.ng
  have hql : q < ((rd_L1 gain i).length : Int) := by rw [hr]; unfold mx; split <;> omega
  have ha := aft_bd L ⟨f1, f2, f3, f4⟩ h0 hb
  have hw1 : wrap64 (q + rd sizes i) = q + rd sizes i := IntWalk.wrap64_in _ (by omega)
  have hw2 : wrap64 (q + rd sizes i + kerf) = q + rd sizes i + kerf := IntWalk.wrap64_in _ (by omega)
  unfold sawmillref17_after.f
  rw [if_pos f1, if_pos (by omega), if_pos h0, if_pos hql, if_pos f2, hw1, hw2]
  by_cases he : q + rd sizes i = len
  · rw [if_pos he]
    unfold aft
    rw [if_neg (by omega)]
  · have hm := mn_gt hk (show q + rd sizes i < len by omega) hs.1
    unfold aft at ha ⊢
    rw [if_pos (show q + rd sizes i < len by omega)] at ha ⊢
    rw [if_neg he, if_pos (by omega), if_pos (by omega), if_pos (by omega), if_pos (by omega), if_pos (by omega), hV _ (by omega) (by omega)]
    congr 1
    rw [wr_add, show wrap64 (rd (rd_L1 gain i) q + rd dp (mn (q + rd sizes i + kerf) len)) - rd dp (q + rd sizes i) + V (mn (q + rd sizes i + kerf) len) = wrap64 (rd (rd_L1 gain i) q + rd dp (mn (q + rd sizes i + kerf) len)) + (V (mn (q + rd sizes i + kerf) len) - rd dp (q + rd sizes i)) by omega, wr_add,
      show rd (rd_L1 gain i) q + rd dp (mn (q + rd sizes i + kerf) len) + (V (mn (q + rd sizes i + kerf) len) - rd dp (q + rd sizes i)) = rd (rd_L1 gain i) q + (rd dp (mn (q + rd sizes i + kerf) len) - rd dp (q + rd sizes i) + V (mn (q + rd sizes i + kerf) len)) by omega]
    exact IntWalk.wrap64_in _ (by omega)
/-- One size more. -/
theorem from_l1 (L : Ln len kerf pitch sizes gain cp dp) (hdl : (dp.length : Int) = len + 1) (hbl : (best.length : Int) = len + 1) {e m base : Int} (h0 : 0 ≤ e) (hm : 0 ≤ m) (hq : posM kerf pitch e m ≤ len) (hV : ∀ x : Int, e < x → x ≤ len → (rd_T100 best x).f0 = V x) (hb : Bd len V e) (R : Int × Int × Int)
    (next : ∀ cur : S97, TopB (fun y => ∃ n, 0 ≤ n ∧ n < m + 1 ∧ CM len kerf pitch sizes gain cp dp V e n y) base cur → Ev (fun k => sawmillref17_from.l0 k e cp dp best ((m + 1) * pitch) len kerf pitch sizes gain chip dust cur.f1 (rS cur) (rA cur)) R) :
    ∀ (j i : Nat) (cur : S97), i + j = sizes.length → TopB (fun y => (∃ n, 0 ≤ n ∧ n < m ∧ CM len kerf pitch sizes gain cp dp V e n y) ∨ (CM len kerf pitch sizes gain cp dp V e m y ∧ y.f0.f0 < (i : Int))) base cur →
      Ev (fun k => sawmillref17_from.l1 k e cp dp best (m * pitch) (posM kerf pitch e m) (paidM kerf pitch cp dp e m) (i : Int) len kerf pitch sizes gain chip dust cur.f1 (rS cur) (rA cur)) R
  | 0, i, cur, hi, ht => by
    have hp0 := L.pitch0
    have hp1 := L.pitch1
    have hl1 := L.len1
    have hk := L.kerf0
    have hz : 0 ≤ m * pitch ∧ m * pitch ≤ len := by
      by_cases e1 : m = 0
      · subst e1
        rw [Int.zero_mul]
        exact ⟨Int.le_refl _, L.len0⟩
      · have := (mul_pos' (m := m) (by omega) hp0).1
        unfold posM at hq
        rw [if_neg e1] at hq
        omega
    have hw : wrap64 (m * pitch + pitch) = (m + 1) * pitch := by rw [Int.add_mul, Int.one_mul]; exact IntWalk.wrap64_in _ (by omega)
    refine Ev.step (fun k => ?_) (next cur (ht.congr fun y => ?_))
    · rw [sawmillref17_from.l1, if_neg (by omega), hw]
    · constructor
      · rintro (⟨n, n0, n1, h⟩ | h)
        · exact ⟨n, n0, by omega, h⟩
        · exact ⟨m, hm, by omega, h.1⟩
      · rintro ⟨n, n0, n1, h⟩
        by_cases e1 : n = m
        · refine .inr ⟨e1 ▸ h, ?_⟩
          have := h.1.2.1
          omega
        · exact .inl ⟨n, n0, by omega, h⟩
  | j + 1, i, cur, hi, ht => by
    have IH := from_l1 L hdl hbl h0 hm hq hV hb R next j (i + 1)
    have hp0 := L.pitch0
    have hl1 := L.len1
    have hk := L.kerf0
    have hs := L.sz i (by omega) (by omega)
    have hng := L.ng
    have hr := L.rows i (by omega) (by omega)
    have hpe : e ≤ posM kerf pitch e m := by
      unfold posM
      split
      · omega
      · have := (mul_pos' (m := m) (by omega) hp0).1
        omega
    have hns := L.ns
    have hw1 : ∀ _ : Unit, wrap64 ((i : Int) + 1) = ((i + 1 : Nat) : Int) := fun _ => wr1 i sizes.length (by omega) (by omega)
    have hws : wrap64 (len - rd sizes i) = len - rd sizes i := IntWalk.wrap64_in _ (by omega)
    have hno : ¬ Fit len sizes gain i (posM kerf pitch e m) → Ev (fun k => sawmillref17_from.l1 k e cp dp best (m * pitch) (posM kerf pitch e m) (paidM kerf pitch cp dp e m) ((i + 1 : Nat) : Int) len kerf pitch sizes gain chip dust cur.f1 (rS cur) (rA cur)) R := by
      intro hnf
      refine IH cur (by omega) (ht.congr fun y => ?_)
      constructor
      · rintro (h | h)
        · exact .inl h
        · exact .inr ⟨h.1, by have := h.2; omega⟩
      · rintro (h | h)
        · exact .inl h
        · refine .inr ⟨h.1, ?_⟩
          have h1 := h.1.1
          rw [h.1.2.1] at h1
          have : y.f0.f0 ≠ i := fun e2 => hnf (e2 ▸ h1)
          have := h.2
          omega
    by_cases c1 : posM kerf pitch e m > len - rd sizes i
    · have hj : Ev (fun k => sawmillref17_from.j3 k e cp dp best (m * pitch) (posM kerf pitch e m) (paidM kerf pitch cp dp e m) (i : Int) true len kerf pitch sizes gain chip dust cur.f1 (rS cur) (rA cur)) R :=
        Ev.step (fun k => by rw [sawmillref17_from.j3, if_pos rfl, hw1 ()]) (hno (fun h => by have := h.2.2.1; omega))
      refine Ev.step (fun k => ?_) hj
      rw [sawmillref17_from.l1, if_pos (by omega), if_pos (by omega), hws, if_pos c1]
    have hql : posM kerf pitch e m < ((rd_L1 gain i).length : Int) := by rw [hr]; unfold mx; split <;> omega
    by_cases c2 : rd (rd_L1 gain i) (posM kerf pitch e m) < 0
    · have hj : Ev (fun k => sawmillref17_from.j3 k e cp dp best (m * pitch) (posM kerf pitch e m) (paidM kerf pitch cp dp e m) (i : Int) true len kerf pitch sizes gain chip dust cur.f1 (rS cur) (rA cur)) R :=
        Ev.step (fun k => by rw [sawmillref17_from.j3, if_pos rfl, hw1 ()]) (hno (fun h => by have := h.2.2.2; omega))
      refine Ev.step (fun k => ?_) hj
      rw [sawmillref17_from.l1, if_pos (by omega), if_pos (by omega), hws, if_neg c1, if_pos (by omega), if_pos (by omega), if_pos hql, decide_eq_true c2]
    have hf : Fit len sizes gain i (posM kerf pitch e m) := ⟨by omega, by omega, by omega, by omega⟩
    have hbq : Bd len V (posM kerf pitch e m) := fun x hx hx' => hb x (by omega) hx'
    have ha := after_eq (chip := chip) (dust := dust) (pitch := pitch) L hdl hbl (by omega) (fun x hx hx' => hV x (by omega) hx') hf hbq
    have hY : CM len kerf pitch sizes gain cp dp V e m ⟨⟨(i : Int), posM kerf pitch e m⟩, paidM kerf pitch cp dp e m + aft len kerf sizes gain dp V i (posM kerf pitch e m)⟩ := ⟨hf, rfl, rfl⟩
    have hbd := CM_bd L h0 hm hb hY
    have hwn : wrap64 (paidM kerf pitch cp dp e m + aft len kerf sizes gain dp V i (posM kerf pitch e m)) = paidM kerf pitch cp dp e m + aft len kerf sizes gain dp V i (posM kerf pitch e m) := IntWalk.wrap64_in _ (by simp only at hbd; omega)
    have hQ : TopO (fun y => CM len kerf pitch sizes gain cp dp V e m y ∧ y.f0.f0 = (i : Int)) (⟨⟨(i : Int), posM kerf pitch e m⟩, paidM kerf pitch cp dp e m + aft len kerf sizes gain dp V i (posM kerf pitch e m)⟩ : S97) := by
      refine .inr ⟨hf.1, ⟨hY, rfl⟩, fun y hy => ?_⟩
      obtain ⟨h1, h2, h3⟩ := hy.1
      rw [h2, hy.2] at h3
      exact .inr ⟨h3, .inr ⟨h2.symm, by rw [hy.2]; exact Int.le_refl _⟩⟩
    have hT := ht.or hQ (fun x y hx hy => by
      rcases hx with ⟨n, n0, n1, hx⟩ | hx
      · exact CM_ahead L n0 n1 hx hy.1
      · exact .inr ⟨by rw [hx.1.2.1, hy.1.2.1], by have := hx.2; have := hy.2; omega⟩)
    have hT' := hT.congr (Q := fun y => (∃ n, 0 ≤ n ∧ n < m ∧ CM len kerf pitch sizes gain cp dp V e n y) ∨ (CM len kerf pitch sizes gain cp dp V e m y ∧ y.f0.f0 < ((i + 1 : Nat) : Int))) (fun y => by
      constructor
      · rintro ((h | h) | h)
        · exact .inl h
        · exact .inr ⟨h.1, by have := h.2; omega⟩
        · exact .inr ⟨h.1, by have := h.2; omega⟩
      · rintro (h | h)
        · exact .inl (.inl h)
        · by_cases e2 : y.f0.f0 = i
          · exact .inr ⟨h.1, e2⟩
          · exact .inl (.inr ⟨h.1, by have := h.2; omega⟩))
    have hR := IH _ (by omega) hT'
    have hj : Ev (fun k => sawmillref17_from.j3 k e cp dp best (m * pitch) (posM kerf pitch e m) (paidM kerf pitch cp dp e m) (i : Int) false len kerf pitch sizes gain chip dust cur.f1 (rS cur) (rA cur)) R := by
      refine Ev.step (fun k => ?_) hR
      rw [sawmillref17_from.j3, if_neg (by decide), ha, Option.bind_some, hwn, hw1 ()]
      unfold better
      by_cases c3 : cur.f1 < paidM kerf pitch cp dp e m + aft len kerf sizes gain dp V i (posM kerf pitch e m)
      · rw [if_pos c3, if_pos ⟨not_noneC hf.1, c3⟩]
        unfold rS rA
        simp only
        rw [if_neg (by omega), if_neg (by omega)]
      · rw [if_neg c3, if_neg (fun h => c3 h.2)]
    refine Ev.step (fun k => ?_) hj
    rw [sawmillref17_from.l1, if_pos (by omega), if_pos (by omega), hws, if_neg c1, if_pos (by omega), if_pos (by omega), if_pos hql, decide_eq_false c2]
theorem from_l0 (L : Ln len kerf pitch sizes gain cp dp) (hcl : (cp.length : Int) = len + 1) (hdl : (dp.length : Int) = len + 1) (hbl : (best.length : Int) = len + 1) {e base : Int} (h0 : 0 ≤ e) (h1 : e ≤ len) (hV : ∀ x : Int, e < x → x ≤ len → (rd_T100 best x).f0 = V x) (hb : Bd len V e) (c : S97)
    (hc : TopB (fun y => ∃ n, 0 ≤ n ∧ CM len kerf pitch sizes gain cp dp V e n y) base c) :
    ∀ (j : Nat) (m : Int) (cur : S97), 0 ≤ m → (len + 1 - e - m * pitch).toNat ≤ j → e + m * pitch ≤ len + pitch → TopB (fun y => ∃ n, 0 ≤ n ∧ n < m ∧ CM len kerf pitch sizes gain cp dp V e n y) base cur →
      Ev (fun k => sawmillref17_from.l0 k e cp dp best (m * pitch) len kerf pitch sizes gain chip dust cur.f1 (rS cur) (rA cur)) (c.f1, rS c, rA c) := by
  have hp0 := L.pitch0
  have hp1 := L.pitch1
  have hl1 := L.len1
  have hk := L.kerf0
  have hk1 := L.kerf1
  have hend : ∀ (m : Int) (cur : S97), 0 ≤ m → TopB (fun y => ∃ n, 0 ≤ n ∧ n < m ∧ CM len kerf pitch sizes gain cp dp V e n y) base cur → (∀ n, m ≤ n → len < posM kerf pitch e n) → cur = c := by
    intro m cur hm ht hgt
    refine (ht.congr fun y => ?_).unique hc
    constructor
    · rintro ⟨n, n0, n1, h⟩
      exact ⟨n, n0, h⟩
    · rintro ⟨n, n0, h⟩
      refine ⟨n, n0, ?_, h⟩
      have := (CM_bd L h0 n0 hb h).2.2.2.2
      by_cases hn : m ≤ n
      · have := hgt n hn
        omega
      · omega
  intro j
  induction j with
  | zero =>
    intro m cur hm hj hu ht
    have hz : len < e + m * pitch := by omega
    have hm1 : 1 ≤ m := by
      by_cases e1 : m = 0
      · subst e1
        rw [Int.zero_mul] at hz
        omega
      · omega
    have hmz := (mul_pos' hm1 hp0).1
    have := hend m cur hm ht (fun n hn => by
      unfold posM
      rw [if_neg (by omega)]
      have h2 : 0 ≤ (n - m) * pitch := Int.mul_nonneg (by omega) (by omega)
      rw [Int.sub_mul] at h2
      omega)
    subst this
    refine Ev.step (f := fun _ => some (cur.f1, rS cur, rA cur)) (fun k => ?_) (Ev.now _)
    rw [sawmillref17_from.l0, IntWalk.wrap64_in (e + m * pitch) (by omega), if_neg (by omega)]
  | succ j ih =>
    intro m cur hm hj hu ht
    by_cases hz : len < e + m * pitch
    · exact (ih m cur hm (by omega) hu ht)
    have hm0 : 0 ≤ m * pitch := Int.mul_nonneg hm (by omega)
    have hwz : wrap64 (e + m * pitch) = e + m * pitch := IntWalk.wrap64_in _ (by omega)
    have hwk : wrap64 (e + m * pitch + kerf) = e + m * pitch + kerf := IntWalk.wrap64_in _ (by omega)
    have hnx : (m + 1) * pitch = m * pitch + pitch := by rw [Int.add_mul, Int.one_mul]
    have hgo : posM kerf pitch e m ≤ len → Ev (fun k => sawmillref17_from.j1 k e cp dp best (m * pitch) (posM kerf pitch e m) (paidM kerf pitch cp dp e m) len kerf pitch sizes gain chip dust cur.f1 (rS cur) (rA cur)) (c.f1, rS c, rA c) := by
      intro hq
      have := from_l1 (chip := chip) (dust := dust) L hdl hbl h0 hm hq hV hb (c.f1, rS c, rA c) (fun cur' ht' => ih (m + 1) cur' (by omega) (by omega) (by omega) ht') sizes.length 0 cur (by omega) (ht.congr fun y => by
        constructor
        · intro h; exact .inl h
        · rintro (h | h)
          · exact h
          · have := h.1.1.1
            have := h.2
            omega)
      exact Ev.step (fun k => by rw [sawmillref17_from.j1]; rfl) this
    by_cases e1 : m = 0
    · have hq : posM kerf pitch e m = e := by unfold posM; rw [if_pos e1]
      have hpd : paidM kerf pitch cp dp e m = 0 := by unfold paidM; rw [if_pos e1]
      have := hgo (by omega)
      rw [hq, hpd] at this
      refine Ev.step (fun k => ?_) this
      rw [sawmillref17_from.l0, hwz, if_pos (by omega), if_neg (by rw [e1, Int.zero_mul]; omega)]
    have hmz := (mul_pos' (m := m) (by omega) hp0).1
    have hq : posM kerf pitch e m = e + m * pitch + kerf := by unfold posM; rw [if_neg e1]
    by_cases c1 : e + m * pitch + kerf > len
    · have := hend m cur hm ht (fun n hn => by
        unfold posM
        rw [if_neg (by omega)]
        have h2 : 0 ≤ (n - m) * pitch := Int.mul_nonneg (by omega) (by omega)
        rw [Int.sub_mul] at h2
        omega)
      subst this
      refine Ev.step (f := fun _ => some (cur.f1, rS cur, rA cur)) (fun k => ?_) (Ev.now _)
      rw [sawmillref17_from.l0, hwz, if_pos (by omega), if_pos (by omega), hwk, if_pos c1]
    have hcs := L.c e (e + m * pitch) h0 (by omega) (by omega)
    have hds := L.d (e + m * pitch) (e + m * pitch + kerf) (by omega) (by omega) (by omega)
    have hpd : wrap64 (wrap64 (wrap64 (rd cp (e + m * pitch) - rd cp e) + rd dp (e + m * pitch + kerf)) - rd dp (e + m * pitch)) = paidM kerf pitch cp dp e m := by
      unfold paidM
      rw [if_neg e1, wr_add, wr_sub, show rd cp (e + m * pitch) - rd cp e + rd dp (e + m * pitch + kerf) - rd dp (e + m * pitch) = rd cp (e + m * pitch) - rd cp e + (rd dp (e + m * pitch + kerf) - rd dp (e + m * pitch)) by omega]
      exact IntWalk.wrap64_in _ (by omega)
    have := hgo (by omega)
    rw [hq] at this
    refine Ev.step (fun k => ?_) this
    rw [sawmillref17_from.l0, hwz, if_pos (by omega), if_pos (by omega), hwk, if_neg c1, if_pos (by omega), if_pos (by omega), if_pos (by omega), if_pos (by omega), if_pos (by omega), if_pos (by omega), if_pos (by omega), hpd]
theorem from_ev (L : Ln len kerf pitch sizes gain cp dp) (hcl : (cp.length : Int) = len + 1) (hdl : (dp.length : Int) = len + 1) (hbl : (best.length : Int) = len + 1) {e : Int} (h0 : 0 ≤ e) (h1 : e ≤ len) (hV : ∀ x : Int, e < x → x ≤ len → (rd_T100 best x).f0 = bestV len kerf pitch sizes gain cp dp x) :
    Ev (fun k => sawmillref17_from.f k len kerf pitch sizes gain chip dust e cp dp best) (bestV len kerf pitch sizes gain cp dp e, rS (bestC len kerf pitch sizes gain cp dp e), rA (bestC len kerf pitch sizes gain cp dp e)) := by
  have hl1 := L.len1
  have hcs := L.c e len h0 h1 (Int.le_refl _)
  have := from_l0 (chip := chip) (dust := dust) L hcl hdl hbl h0 h1 hV (best_bd L e (by omega)) _ (best_top L e h0 h1).1 (len + 1).toNat 0 ⟨⟨-1, -1⟩, rd cp len - rd cp e⟩ (Int.le_refl _) (by rw [Int.zero_mul]; omega) (by rw [Int.zero_mul]; have := L.pitch0; omega) (.inl ⟨rfl, fun y hy => by obtain ⟨n, n0, n1, _⟩ := hy; omega⟩)
  rw [Int.zero_mul] at this
  refine Ev.congr (fun k => ?_) this
  unfold sawmillref17_from.f
  rw [if_pos (by omega), if_pos (by omega), if_pos (by omega), if_pos (by omega), IntWalk.wrap64_in _ (by omega)]
  rfl
end
end Go.Proofs.YtoaicheopcojoaaDoor.P
