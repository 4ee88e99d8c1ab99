import Derived.Test.YtoaicheopcojoaaDoorHFr
import Derived.Test.YtoaicheopcojoaaDoorHBf
import Derived.Test.YtoaicheopcojoaaDoorF28d
namespace Go.Proofs.YtoaicheopcojoaaDoor.P
open Go.RowKit Go.Proofs.YtoaicheopcojoaaDoorW.PrintWords Go.Proofs.YtoaicheopcojoaaDoorW.PrintLast Go.Proofs.YtoaicheopcojoaaDoorW.PrintMore
set_option linter.unusedVariables false
set_option linter.unusedSimpArgs false

/-! Both Bests answer the same. -/
section
variable {len kerf pitch : Int} {sizes : List Int} {gain : List (List Int)} {chip dust cp dp : List Int}
def ref100 (c : S97) : S100 := ⟨c.f1, ⟨rS c, rA c⟩⟩
theorem rd100_set_ne (l : List S100) (n : Nat) (x : S100) (i : Int) (h0 : 0 ≤ i) (h : i ≠ n) : rd_T100 (l.set n x) i = rd_T100 l i := by
  unfold rd_T100
  have : n ≠ i.toNat := by omega
  simp [List.getElem?_set, this]
theorem rd100_set_eq (l : List S100) (n : Nat) (x : S100) (h : n < l.length) : rd_T100 (l.set n x) (n : Int) = x := by
  unfold rd_T100
  simp [h]
theorem rbest_l1 (L : Ln len kerf pitch sizes gain cp dp) {b : List S100} (hbl : (b.length : Int) = len + 1) (hb : ∀ x : Int, 0 ≤ x → x ≤ len → rd_T100 b x = ref100 (bestC len kerf pitch sizes gain cp dp x)) :
    ∀ (n : Nat) (e : Int) (acc : List S69), 0 ≤ e → e ≤ len → len + 1 - e ≤ n → (acc.length : Int) ≤ e →
      Ev (fun k => sawmillref17_Best.l1 k b acc e len kerf pitch sizes gain chip dust) (acc ++ piecesB len kerf sizes (bestL len kerf pitch sizes gain cp dp) n e, bestV len kerf pitch sizes gain cp dp 0, 0)
  | 0, e, acc, h0, h1, hn, ha => by omega
  | n + 1, e, acc, h0, h1, hn, ha => by
    have hl1 := L.len1
    have hk := L.kerf0
    have hk1 := L.kerf1
    have hv0 : (rd_T100 b 0).f0 = bestV len kerf pitch sizes gain cp dp 0 := by rw [hb 0 (Int.le_refl _) L.len0]; rfl
    have hbe := hb e h0 h1
    have T := (best_top L e h0 h1).1
    have hc : rd_T97 (bestL len kerf pitch sizes gain cp dp) e = bestC len kerf pitch sizes gain cp dp e := rfl
    rw [piecesB, hc]
    rcases T with ⟨t1, t2⟩ | ⟨t1, ⟨m, m0, t2⟩, t3, t4⟩
    · rw [if_pos (by rw [t1]), List.append_nil]
      refine Ev.step (f := fun _ => some (acc, bestV len kerf pitch sizes gain cp dp 0, 0)) (fun k => ?_) (Ev.now _)
      have hs : (rd_T100 b e).f1.f0 = -1 := by rw [hbe, t1]; rfl
      rw [sawmillref17_Best.l1, if_pos h0, if_pos (by omega), hs, if_neg (by decide), if_pos (by omega), hv0]
    · have hn' : (bestC len kerf pitch sizes gain cp dp e).f0 ≠ ⟨-1, -1⟩ := by intro h; rw [h] at t1; simp at t1
      have hbd := CM_bd L h0 m0 (best_bd L e (by omega)) t2
      have hf := t2.1
      have hs1 := L.sz _ hf.1 hf.2.1
      have hs : rd_T100 b e = ⟨(bestC len kerf pitch sizes gain cp dp e).f1, (bestC len kerf pitch sizes gain cp dp e).f0⟩ := by
        rw [hbe]
        unfold ref100 rS rA
        rw [if_neg (by omega), if_neg (by omega)]
      rw [if_neg hn']
      generalize hcc : bestC len kerf pitch sizes gain cp dp e = c at t1 hn' hbd hf hs1 hs
      obtain ⟨⟨s, a⟩, v⟩ := c
      simp only at t1 hbd hf hs1 hs ⊢
      have hw : wrap64 (a + rd sizes s) = a + rd sizes s := IntWalk.wrap64_in _ (by have := hf.2.2.1; omega)
      have hwk : wrap64 (a + rd sizes s + kerf) = a + rd sizes s + kerf := IntWalk.wrap64_in _ (by have := hf.2.2.1; omega)
      by_cases he : a + rd sizes s = len
      · rw [if_pos he]
        refine Ev.step (f := fun _ => some (acc ++ [⟨s, a⟩], bestV len kerf pitch sizes gain cp dp 0, 0)) (fun k => ?_) (Ev.now _)
        rw [sawmillref17_Best.l1, if_pos h0, if_pos (by omega), hs]
        simp only
        rw [if_pos t1, if_pos (by omega), Option.bind_some, if_pos t1, if_pos hf.2.1, hw, if_pos he, if_pos (by omega), hv0]
      · rw [if_neg he]
        have hm := mn_gt hk (show a + rd sizes s < len by have := hf.2.2.1; omega) hs1.1
        have IH := rbest_l1 L hbl hb n (mn (a + rd sizes s + kerf) len) (acc ++ [⟨s, a⟩]) (by omega) hm.2.2 (by omega) (by rw [List.length_append]; simp only [List.length_singleton]; omega)
        rw [List.append_assoc, List.singleton_append] at IH
        refine Ev.step (fun k => ?_) IH
        rw [sawmillref17_Best.l1, if_pos h0, if_pos (by omega), hs]
        simp only
        rw [if_pos t1, if_pos (by omega), Option.bind_some, if_pos t1, if_pos hf.2.1, hw, if_neg he, hwk]
theorem rbest_l0 (L : Ln len kerf pitch sizes gain cp dp) (hcl : (cp.length : Int) = len + 1) (hdl : (dp.length : Int) = len + 1) (R : List S69 × Int × Int)
    (next : ∀ b : List S100, (b.length : Int) = len + 1 → (∀ x : Int, 0 ≤ x → x ≤ len → rd_T100 b x = ref100 (bestC len kerf pitch sizes gain cp dp x)) → Ev (fun k => sawmillref17_Best.l1 k b [] 0 len kerf pitch sizes gain chip dust) R) :
    ∀ (n : Nat) (b : List S100), (n : Int) ≤ len + 1 → (b.length : Int) = len + 1 → (∀ x : Int, (n : Int) ≤ x → x ≤ len → rd_T100 b x = ref100 (bestC len kerf pitch sizes gain cp dp x)) →
      Ev (fun k => sawmillref17_Best.l0 k cp dp b ((n : Int) - 1) len kerf pitch sizes gain chip dust) R
  | 0, b, hn, hbl, hb => by
    refine Ev.step (fun k => ?_) (next b hbl (fun x h0 h1 => hb x (by omega) h1))
    rw [sawmillref17_Best.l0, if_neg (by omega)]
  | n + 1, b, hn, hbl, hb => by
    have hl1 := L.len1
    have F := from_ev (chip := chip) (dust := dust) L hcl hdl hbl (e := (n : Int)) (by omega) (by omega) (fun x hx hx' => by rw [hb x (by omega) hx']; rfl)
    have IH := rbest_l0 L hcl hdl R next n (b.set n (ref100 (bestC len kerf pitch sizes gain cp dp n))) (by omega) (by rw [List.length_set]; exact hbl) (fun x hx hx' => by
      by_cases e : x = n
      · subst e
        exact rd100_set_eq _ _ _ (by omega)
      · rw [rd100_set_ne _ _ _ _ (by omega) e]
        exact hb x (by omega) hx')
    refine Ev.step (f := fun k => (sawmillref17_from.f k len kerf pitch sizes gain chip dust (n : Int) cp dp b).bind fun bt381 => sawmillref17_Best.l0 k cp dp (b.set n (⟨bt381.1, (⟨bt381.2.1, bt381.2.2⟩ : S69)⟩ : S100)) ((n : Int) - 1) len kerf pitch sizes gain chip dust) (fun k => ?_) (Ev.bind F IH)
    rw [sawmillref17_Best.l0, show (((n + 1 : Nat) : Int) - 1) = (n : Int) by omega, if_pos (by omega)]
    congr 1
    funext bt
    rw [if_pos (by omega), if_pos (by omega), IntWalk.wrap64_in ((n : Int) - 1) (by omega), Int.toNat_natCast]
end
section
variable (len kerf pitch : Int) (sizes : List Int) (gain : List (List Int)) (chip dust : List Int)
/-- What both Bests answer. -/
noncomputable def bestR : List S69 × Int × Int := if checkL len kerf pitch sizes gain chip dust = 0 then (piecesB len kerf sizes (bestL len kerf pitch sizes gain (preL chip) (preL dust)) (len.toNat + 1) 0, bestV len kerf pitch sizes gain (preL chip) (preL dust) 0, 0) else ([], 0, checkL len kerf pitch sizes gain chip dust)
theorem best_ev : Ev (fun k => cutting_Best.f k len kerf pitch sizes gain chip dust) (bestR len kerf pitch sizes gain chip dust) := by
  unfold cutting_Best.f bestR
  refine Ev.bind (check_ev len kerf pitch sizes gain chip dust) ?_
  by_cases h : checkL len kerf pitch sizes gain chip dust = 0
  · simp only [h, if_true]
    have O := (okLine_iff _ _ _ _ _ _ _).mp h
    have h1 := O.nchip
    have h2 := O.ndust
    have h3 := O.len1
    refine Ev.bind (sums_ev (fun p a b => O.bchip p a (by omega)) (by omega)) ?_
    refine Ev.bind (sums_ev (fun p a b => O.bdust p a (by omega)) (by omega)) ?_
    rw [if_pos ⟨O, by rw [preL_len]; omega, by rw [preL_len]; omega⟩]
    exact Ev.now _
  · simp only [h, if_false]
    exact Ev.now _
theorem rbest_ev : Ev (fun k => sawmillref17_Best.f k len kerf pitch sizes gain chip dust) (bestR len kerf pitch sizes gain chip dust) := by
  unfold sawmillref17_Best.f bestR
  refine Ev.bind (rcheck_ev len kerf pitch sizes gain chip dust) ?_
  by_cases h : checkL len kerf pitch sizes gain chip dust = 0
  · simp only [h, if_true]
    have O := (okLine_iff _ _ _ _ _ _ _).mp h
    have h0 := O.len0
    have h1 := O.nchip
    have h2 := O.ndust
    have h3 := O.len1
    have L := ln_of O
    refine Ev.bind (prefix_ev (fun p a b => O.bchip p a (by omega)) (by omega)) ?_
    refine Ev.bind (prefix_ev (fun p a b => O.bdust p a (by omega)) (by omega)) ?_
    rw [IntWalk.wrap64_in (len + 1) (by omega)]
    refine Ev.congr (fun k => (if_pos (by omega)).trans (if_pos (by omega))) ?_
    have := rbest_l0 (chip := chip) (dust := dust) L (by rw [preL_len]; omega) (by rw [preL_len]; omega) _ (fun b hbl hb => rbest_l1 L hbl hb (len.toNat + 1) 0 [] (Int.le_refl _) h0 (by omega) (by simp)) (len + 1).toNat (List.replicate (len + 1).toNat z100) (by omega) (by rw [List.length_replicate]; omega) (fun x hx hx' => by omega)
    rw [show (((len + 1).toNat : Int) - 1) = len by omega, List.nil_append] at this
    exact this
  · simp only [h, if_false]
    exact Ev.now _
end
theorem piecesB_len (len kerf : Int) (sizes : List Int) (b : List S97) : ∀ (n : Nat) (e : Int), (piecesB len kerf sizes b n e).length ≤ n
  | 0, e => by simp [piecesB]
  | n + 1, e => by
    have := piecesB_len len kerf sizes b n (mn ((rd_T97 b e).f0.f1 + rd sizes (rd_T97 b e).f0.f0 + kerf) len)
    rw [piecesB]
    split
    · simp
    · split
      · simp
      · simp only [List.length_cons]
        omega
theorem bestR_len (len kerf pitch : Int) (sizes : List Int) (gain : List (List Int)) (chip dust : List Int) : (bestR len kerf pitch sizes gain chip dust).1.length ≤ 2001 := by
  unfold bestR
  split
  · rename_i h
    have O := (okLine_iff _ _ _ _ _ _ _).mp h
    have h3 := O.len1
    exact Nat.le_trans (piecesB_len _ _ _ _ _ _) (by omega)
  · simp
theorem samePieces_l0 (l : List S69) (hn : l.length < 1000000000000000000) : ∀ j i : Nat, i + j = l.length → Ev (fun k => sawmillref17_SamePieces.l0 k l l (i : Int)) true
  | 0, i, h => Ev.step (f := fun _ => some true) (fun k => by rw [sawmillref17_SamePieces.l0, if_neg (by omega)]) (Ev.now _)
  | j + 1, i, h => by
    refine Ev.step (fun k => ?_) (samePieces_l0 l hn j (i + 1) (by omega))
    rw [sawmillref17_SamePieces.l0, if_pos (by omega), if_pos (by omega), if_pos (by omega), if_neg (by simp), wr1 i l.length (by omega) hn]
theorem samePieces_ev (l : List S69) (hn : l.length < 1000000000000000000) : Ev (fun k => sawmillref17_SamePieces.f k l l) true := by
  unfold sawmillref17_SamePieces.f
  exact Ev.congr (fun k => if_pos rfl) (samePieces_l0 l hn l.length 0 (by omega))
end Go.Proofs.YtoaicheopcojoaaDoor.P
