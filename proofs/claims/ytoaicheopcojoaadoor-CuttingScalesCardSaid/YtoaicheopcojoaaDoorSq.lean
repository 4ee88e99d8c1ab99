import Derived.Test.YtoaicheopcojoaaDoorP0
namespace Go.Proofs.YtoaicheopcojoaaDoor.P
open Go.RowKit Go.Proofs.YtoaicheopcojoaaDoorW.PrintWords Go.Proofs.YtoaicheopcojoaaDoorW.PrintLast Go.Proofs.YtoaicheopcojoaaDoorW.PrintMore
set_option linter.unusedVariables false
set_option linter.unusedSimpArgs false
/-! Words for texts made small (wip/tools/squeeze.py): closing steps, written once. An auto-bound argument's steps see the names of the place that uses the word. -/
theorem bl {q_ : Prop} (k_ : q_ := by repeat (first | (with_reducible first | exact HB.out | apply below_alloc | apply pw_below_drewN | apply below_drew1 | refine below_set ?_ (Aside0.out (by assumption))) | exact HB.out)) : q_ := k_
theorem kl {q_ : Prop} (k_ : q_ := by repeat (first | (with_reducible first | exact HK.out | apply Kept.alloc | apply Kept.drewN | apply Kept.drew) | exact HK.out)) : q_ := k_
theorem bu {p_ q_ : Prop} (h_ : p_) (k_ : p_ → q_ := by (intro hq_; (with_reducible repeat (first | refine blk_drewN ?_ _ | refine blk_drew ?_ | refine blk_alloc ?_ _)); exact hq_)) : q_ := k_ h_
theorem ru {p_ q_ : Prop} (h_ : p_) (k_ : p_ → q_ := by (intro hq_; (with_reducible repeat (first | apply Kd.R_alloc | apply Kd.R_drewN | apply Kd.R_drew)); exact hq_)) : q_ := k_ h_
theorem su {p_ q_ : Prop} (h_ : p_) (k_ : p_ → q_ := by (intro hq_; (with_reducible repeat (first | apply Kd.S_alloc | apply Kd.S_drewN | apply Kd.S_drew)); exact hq_)) : q_ := k_ h_
theorem vu {p_ q_ : Prop} (h_ : p_) (k_ : p_ → q_ := by (intro hq_; (with_reducible repeat (first | apply Kd.V_alloc | apply Kd.V_drewN | apply Kd.V_drew)); exact hq_)) : q_ := k_ h_
theorem nu {p_ q_ : Prop} (h_ : p_) (k_ : p_ → q_ := by (intro hq_; (with_reducible repeat (first | apply Kd.N_alloc | apply Kd.N_drewN | apply Kd.N_drew)); exact hq_)) : q_ := k_ h_
theorem qu {p_ q_ : Prop} (h_ : p_) (k_ : p_ → q_ := by (intro hq_; (with_reducible repeat (first | apply Kd.Q_alloc | apply Kd.Q_drewN | apply Kd.Q_drew)); exact hq_)) : q_ := k_ h_
theorem cu1 {p_ q_ : Prop} (h_ : p_) (k_ : p_ → q_ := by (intro hq_; repeat (first | exact hq_ | (with_reducible refine Kd.C_alloc ?_ _) | (with_reducible refine Kd.C_drewN ?_ _) | (with_reducible refine Kd.C_drew ?_)))) : q_ := k_ h_
theorem as1 {q_ : Prop} (k_ : q_ := by first | (with_reducible assumption) | assumption) : q_ := k_
theorem da1 {p_ : Prop} [Decidable p_] (k_ : decide p_ = true := by first | (with_reducible assumption) | assumption) : p_ := of_decide_eq_true k_
theorem mp1 {q_ : Prop} (k_ : q_ := by (try simp only [List.map_toArray, List.map_cons, List.map_nil]); first | done | rfl | (simp only [List.length_drop, List.length_take]; rfl)) : q_ := k_
theorem rs1 {q_ : Prop} (k_ : q_ := by first | rfl | (simp; done) | (simp [*]; done)) : q_ := k_
theorem fe1 {q_ : Prop} (k_ : q_ := by first | rfl | (simp [errW_none, errW_some] <;> rfl) | (simp [*, errW_none, errW_some] <;> rfl)) : q_ := k_
theorem dr1 {q_ : Prop} (k_ : q_ := by repeat (first | exact Drawn0.refl _ | apply Drawn0.step)) : q_ := k_
theorem ab1 {p_ q_ : Prop} (h_ : p_) (k_ : p_ → q_ := by (intro hq_; first | (rw [add_block]; exact hq_) | (show (Addr.add _ _).block ≠ _; rw [add_block]; exact hq_) | exact hq_)) : q_ := k_ h_
theorem gs1 {q_ : Prop} (k_ : q_ := by (rw [hg]; exact (below_size bl))) : q_ := k_
theorem nl1 {p_ q_ : Prop} (h_ : Aside0 p_) (k_ : p_ → q_ := by (intro hq_; rw [hg]; exact Nat.ne_of_lt (blk_lt (by ((with_reducible repeat (first | refine blk_drewN ?_ _ | refine blk_drew ?_ | refine blk_alloc ?_ _)); exact hq_))))) : q_ := k_ h_.out
theorem ng1 {p_ q_ : Prop} (h_ : Aside0 p_) (k_ : p_ → q_ := by (intro hq_; rw [hg]; exact Nat.ne_of_gt (blk_lt (by ((with_reducible repeat (first | refine blk_drewN ?_ _ | refine blk_drew ?_ | refine blk_alloc ?_ _)); exact hq_))))) : q_ := k_ h_.out
theorem gd1 {α : Type} {p : Prop} [Decidable p] {a : Option α} {r : α} (h : (if p then a else none) = some r) : p ∧ a = some r := by
  by_cases c : p
  · rw [if_pos c] at h; exact ⟨c, h⟩
  · rw [if_neg c] at h; cases h
theorem blk_cells {w : World} {g : Nat} {t : TypeId} {cs : Array Value} (h : w.heap[g]? = some (.cells cs t (0, 0))) : ∀ i, w.cell? ⟨g, i, none⟩ = cs[i]? := fun i => blk_cell h i
theorem blk_frozens {w : World} {g : Nat} {t : TypeId} {cs : Array Value} (h : w.heap[g]? = some (.cells cs t (0, 0))) : ∀ i, w.frozen? ⟨g, i, none⟩ = false := fun i => blk_frozen h i
section
variable {P : Program} {ops : Array Oper} {rest : List Oper} {o : Oper} {a : Act} {Q : Exit → Act → World → Prop}
theorem bx1 {W : World} {N : Tmp} (cs : Array Value) (t : TypeId) 
    (h : ∀ g, g = W.heap.size → ∀ w1, w1.heap[g]? = some (.cells cs t (0, 0)) → Below W.heap.size W w1 → wpList P ops Q rest (a.put o.dst (.pointer (some ⟨g, 0, none⟩))) w1)
    (hgd : o.guard = none := by rfl) (_hd : o.dst = some N := by rfl)
    (hrun : (execOp a.eval o).run P W = .ok (.value (.pointer (some ⟨W.heap.size, 0, none⟩))) (W.alloc (.cells cs t (0, 0))) := by first | (go_simp; done) | (go_simp; rfl)) : wpList P ops Q (o :: rest) a W :=
  box_event hgd _hd hrun h
end
section
variable {P : Program} {ops : Array Oper} {Q : Exit → Act → World → Prop} {md : Region.Mode} {S : World → Prop} {ds : List Nat}
theorem pu1 (i : Nat) (N : Option Tmp) {oi : Oper} {v : Value} {fuel : Nat} {l : Array Bool} {a : Act} {w : World} (l' : Array Bool) {a' : Act} (h : wpAnyLast P md ops Q S ds fuel l' a' w)
    (hi : ops[i]? = some oi := by rfl) (hN : oi.dst = N := by rfl) (hc : anyB md ops l l' i = true := by exact any_of HT_.out (by kernel_rfl))
    (hy : Yields P ops oi v a := by (refine Or.inl ⟨by rfl, ?_⟩; intro w'; go_simp; with_reducible rfl)) (ha : a.put N v = a' := by (simp only [Act.put, List.setIfInBounds_toArray, List.set_cons_zero, List.set_cons_succ, i64_w, i32_w]; rfl))
    (hQ : ∀ c a w, Q (.panic c) (a.put oi.dst v) w → Q (.panic c) a w := by exact fun _ _ _ h => h) : wpAnyLast P md ops Q S ds (fuel + 1) l a w :=
  pure_ l' hi hN hc hQ hy ha h
theorem ta1 (i : Nat) (N : Option Tmp) {oi : Oper} {v : Value} {fuel : Nat} {l : Array Bool} {a : Act} {w : World} (l' : Array Bool) {a' : Act} (h : wpAnyLast P md ops Q S ds fuel l' a' w)
    (hi : ops[i]? = some oi := by rfl) (hN : oi.dst = N := by rfl) (hc : takeB md ops ds l l' i = true := by exact take_ofW HT_.out HW_.out (by kernel_rfl))
    (hy : YieldsIf P ops S oi v a := by (refine Or.inl ⟨by rfl, ?_⟩; intro w' hS_; (repeat (obtain ⟨s_, hS_⟩ := hS_)); go_simp; with_reducible rfl)) (ha : a.put N v = a' := by (simp only [Act.put, List.setIfInBounds_toArray, List.set_cons_zero, List.set_cons_succ, i64_w, i32_w]; rfl))
    (hS : S w := by exact hHeld) (hQ : ∀ c a w, Q (.panic c) (a.put oi.dst v) w → Q (.panic c) a w := by exact fun _ _ _ h => h) : wpAnyLast P md ops Q S ds (fuel + 1) l a w :=
  take_ l' hi hN hc hQ hy hS ha h
end
end Go.Proofs.YtoaicheopcojoaaDoor.P
