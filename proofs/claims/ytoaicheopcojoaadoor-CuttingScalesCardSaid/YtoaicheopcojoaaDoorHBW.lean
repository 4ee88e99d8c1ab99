import Derived.Test.YtoaicheopcojoaaDoorHB1
import Derived.Test.YtoaicheopcojoaaDoorSq
import Derived.Test.YtoaicheopcojoaaDoorF19
import Derived.Test.YtoaicheopcojoaaDoorF56
import Derived.Lib.Hide
import Derived.StillTailTactics
import Derived.BigQuiet
namespace Go.Proofs.YtoaicheopcojoaaDoor.P
open Go.RowKit Go.Proofs.YtoaicheopcojoaaDoorW.PrintWords Go.Proofs.YtoaicheopcojoaaDoorW.PrintLast Go.Proofs.YtoaicheopcojoaaDoorW.PrintMore
attribute [local go_sem] max2_int min2_int max_two min_two max_three min_three max_four min_four
set_option linter.unusedVariables false
set_option linter.unusedSimpArgs false

/-- The blocks that Best's loops read and write. -/
structure BW (w w' : World) (line : Array Value) (gl ga gh gb gc gd : Nat) (cc cd : Array Value) (t : Tri) : Prop where
  hl : w'.heap[gl]? = some (.cells line 25 (0, 0))
  ha : w'.heap[ga]? = some (.cells (enc97 t.a) 97 (0, 0))
  hh : w'.heap[gh]? = some (.cells (enc97 t.b) 97 (0, 0))
  hb : w'.heap[gb]? = some (.cells (enc97 t.c) 97 (0, 0))
  hc : w'.heap[gc]? = some (.cells cc 3 (0, 0))
  hd : w'.heap[gd]? = some (.cells cd 3 (0, 0))
  hg : w'.heap[0]? = some (.cells #[.int .i64 (-1), .int .i64 (-1), .int .i64 0] 97 (0, 0))
  be : Below w.heap.size w w'
  na : w.heap.size ≤ ga
  nh : w.heap.size ≤ gh
  nb : w.heap.size ≤ gb
  ah : ga ≠ gh
  ab : ga ≠ gb
  hb' : gh ≠ gb
  z : 0 < w.heap.size

theorem make97 (n : Int) (h0 : 0 ≤ n) (h1 : n ≤ 2000) (W : World) : (Instr.makeSlice 95 (.int .i64 (n + 1)) (.int .i64 (n + 1))).run Tryd.prog W = .ok (.slice (some ⟨W.heap.size, 0, none⟩) (n + 1).toNat (n + 1).toNat) (W.alloc (.cells (enc97 (List.replicate (n.toNat + 1) z97)) 97)) := by
  obtain ⟨i, hi, hz0, hz1, hz2⟩ := info_parts info97
  have := run_make (P := Tryd.prog) W 95 97 i _ Tryd.underlying95 hi hz0 .i64 .i64 (n + 1) (n + 1) (by omega) (by omega) (by rw [hz2]; omega) (by omega)
  rw [this, hz1]
  have e : (n + 1).toNat = n.toNat + 1 := by omega
  rw [e, ← enc97_made]
  rfl
/-- A row of whole numbers of the call's own, as a block. -/
theorem row_block {w : World} {base : Nat} {ok : Nat → Prop} {v : Value} {l : List Int} (h : Kd.R (Kd.int .i64) 3 w base ok v l) (hl : 0 < l.length) :
    ∃ g cap cur, v = .slice (some ⟨g, 0, none⟩) l.length cap ∧ base ≤ g ∧ w.heap[g]? = some (.cells cur 3 (0, 0)) ∧ ∀ i : Int, 0 ≤ i → i < l.length → cur[i.toNat]? = some (.int .i64 (rd l i)) := by
  obtain ⟨inner, ho⟩ := Kd.R_own h
  obtain ⟨A, c, hv, hlc, hC⟩ := Kd.R_reads h
  rcases ho.2 with ⟨rfl, h0⟩ | ⟨g, cap, cur, rfl, hb, hh, h1, h2, h3, h4⟩
  · omega
  · refine ⟨g, cap, cur, rfl, hb, hh, fun i h0 h1' => ?_⟩
    injection hv with e1 e2 e3
    subst e1
    obtain ⟨ad, he, hcell⟩ := Kd.at_int hC i h0 h1'
    injection he with he
    subst he
    rw [add_plain, blk_cell hh] at hcell
    exact hcell
theorem BW.types {w w' : World} {line cc cd : Array Value} {gl ga gh gb gc gd : Nat} {t : Tri} (H : BW w w' line gl ga gh gb gc gd cc cd t) :
    (gl ≠ ga ∧ gl ≠ gh ∧ gl ≠ gb) ∧ (gc ≠ ga ∧ gc ≠ gh ∧ gc ≠ gb) ∧ (gd ≠ ga ∧ gd ≠ gh ∧ gd ≠ gb) ∧ 0 ≠ ga ∧ 0 ≠ gh ∧ 0 ≠ gb := by
  have h1 := H.na
  have h2 := H.nh
  have h3 := H.nb
  have h4 := H.z
  exact ⟨⟨blk_ne H.hl H.ha (by decide), blk_ne H.hl H.hh (by decide), blk_ne H.hl H.hb (by decide)⟩, ⟨blk_ne H.hc H.ha (by decide), blk_ne H.hc H.hh (by decide), blk_ne H.hc H.hb (by decide)⟩,
    ⟨blk_ne H.hd H.ha (by decide), blk_ne H.hd H.hh (by decide), blk_ne H.hd H.hb (by decide)⟩, by omega, by omega, by omega⟩
theorem blk_far3 {w : World} {g g' o : Nat} {t : TypeId} {cs : Array Value} (h : w.heap[g']? = some (.cells cs t (0, 0))) (hne : g' ≠ g) (a b c : Value) :
    (((w.setCell ⟨g, o, none⟩ a).setCell ⟨g, o + 1, none⟩ b).setCell ⟨g, o + 2, none⟩ c).heap[g']? = some (.cells cs t (0, 0)) := blk_far (blk_far (blk_far h hne _) hne _) hne _
theorem blk_put3 {w : World} {g : Nat} {l : List S97} (h : w.heap[g]? = some (.cells (enc97 l) 97 (0, 0))) (i : Nat) (hi : i < l.length) (x : S97) :
    (((w.setCell ⟨g, i * 3, none⟩ (.int .i64 x.f0.f0)).setCell ⟨g, i * 3 + 1, none⟩ (.int .i64 x.f0.f1)).setCell ⟨g, i * 3 + 2, none⟩ (.int .i64 x.f1)).heap[g]? = some (.cells (enc97 (l.set i x)) 97 (0, 0)) :=
  blk_put (blk_put (blk_put h _ _ rfl) _ _ rfl) _ _ (enc97_set l i x hi)
section
variable {w w' : World} {line cc cd : Array Value} {gl ga gh gb gc gd : Nat} {t : Tri}
theorem BW.setA (H : BW w w' line gl ga gh gb gc gd cc cd t) (i : Nat) (hi : i < t.a.length) (x : S97) :
    BW w (((w'.setCell ⟨ga, i * 3, none⟩ (.int .i64 x.f0.f0)).setCell ⟨ga, i * 3 + 1, none⟩ (.int .i64 x.f0.f1)).setCell ⟨ga, i * 3 + 2, none⟩ (.int .i64 x.f1)) line gl ga gh gb gc gd cc cd ⟨t.a.set i x, t.b, t.c⟩ := by
  obtain ⟨⟨a1, a2, a3⟩, ⟨b1, b2, b3⟩, ⟨c1, c2, c3⟩, d1, d2, d3⟩ := H.types
  exact ⟨blk_far3 H.hl a1 _ _ _, blk_put3 H.ha i hi x, blk_far3 H.hh H.ah.symm _ _ _, blk_far3 H.hb H.ab.symm _ _ _, blk_far3 H.hc b1 _ _ _, blk_far3 H.hd c1 _ _ _, blk_far3 H.hg d1 _ _ _,
    ((H.be.setCell H.na _).setCell H.na _).setCell H.na _, H.na, H.nh, H.nb, H.ah, H.ab, H.hb', H.z⟩
theorem BW.setH (H : BW w w' line gl ga gh gb gc gd cc cd t) (i : Nat) (hi : i < t.b.length) (x : S97) :
    BW w (((w'.setCell ⟨gh, i * 3, none⟩ (.int .i64 x.f0.f0)).setCell ⟨gh, i * 3 + 1, none⟩ (.int .i64 x.f0.f1)).setCell ⟨gh, i * 3 + 2, none⟩ (.int .i64 x.f1)) line gl ga gh gb gc gd cc cd ⟨t.a, t.b.set i x, t.c⟩ := by
  obtain ⟨⟨a1, a2, a3⟩, ⟨b1, b2, b3⟩, ⟨c1, c2, c3⟩, d1, d2, d3⟩ := H.types
  exact ⟨blk_far3 H.hl a2 _ _ _, blk_far3 H.ha H.ah _ _ _, blk_put3 H.hh i hi x, blk_far3 H.hb H.hb'.symm _ _ _, blk_far3 H.hc b2 _ _ _, blk_far3 H.hd c2 _ _ _, blk_far3 H.hg d2 _ _ _,
    ((H.be.setCell H.nh _).setCell H.nh _).setCell H.nh _, H.na, H.nh, H.nb, H.ah, H.ab, H.hb', H.z⟩
theorem BW.setB (H : BW w w' line gl ga gh gb gc gd cc cd t) (i : Nat) (hi : i < t.c.length) (x : S97) :
    BW w (((w'.setCell ⟨gb, i * 3, none⟩ (.int .i64 x.f0.f0)).setCell ⟨gb, i * 3 + 1, none⟩ (.int .i64 x.f0.f1)).setCell ⟨gb, i * 3 + 2, none⟩ (.int .i64 x.f1)) line gl ga gh gb gc gd cc cd ⟨t.a, t.b, t.c.set i x⟩ := by
  obtain ⟨⟨a1, a2, a3⟩, ⟨b1, b2, b3⟩, ⟨c1, c2, c3⟩, d1, d2, d3⟩ := H.types
  exact ⟨blk_far3 H.hl a3 _ _ _, blk_far3 H.ha H.ab _ _ _, blk_far3 H.hh H.hb' _ _ _, blk_put3 H.hb i hi x, blk_far3 H.hc b3 _ _ _, blk_far3 H.hd c3 _ _ _, blk_far3 H.hg d3 _ _ _,
    ((H.be.setCell H.nb _).setCell H.nb _).setCell H.nb _, H.na, H.nh, H.nb, H.ah, H.ab, H.hb', H.z⟩
theorem BW.draw (H : BW w w' line gl ga gh gb gc gd cc cd t) (n : Nat) : BW w (w'.drewN n) line gl ga gh gb gc gd cc cd t :=
  ⟨blk_drewN H.hl _, blk_drewN H.ha _, blk_drewN H.hh _, blk_drewN H.hb _, blk_drewN H.hc _, blk_drewN H.hd _, blk_drewN H.hg _, pw_below_drewN H.be _, H.na, H.nh, H.nb, H.ah, H.ab, H.hb', H.z⟩
theorem BW.draw1 (H : BW w w' line gl ga gh gb gc gd cc cd t) : BW w w'.drew line gl ga gh gb gc gd cc cd t :=
  ⟨blk_drew H.hl, blk_drew H.ha, blk_drew H.hh, blk_drew H.hb, blk_drew H.hc, blk_drew H.hd, blk_drew H.hg, below_drew1 H.be, H.na, H.nh, H.nb, H.ah, H.ab, H.hb', H.z⟩
theorem BW.alloc (H : BW w w' line gl ga gh gb gc gd cc cd t) (o : Obj) : BW w (w'.alloc o) line gl ga gh gb gc gd cc cd t :=
  ⟨blk_alloc H.hl _, blk_alloc H.ha _, blk_alloc H.hh _, blk_alloc H.hb _, blk_alloc H.hc _, blk_alloc H.hd _, blk_alloc H.hg _, below_alloc H.be _, H.na, H.nh, H.nb, H.ah, H.ab, H.hb', H.z⟩
theorem BW.later {w1 : World} (H : BW w w' line gl ga gh gb gc gd cc cd t) (h : Below w'.heap.size w' w1) : BW w w1 line gl ga gh gb gc gd cc cd t :=
  ⟨blk_below H.hl h, blk_below H.ha h, blk_below H.hh h, blk_below H.hb h, blk_below H.hc h, blk_below H.hd h, blk_below H.hg h, below_step H.be h, H.na, H.nh, H.nb, H.ah, H.ab, H.hb', H.z⟩
end
theorem BW.draws {w w' w1 : World} {line cc cd : Array Value} {gl ga gh gb gc gd : Nat} {t : Tri} (H : BW w w' line gl ga gh gb gc gd cc cd t) (h : ∃ n, w1 = w'.drewN n) : BW w w1 line gl ga gh gb gc gd cc cd t := by
  obtain ⟨n, rfl⟩ := h
  exact H.draw n
section
variable {P : Program} {ops : Array Oper} {w : World}
theorem still_of_quiet {Q : Act → Prop} : ∀ (l : List Oper) (a : Act), wpQuiet P ops (fun w' => w' = w) Q l a → wpStill P ops w Q l a
  | [], a, h => h
  | o :: rest, a, h => by
    unfold wpQuiet at h
    unfold wpStill
    split
    · rename_i hw
      rw [if_pos hw] at h
      obtain ⟨v, h1, h2⟩ := h
      have h3 := h1 w rfl
      have h4 := still_of_quiet rest _ h2
      unfold Oper.quietAt at h3
      unfold Oper.still
      revert h3
      generalize (execOp a.eval o).run P w = r
      intro h3
      unfold Oper.quietUpon at h3
      unfold Oper.stillUpon
      split at h3
      · obtain ⟨h5, h6⟩ := h3; subst h6; exact ⟨h5, h4⟩
      · obtain ⟨h5, h6⟩ := h3; subst h6; exact ⟨h5, h4⟩
      · obtain ⟨h5, h6⟩ := h3; exact ⟨h5, v, h6, h4⟩
      · exact h3.elim
    · rename_i hw
      rw [if_neg hw] at h
      exact still_of_quiet rest _ h
end
def bestK (len : Int) (cp : List Int) (a b : S97) (e : Int) : Nat → S97
  | 0 => ⟨⟨-1, -1⟩, wrap64 (rd cp len - rd cp e)⟩
  | n + 1 => better (rd_T97 [a, b] n) (bestK len cp a b e n)
theorem noneB (x : S97) : ((x.f0.f0 == -1 && (x.f0.f1 == -1)) && (x.f1 == 0)) = decide (x = noneC) := by
  obtain ⟨⟨a, b⟩, c⟩ := x
  simp only [noneC, S97.mk.injEq, S69.mk.injEq]
  rw [Bool.eq_iff_iff]
  simp
theorem noneB' (x : S97) : ((!(x.f0.f0 == -1) || (!(x.f0.f1 == -1))) || (!(x.f1 == 0))) = !decide (x = noneC) := by
  rw [← noneB]; simp [Bool.not_and]
end Go.Proofs.YtoaicheopcojoaaDoor.P
