import Derived.Test.YtoaicheopcojoaaDoorP0
import Derived.Lib.Hide
namespace Go.Proofs.YtoaicheopcojoaaDoor.P
open Go.RowKit Go.Proofs.YtoaicheopcojoaaDoorW.PrintWords Go.Proofs.YtoaicheopcojoaaDoorW.PrintLast Go.Proofs.YtoaicheopcojoaaDoorW.PrintMore
attribute [local go_sem] max2_int min2_int max_two min_two max_three min_three max_four min_four
set_option linter.unusedVariables false
set_option linter.unusedSimpArgs false
/-- A list of spans with one more, if it has a unit. -/
def addS (l : List S49) (a b : Int) : List S49 := if a < b then l ++ [⟨a, b⟩] else l

set_option maxHeartbeats 1000000 in
set_option maxRecDepth 100000 in
theorem put_calls {w0 w : World} {base g : Nat} {v : Value} {l : List S49} (a b : Int) {ok : Nat → Prop}
    (hg : w.heap[g]? = some (.cells #[v] 31 (0, 0))) (HO : Kd.R k49 49 w base ok v l) (HB : Below base w0 w) (hbg : base ≤ g) (hok : ∀ k, w.heap.size ≤ k → ok k) (hl : l.length < 8796093022208) :
    Calls Tryd.prog 83 #[.pointer (some ⟨g, 0, none⟩), .int .i64 a, .int .i64 b] w fun e w' => e = .returned (.tuple #[]) ∧ ∃ v', w'.heap[g]? = some (.cells #[v'] 31 (0, 0)) ∧
      Kd.R k49 49 w' base ok v' (addS l a b) ∧ (v'.ownBlock = v.ownBlock ∨ ∃ b, v'.ownBlock = some b ∧ w.heap.size ≤ b) ∧ KeepBut w w' g v.ownBlock ∧ Below base w0 w' := by
  have hgs := blk_lt hg
  have hc := blk_cell hg 0
  have hfz := blk_frozen hg 0
  have hne := Kd.R_ne HO hg (by decide)
  simp at hc
  by_cases h : a < b
  · have HG := Lib.hid hg
    have HNE := Lib.hid hne
    clear hg hne
    go_enter Tryd.func83, Tryd.ntmps83
    go_wp2_with (first | (at_builtin; refine Kd.R_append k49 (w0 := w0) base rfl (.tmp 12) (.tmp 16) 31 49 (.agg #[(.int .i64 0), (.int .i64 0)]) 16 rfl Tryd.underlying31 info49 rfl (by decide) (by omega) v l (⟨a, b⟩ : S49) [.int .i64 a, .int .i64 b] ok (fun _ => False) rfl rfl (k49_mkM _ _ _ (⟨a, b⟩ : S49)) (fun _ hk => hk.elim) hok HO HB ?aS ?aL ?_))
    case aS => omega
    case aL => omega
    intro v1 w1 ho hb hg1 hat
    have HG1 := blk_grown HG.out hg1 HNE.out
    have hc1 := blk_cell HG1 0
    have hfz1 := blk_frozen HG1 0
    simp at hc1
    obtain ⟨A1, c1, e1⟩ := Kd.R_slice ho
    obtain ⟨n1, hn1⟩ : ∃ n, n = (l ++ [(⟨a, b⟩ : S49)]).length := ⟨_, rfl⟩
    rw [← hn1] at e1
    subst e1
    have HH := Lib.hid (And.intro ho (And.intro hb (And.intro hg1 (And.intro hat HG1))))
    clear ho hb hg1 hat HG1 hn1
    go_wp2
    go_end0
    obtain ⟨ho, hb, hg1, hat, HG1⟩ := HH.out
    refine ⟨rfl, _, blk_put HG1 0 _ rfl, ?_, hat, ?_, hb.setCell hbg _⟩
    · rw [addS, if_pos h]
      exact Kd.R_set ho HG1 (by decide) 0 _
    · exact (KeepBut.of_grown hg1 g).set_ 0 _
  · go_enter Tryd.func83, Tryd.ntmps83
    go_wp2
    go_end0
    exact ⟨rfl, v, hg, by rw [addS, if_neg (by omega)]; exact HO, .inl rfl, KeepBut.refl _ _ _, HB⟩

/-- Two variables that hold lists of spans of the call's own. -/
structure Two (w0 w : World) (g g' : Nat) (v v' : Value) (l l' : List S49) : Prop where
  h : w.heap[g]? = some (.cells #[v] 31 (0, 0))
  h' : w.heap[g']? = some (.cells #[v'] 31 (0, 0))
  r : Kd.R k49 49 w w0.heap.size (fun k_ => some k_ ≠ v'.ownBlock) v l
  r' : Kd.R k49 49 w w0.heap.size (fun k_ => some k_ ≠ v.ownBlock) v' l'
  hb : Below w0.heap.size w0 w
  ne : g ≠ g'
  b : w0.heap.size ≤ g
  b' : w0.heap.size ≤ g'
theorem Two.swap {w0 w : World} {g g' : Nat} {v v' : Value} {l l' : List S49} (H : Two w0 w g g' v v' l l') : Two w0 w g' g v' v l' l :=
  ⟨H.h', H.h, H.r', H.r, H.hb, H.ne.symm, H.b', H.b⟩
/-- What other blocks keep. -/
def KeepX (w w' : World) (g : Nat) : Prop := ∀ i cs t, w.heap[i]? = some (.cells cs t (0, 0)) → t ≠ 49 → i ≠ g → w'.heap[i]? = some (.cells cs t (0, 0))
theorem Two.put {w0 w : World} {g g' : Nat} {v v' : Value} {l l' : List S49} (a b : Int) (H : Two w0 w g g' v v' l l') (hl : l.length < 8796093022208) :
    Calls Tryd.prog 83 #[.pointer (some ⟨g, 0, none⟩), .int .i64 a, .int .i64 b] w fun e w' => e = .returned (.tuple #[]) ∧ ∃ v1, Two w0 w' g g' v1 v' (addS l a b) l' ∧ KeepX w w' g ∧ w.heap.size ≤ w'.heap.size := by
  have hok : ∀ k, w.heap.size ≤ k → some k ≠ v'.ownBlock := fun k hk he => by have := Kd.R_lt H.r' k he.symm; omega
  refine (put_calls (w0 := w0) a b H.h H.r H.hb H.b hok hl).mono ?_
  rintro e w' ⟨he, v1, h1, h2, h3, h4, h5⟩
  have hne := Kd.R_ne H.r' H.h (by decide)
  have hk : ∀ k, v'.ownBlock = some k → w'.heap[k]? = w.heap[k]? := fun k hk => h4.2 k (Kd.R_lt H.r' k hk) (fun e => hne (by rw [hk, e])) (fun e => (H.r'.1 k hk) e)
  refine ⟨he, v1, ⟨h1, ?_, h2, ?_, h5, H.ne, H.b, H.b'⟩, ?_, h4.1⟩
  · refine (h4.2 g' (blk_lt H.h') H.ne.symm ?_).trans H.h'
    exact Kd.R_ne H.r H.h' (by decide)
  · skip
    have hr2 := Kd.R_tight2 (d := k49) rfl H.r'
    refine Kd.R_mono (Kd.R_move hr2 (fun k hk' => hk k hk'.1.symm)) ?_
    rintro k ⟨hk1, hk2⟩ he1
    rcases h3 with h3 | ⟨b1, h3, h6⟩
    · exact hk2 (he1.trans h3)
    · rw [h3] at he1
      have := Kd.R_lt H.r' k hk1.symm
      injection he1 with he1
      omega
  · intro i cs t hi ht hig
    refine (h4.2 i (blk_lt hi) hig ?_).trans hi
    exact Kd.R_ne H.r hi (fun e => ht e.symm)

/-- What becomes dust and chips behind a fresh edge. -/
def cutsL (len kerf pitch : Int) (sizes : List Int) (gain : List (List Int)) : List S69 → Int → Bool → List S49 → List S49 → (List S49 × List S49 × Int)
  | [], edge, _, d, c => (d, addS c edge len, 0)
  | x :: ps, edge, en, d, c =>
    if x.f0 < 0 ∨ (sizes.length : Int) ≤ x.f0 then ([], [], 9) else
    if x.f1 < 0 ∨ len - rd sizes x.f0 < x.f1 then ([], [], 20) else
    if en = true ∨ (x.f1 ≠ edge ∧ (x.f1 - kerf - edge < pitch ∨ (x.f1 - kerf - edge) % pitch ≠ 0)) then ([], [], 11) else
    if rd (rd_L1 gain x.f0) x.f1 < 0 then ([], [], 14) else
    let e := x.f1 + rd sizes x.f0
    let edge' := mn (e + kerf) len
    if x.f1 = edge then cutsL len kerf pitch sizes gain ps edge' (e == len) (addS d e edge') c
    else cutsL len kerf pitch sizes gain ps edge' (e == len) (addS (addS d (x.f1 - kerf) x.f1) e edge') (addS c edge (x.f1 - kerf))

/-- A line as Check lets it pass. -/
structure OkLine (len kerf pitch : Int) (sizes : List Int) (gain : List (List Int)) (chip dust : List Int) : Prop where
  len0 : 0 ≤ len
  len1 : len ≤ 2000
  kerf0 : 0 ≤ kerf
  kerf1 : kerf ≤ 20
  pitch0 : 1 ≤ pitch
  pitch1 : pitch ≤ 2000
  nsizes : sizes.length ≤ 32
  sizes0 : ∀ i : Int, 0 ≤ i → i < sizes.length → 1 ≤ rd sizes i ∧ rd sizes i ≤ 2000
  ngain : gain.length = sizes.length
  rows : ∀ i : Int, 0 ≤ i → i < sizes.length → ((rd_L1 gain i).length : Int) = mx 0 (len - rd sizes i + 1)
  nchip : (chip.length : Int) = len
  ndust : (dust.length : Int) = len
  bgain : ∀ i : Int, 0 ≤ i → i < sizes.length → ∀ p : Int, 0 ≤ p → p < (rd_L1 gain i).length → -1125899906842624 ≤ rd (rd_L1 gain i) p ∧ rd (rd_L1 gain i) p ≤ 1125899906842624
  bchip : ∀ p : Int, 0 ≤ p → p < len → -1125899906842624 ≤ rd chip p ∧ rd chip p ≤ 1125899906842624
  bdust : ∀ p : Int, 0 ≤ p → p < len → -1125899906842624 ≤ rd dust p ∧ rd dust p ≤ 1125899906842624

open Classical in
noncomputable def cutting_cuts.f (len kerf pitch : Int) (sizes : List Int) (gain : List (List Int)) (chip dust : List Int) (p : List S69) : Option (List S49 × List S49 × Int) :=
  if OkLine len kerf pitch sizes gain chip dust ∧ p.length ≤ 1000000 ∧ ∀ x ∈ p, (Lit.int .i64 x.f0).wf = true ∧ (Lit.int .i64 x.f1).wf = true then some (cutsL len kerf pitch sizes gain p 0 false [] []) else none

end Go.Proofs.YtoaicheopcojoaaDoor.P
