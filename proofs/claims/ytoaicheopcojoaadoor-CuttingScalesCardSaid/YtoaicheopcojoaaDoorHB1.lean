import Derived.Test.YtoaicheopcojoaaDoorHB0
namespace Go.Proofs.YtoaicheopcojoaaDoor.P
open Go.RowKit Go.Proofs.YtoaicheopcojoaaDoorW.PrintWords Go.Proofs.YtoaicheopcojoaaDoorW.PrintLast Go.Proofs.YtoaicheopcojoaaDoorW.PrintMore
set_option linter.unusedVariables false
set_option linter.unusedSimpArgs false

/-! What Best reckons, in plain words. -/
instance decS69 : DecidableEq S69 := fun a b => decidable_of_iff (a.f0 = b.f0 ∧ a.f1 = b.f1) (by cases a; cases b; simp)
instance decS97 : DecidableEq S97 := fun a b => decidable_of_iff (a.f0 = b.f0 ∧ a.f1 = b.f1) (by cases a; cases b; simp)
def noneC : S97 := ⟨⟨-1, -1⟩, 0⟩
/-- The value of a piece of the size i at e, with its cut and the best behind it. -/
def atVal (len kerf : Int) (sizes : List Int) (gain : List (List Int)) (dp : List Int) (best : List S97) (e i : Int) : Int :=
  if e + rd sizes i < len then wrap64 (rd (rd_L1 gain i) e + wrap64 (wrap64 (rd dp (mn (e + rd sizes i + kerf) len) - rd dp (e + rd sizes i)) + (rd_T97 best (mn (e + rd sizes i + kerf) len)).f1)) else rd (rd_L1 gain i) e
/-- The best piece at e, one size more considered. -/
def atOne (len kerf : Int) (sizes : List Int) (gain : List (List Int)) (dp : List Int) (best : List S97) (e : Int) (cur : S97) (i : Int) : S97 :=
  if len < e + rd sizes i ∨ rd (rd_L1 gain i) e < 0 then cur else
  if cur = noneC ∨ cur.f1 < atVal len kerf sizes gain dp best e i then ⟨⟨i, e⟩, atVal len kerf sizes gain dp best e i⟩ else cur
/-- .. the first n sizes considered. -/
def atN (len kerf : Int) (sizes : List Int) (gain : List (List Int)) (dp : List Int) (best : List S97) (e : Int) : Nat → S97
  | 0 => noneC
  | n + 1 => atOne len kerf sizes gain dp best e (atN len kerf sizes gain dp best e n) n
def beh1 (len kerf pitch : Int) (cp dp : List Int) (at_ : List S97) (e : Int) : S97 :=
  if e + pitch + kerf ≤ len ∧ rd_T97 at_ (e + pitch + kerf) ≠ noneC then
    ⟨(rd_T97 at_ (e + pitch + kerf)).f0, wrap64 (wrap64 (wrap64 (wrap64 (rd cp (e + pitch) - rd cp e) + rd dp (e + pitch + kerf)) - rd dp (e + pitch)) + (rd_T97 at_ (e + pitch + kerf)).f1)⟩
  else noneC
def behE (len kerf pitch : Int) (cp dp : List Int) (at_ beh : List S97) (e : Int) : S97 :=
  if e + pitch ≤ len then
    if rd_T97 beh (e + pitch) ≠ noneC ∧ (beh1 len kerf pitch cp dp at_ e = noneC ∨ (beh1 len kerf pitch cp dp at_ e).f1 < wrap64 (wrap64 (rd cp (e + pitch) - rd cp e) + (rd_T97 beh (e + pitch)).f1)) then
      ⟨(rd_T97 beh (e + pitch)).f0, wrap64 (wrap64 (rd cp (e + pitch) - rd cp e) + (rd_T97 beh (e + pitch)).f1)⟩
    else beh1 len kerf pitch cp dp at_ e
  else noneC
def better (c b : S97) : S97 := if c ≠ noneC ∧ b.f1 < c.f1 then c else b
def bestE (len : Int) (cp : List Int) (a b : S97) (e : Int) : S97 := better b (better a ⟨⟨-1, -1⟩, wrap64 (rd cp len - rd cp e)⟩)
/-- The three lists, from the right end down to e. -/
structure Tri where
  a : List S97
  b : List S97
  c : List S97
def stepT (len kerf pitch : Int) (sizes : List Int) (gain : List (List Int)) (cp dp : List Int) (t : Tri) (e : Nat) : Tri :=
  let a := t.a.set e (atN len kerf sizes gain dp t.c e sizes.length)
  let b := t.b.set e (behE len kerf pitch cp dp a (t.b.set e noneC) e)
  ⟨a, b, t.c.set e (bestE len cp (rd_T97 a e) (rd_T97 b e) e)⟩
/-- n rounds are left: the positions below n. -/
def runT (len kerf pitch : Int) (sizes : List Int) (gain : List (List Int)) (cp dp : List Int) : Nat → Tri → Tri
  | 0, t => t
  | n + 1, t => runT len kerf pitch sizes gain cp dp n (stepT len kerf pitch sizes gain cp dp t n)
/-- The pieces, from a fresh edge on. -/
def piecesB (len kerf : Int) (sizes : List Int) (best : List S97) : Nat → Int → List S69
  | 0, _ => []
  | n + 1, e =>
    if (rd_T97 best e).f0 = ⟨-1, -1⟩ then [] else
    (rd_T97 best e).f0 :: (if (rd_T97 best e).f0.f1 + rd sizes (rd_T97 best e).f0.f0 = len then [] else piecesB len kerf sizes best n (mn ((rd_T97 best e).f0.f1 + rd sizes (rd_T97 best e).f0.f0 + kerf) len))
def startT (len : Int) : Tri := ⟨List.replicate (len.toNat + 1) z97, List.replicate (len.toNat + 1) z97, List.replicate (len.toNat + 1) z97⟩
def bestL (len kerf pitch : Int) (sizes : List Int) (gain : List (List Int)) (cp dp : List Int) : List S97 := (runT len kerf pitch sizes gain cp dp (len.toNat + 1) (startT len)).c

theorem runT_len (len kerf pitch : Int) (sizes : List Int) (gain : List (List Int)) (cp dp : List Int) (n : Nat) (t : Tri) : (runT len kerf pitch sizes gain cp dp n t).c.length = t.c.length := by
  induction n generalizing t with
  | zero => rfl
  | succ n ih => rw [runT, ih]; simp [stepT]

/-- A choice as it can stand at e: none, or a piece of a size that lies in the line, from e on. -/
def okC (len : Int) (sizes : List Int) (e : Int) (x : S97) : Prop := x.f0 = ⟨-1, -1⟩ ∨ (0 ≤ x.f0.f0 ∧ x.f0.f0 < sizes.length ∧ e ≤ x.f0.f1 ∧ x.f0.f1 + rd sizes x.f0.f0 ≤ len)
theorem okC.le {len : Int} {sizes : List Int} {e e' : Int} {x : S97} (h : okC len sizes e' x) (he : e ≤ e') : okC len sizes e x := by
  rcases h with h | ⟨h1, h2, h3, h4⟩
  · exact .inl h
  · exact .inr ⟨h1, h2, by omega, h4⟩
theorem okC_at {len kerf : Int} {sizes : List Int} {gain : List (List Int)} {dp : List Int} {best : List S97} {e : Int} (n : Nat) (hn : n ≤ sizes.length) : okC len sizes e (atN len kerf sizes gain dp best e n) := by
  induction n with
  | zero => exact .inl rfl
  | succ n ih =>
    rw [atN, atOne]
    split
    · exact ih (by omega)
    · split
      · exact .inr ⟨by simp, by simp; omega, by simp, by simp; omega⟩
      · exact ih (by omega)
theorem rd_set (l : List S97) (n : Nat) (x : S97) (i : Int) (hi : 0 ≤ i) (hn : n < l.length) : rd_T97 (l.set n x) i = if i = n then x else rd_T97 l i := by
  unfold rd_T97
  by_cases h : i = n
  · subst h; simp [hn]
  · rw [if_neg h]
    have : n ≠ i.toNat := by omega
    simp [List.getElem?_set, this]
/-- What holds of the lists from position m on. -/
structure OkT (len : Int) (sizes : List Int) (m : Nat) (t : Tri) : Prop where
  la : t.a.length = len.toNat + 1
  lb : t.b.length = len.toNat + 1
  lc : t.c.length = len.toNat + 1
  ha : ∀ i : Int, (m : Int) ≤ i → i ≤ len → okC len sizes i (rd_T97 t.a i)
  hb : ∀ i : Int, (m : Int) ≤ i → i ≤ len → okC len sizes i (rd_T97 t.b i)
  hc : ∀ i : Int, (m : Int) ≤ i → i ≤ len → okC len sizes i (rd_T97 t.c i)
theorem okC_better {len : Int} {sizes : List Int} {e : Int} {a b : S97} (ha : okC len sizes e a) (hb : okC len sizes e b) : okC len sizes e (better a b) := by unfold better; split <;> assumption
theorem OkT.step {len kerf pitch : Int} {sizes : List Int} {gain : List (List Int)} {cp dp : List Int} {t : Tri} {n : Nat} (h : OkT len sizes (n + 1) t) (hn : (n : Int) ≤ len) (hk : 0 ≤ kerf) (hp : 1 ≤ pitch) : OkT len sizes n (stepT len kerf pitch sizes gain cp dp t n) := by
  have hA : ∀ i : Int, (n : Int) ≤ i → i ≤ len → okC len sizes i (rd_T97 (stepT len kerf pitch sizes gain cp dp t n).a i) := by
    intro i h1 h2
    simp only [stepT]
    rw [rd_set _ _ _ _ (by omega) (by rw [h.la]; omega)]
    split
    · rename_i e; rw [e]; exact okC_at _ (Nat.le_refl _)
    · exact h.ha i (by omega) h2
  have hB : ∀ i : Int, (n : Int) ≤ i → i ≤ len → okC len sizes i (rd_T97 (stepT len kerf pitch sizes gain cp dp t n).b i) := by
    intro i h1 h2
    have hA' := hA
    simp only [stepT] at hA' ⊢
    rw [rd_set _ _ _ _ (by omega) (by rw [h.lb]; omega)]
    split
    · rename_i e
      rw [e]
      have hb1 : okC len sizes n (beh1 len kerf pitch cp dp (t.a.set n (atN len kerf sizes gain dp t.c n sizes.length)) n) := by
        unfold beh1
        split
        · rename_i hc
          exact (show okC len sizes n ⟨(rd_T97 (t.a.set n (atN len kerf sizes gain dp t.c n sizes.length)) (n + pitch + kerf)).f0, _⟩ from (hA' (n + pitch + kerf) (by omega) hc.1).le (by omega))
        · exact .inl rfl
      unfold behE
      split
      · rename_i hc
        split
        · have : okC len sizes n (rd_T97 (t.b.set n noneC) (n + pitch)) := by
            rw [rd_set _ _ _ _ (by omega) (by rw [h.lb]; omega), if_neg (by omega)]
            exact (h.hb (n + pitch) (by omega) hc).le (by omega)
          exact this
        · exact hb1
      · exact .inl rfl
    · exact h.hb i (by omega) h2
  refine ⟨by simp [stepT, h.la], by simp [stepT, h.lb], by simp [stepT, h.lc], hA, hB, ?_⟩
  intro i h1 h2
  have hA' := hA
  have hB' := hB
  simp only [stepT] at hA' hB' ⊢
  rw [rd_set _ _ _ _ (by omega) (by rw [h.lc]; omega)]
  split
  · rename_i e
    rw [e]
    exact okC_better (hB' n (by omega) hn) (okC_better (hA' n (by omega) hn) (.inl rfl))
  · exact h.hc i (by omega) h2
theorem OkT.run {len kerf pitch : Int} {sizes : List Int} {gain : List (List Int)} {cp dp : List Int} (hk : 0 ≤ kerf) (hp : 1 ≤ pitch) (n : Nat) : ∀ t : Tri, OkT len sizes n t → (n : Int) ≤ len + 1 → OkT len sizes 0 (runT len kerf pitch sizes gain cp dp n t) := by
  induction n with
  | zero => intro t h _; exact h
  | succ n ih => intro t h hn; exact ih _ (h.step (by omega) hk hp) (by omega)
theorem OkT.start {len : Int} {sizes : List Int} (h : 0 ≤ len) : OkT len sizes (len.toNat + 1) (startT len) := by
  refine ⟨by simp [startT], by simp [startT], by simp [startT], ?_, ?_, ?_⟩ <;> (intro i h1 h2; omega)
theorem bestL_ok {len kerf pitch : Int} {sizes : List Int} {gain : List (List Int)} {cp dp : List Int} (h0 : 0 ≤ len) (hk : 0 ≤ kerf) (hp : 1 ≤ pitch) :
    (bestL len kerf pitch sizes gain cp dp).length = len.toNat + 1 ∧ ∀ i : Int, 0 ≤ i → i ≤ len → okC len sizes i (rd_T97 (bestL len kerf pitch sizes gain cp dp) i) := by
  have := OkT.run (sizes := sizes) (gain := gain) (cp := cp) (dp := dp) hk hp (len.toNat + 1) (startT len) (OkT.start h0) (by omega)
  exact ⟨this.lc, fun i h1 h2 => this.hc i (by omega) h2⟩
end Go.Proofs.YtoaicheopcojoaaDoor.P
