import Derived.Test.YtoaicheopcojoaaDoorHCuts
namespace Go.Proofs.YtoaicheopcojoaaDoor.P
open Go.RowKit Go.Proofs.YtoaicheopcojoaaDoorW.PrintWords Go.Proofs.YtoaicheopcojoaaDoorW.PrintLast Go.Proofs.YtoaicheopcojoaaDoorW.PrintMore
set_option linter.unusedVariables false
set_option linter.unusedSimpArgs false

/-! A list of choices as cells. -/
def enc1 (x : S97) : List Value := [.int .i64 x.f0.f0, .int .i64 x.f0.f1, .int .i64 x.f1]
def encL (l : List S97) : List Value := l.flatMap enc1
def enc97 (l : List S97) : Array Value := (encL l).toArray
theorem encL_len (l : List S97) : (encL l).length = l.length * 3 := by
  induction l with
  | nil => rfl
  | cons a l ih => simp [encL, enc1] at ih ⊢; omega
theorem encL_get (l : List S97) (i j : Nat) (hj : j < 3) : (encL l)[i * 3 + j]? = (l[i]?).bind fun x => (enc1 x)[j]? := by
  induction l generalizing i with
  | nil => simp [encL]
  | cons a l ih =>
    show (enc1 a ++ encL l)[i * 3 + j]? = _
    cases i with
    | zero => rw [List.getElem?_append_left (by simp [enc1]; omega)]; simp
    | succ i =>
      rw [List.getElem?_append_right (by simp [enc1]; omega)]
      have : (i + 1) * 3 + j - (enc1 a).length = i * 3 + j := by simp [enc1]; omega
      rw [this, ih]; simp
theorem rd97 (l : List S97) (i : Int) (h0 : 0 ≤ i) (h1 : i < l.length) : l[i.toNat]? = some (rd_T97 l i) := by
  have : i.toNat < l.length := by omega
  simp [rd_T97, this]
theorem enc97_0 {l : List S97} {i : Int} (h0 : 0 ≤ i) (h1 : i < l.length) : (enc97 l)[i.toNat * 3]? = some (.int .i64 (rd_T97 l i).f0.f0) := by
  have := encL_get l i.toNat 0 (by omega)
  rw [rd97 l i h0 h1] at this
  simpa [enc97, enc1] using this
theorem enc97_1 {l : List S97} {i : Int} (h0 : 0 ≤ i) (h1 : i < l.length) : (enc97 l)[i.toNat * 3 + 1]? = some (.int .i64 (rd_T97 l i).f0.f1) := by
  have := encL_get l i.toNat 1 (by omega)
  rw [rd97 l i h0 h1] at this
  simpa [enc97, enc1] using this
theorem enc97_2 {l : List S97} {i : Int} (h0 : 0 ≤ i) (h1 : i < l.length) : (enc97 l)[i.toNat * 3 + 2]? = some (.int .i64 (rd_T97 l i).f1) := by
  have := encL_get l i.toNat 2 (by omega)
  rw [rd97 l i h0 h1] at this
  simpa [enc97, enc1] using this
theorem encL_set (l : List S97) (i : Nat) (x : S97) (h : i < l.length) : encL (l.set i x) = (((encL l).set (i * 3) (.int .i64 x.f0.f0)).set (i * 3 + 1) (.int .i64 x.f0.f1)).set (i * 3 + 2) (.int .i64 x.f1) := by
  induction l generalizing i with
  | nil => simp at h
  | cons a l ih =>
    cases i with
    | zero => simp [encL, enc1]
    | succ i =>
      have h' : i < l.length := by simpa using h
      show enc1 a ++ encL (l.set i x) = (((enc1 a ++ encL l).set _ _).set _ _).set _ _
      rw [ih i h']
      have e : (i + 1) * 3 = 3 + i * 3 := by omega
      rw [e]
      simp [enc1, List.set_append, Nat.add_assoc]
      simp [Nat.add_comm 3, List.set_cons_succ]
theorem enc97_set (l : List S97) (i : Nat) (x : S97) (h : i < l.length) : (((enc97 l).setIfInBounds (i * 3) (.int .i64 x.f0.f0)).setIfInBounds (i * 3 + 1) (.int .i64 x.f0.f1)).setIfInBounds (i * 3 + 2) (.int .i64 x.f1) = enc97 (l.set i x) := by
  simp [enc97, encL_set l i x h]
theorem enc97_made (n : Nat) : madeCells #[.int .i64 0, .int .i64 0, .int .i64 0] (n * 3) = enc97 (List.replicate n z97) := by
  apply Array.ext'
  apply List.ext_getElem?
  intro i
  by_cases hi : i < n * 3
  · have hq : i = i / 3 * 3 + i % 3 := by omega
    have hl : i / 3 < n := by omega
    have := encL_get (List.replicate n z97) (i / 3) (i % 3) (by omega)
    rw [← hq] at this
    simp only [enc97, List.toList_toArray]
    rw [this]
    have hm : i % 3 = 0 ∨ i % 3 = 1 ∨ i % 3 = 2 := by omega
    rcases hm with hm | hm | hm <;> simp [madeCells, hi, hl, hm, enc1, z97, z69]
  · have h1 : (encL (List.replicate n z97))[i]? = none := by simp [encL_len]; omega
    simp only [enc97, List.toList_toArray, h1]
    simp [madeCells]; omega
end Go.Proofs.YtoaicheopcojoaaDoor.P
