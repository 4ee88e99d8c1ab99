import Derived.Test.YtoaicheopcojoaaDoorHOpen
namespace Go.Proofs.YtoaicheopcojoaaDoor.P
open Go.RowKit Go.Proofs.YtoaicheopcojoaaDoorW.PrintWords Go.Proofs.YtoaicheopcojoaaDoorW.PrintLast Go.Proofs.YtoaicheopcojoaaDoorW.PrintMore
set_option linter.unusedVariables false
set_option linter.unusedSimpArgs false
set_option maxRecDepth 100000 in
/-- The description of a line: five numbers and two lists. -/
theorem open_plain {H : Type} {enc : TypeId × Value → H} {W : World} {base : Nat} {v : Value} {dd : DataW H} {p : List MemPlace} (hv : Value.okWide Tryd.prog W .any base 42 v) (h : DataW.Trod enc Tryd.prog W 0 (fun _ => true) true 42 v dd p) :
    ∃ (a0 a1 a2 : Int) (A3 : Option Addr) (c3 : Nat) (l3 : List Int) (A4 : Option Addr) (c4 : Nat) (l4 : List Int) (a5 a6 : Int),
      v = .agg #[.int .i64 a0, .int .i64 a1, .int .i64 a2, .slice A3 l3.length c3, .slice A4 l4.length c4, .int .i64 a5, .int .i64 a6] ∧
      (Kd.int .i64).C W A3 l3.length l3 ∧ l3.length ≤ c3 ∧ (Kd.int .i64).C W A4 l4.length l4 ∧ l4.length ≤ c4 := by
  obtain ⟨cs, rfl, _⟩ := Go.WideShapes.okWide_struct Tryd.underlying42 hv
  obtain ⟨fuel, h⟩ := h
  obtain ⟨xs, n, _, _, hl, hx, hf⟩ := DataW.trod_struct Tryd.underlying42 h
  have c42 : Tryd.prog.cellsOf 42 = 7 := by kernel_rfl
  have c3 : Tryd.prog.cellsOf 3 = 1 := by kernel_rfl
  have c22 : Tryd.prog.cellsOf 22 = 1 := by kernel_rfl
  rw [c42] at hl
  obtain ⟨l⟩ := cs
  match xs, hx with
  | [x0, x1, x2, x3, x4, x5, x6], _ =>
  match l, hl with
  | [v0, v1, v2, v3, v4, v5, v6], _ =>
    have h0 := hf 0 _ rfl
    have h1 := hf 1 _ rfl
    have h2 := hf 2 _ rfl
    have h3 := hf 3 _ rfl
    have h4 := hf 4 _ rfl
    have h5 := hf 5 _ rfl
    have h6 := hf 6 _ rfl
    simp [c3, c22, Value.cells] at h0 h1 h2 h3 h4 h5 h6
    obtain ⟨n0, e0, _⟩ := DataW.trod_int Tryd.underlying3 h0
    obtain ⟨n1, e1, _⟩ := DataW.trod_int Tryd.underlying3 h1
    obtain ⟨n2, e2, _⟩ := DataW.trod_int Tryd.underlying3 h2
    obtain ⟨A3, l3, cc3, e3, k3, _, g3, _⟩ := open_row Tryd.underlying22 (opens_i enc W) (by kernel_rfl) h3
    obtain ⟨A4, l4, cc4, e4, k4, _, g4, _⟩ := open_row Tryd.underlying22 (opens_i enc W) (by kernel_rfl) h4
    obtain ⟨n5, e5, _⟩ := DataW.trod_int Tryd.underlying3 h5
    obtain ⟨n6, e6, _⟩ := DataW.trod_int Tryd.underlying3 h6
    simp at e0 e1 e2 e3 e4 e5 e6
    subst e0 e1 e2 e3 e4 e5 e6
    exact ⟨n0, n1, n2, A3, cc3, l3, A4, cc4, l4, n5, n6, rfl, g3, k3, g4, k4⟩
end Go.Proofs.YtoaicheopcojoaaDoor.P
