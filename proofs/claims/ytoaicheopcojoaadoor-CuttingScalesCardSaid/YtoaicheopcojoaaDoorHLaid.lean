import Derived.Test.YtoaicheopcojoaaDoorHOpen
import Derived.Test.YtoaicheopcojoaaDoorRows
import Derived.ChangeVars
import Derived.JoinedOf
import Derived.RowKitTokens
import Derived.LaidHandle
import Derived.Stop.Joined
namespace Go.Proofs.YtoaicheopcojoaaDoor.P
open Go.RowKit Go.ChangeShapes Go.WideShapes
set_option linter.unusedVariables false

/-! The one package-level variable that the rows speak of: what its cells are when the call begins. -/
def theLaid : List (String × DataW Unit) := [("sawmill/cutting.none", Rows.laid_sawmill_cutting_none)]
theorem gNone : Tryd.prog.globalNamed "sawmill/cutting.none" = some 0 := by kernel_rfl
theorem tNone : (Tryd.prog.globals[0]?).map (·.type) = some 97 := by kernel_rfl
/-- The door's own heap meets the condition. -/
theorem door_met (os : Os) (args : Array Value) : laidMetH Tryd.prog theLaid ((World.doorLaid Tryd.prog 400 os).forCall (fun _ _ => 0) ⟨#[], args, []⟩).memory :=
  laidMetH_of_parts3 (fuel := 8) (laidMet_of_run' 8 (by kernel_rfl) (by kernel_rfl)) (by kernel_rfl) (by kernel_rfl)
theorem door_shaped (os : Os) (args : Array Value) : ((World.doorLaid Tryd.prog 400 os).forCall (fun _ _ => 0) ⟨#[], args, []⟩).Shaped Tryd.prog :=
  World.shaped_of_RefB (by kernel_rfl) (by kernel_rfl)
set_option maxRecDepth 100000 in
theorem cells_of_none {H : Type} {enc : TypeId × Value → H} {W : World} {sp : Nat → Bool} {b : Bool} {base fuel : Nat} {cs : List Value} {p : List MemPlace}
    (h : DataW.trod enc Tryd.prog W base sp b fuel 97 cs = some (.agg [.agg [.lit (.int .i64 (-1)), .lit (.int .i64 (-1))], .lit (.int .i64 0)], p)) : cs = [.int .i64 (-1), .int .i64 (-1), .int .i64 0] := by
  obtain ⟨xs, n, _, hx0, hl, hx, hf⟩ := DataW.trod_struct Tryd.underlying97 h
  have c97 : Tryd.prog.cellsOf 97 = 3 := by kernel_rfl
  have c69 : Tryd.prog.cellsOf 69 = 2 := by kernel_rfl
  have c3 : Tryd.prog.cellsOf 3 = 1 := by kernel_rfl
  rw [c97] at hl
  match xs, hx with
  | [x0, x1], _ =>
  match cs, hl with
  | [v0, v1, v2], _ =>
    have h0 := hf 0 _ rfl
    have h1 := hf 1 _ rfl
    simp [c3, c69] at h0 h1
    simp at hx0
    obtain ⟨⟨e0, e1⟩, _⟩ := hx0
    obtain ⟨n1, k1, k2, _⟩ := DataW.trod_int Tryd.underlying3 h1
    obtain ⟨ys, m, _, hy0, hm, hy, hg⟩ := DataW.trod_struct Tryd.underlying69 h0
    match ys, hy with
    | [y0, y1], _ =>
      have g0 := hg 0 _ rfl
      have g1 := hg 1 _ rfl
      simp [c3] at g0 g1
      obtain ⟨n2, k3, k4, _⟩ := DataW.trod_int Tryd.underlying3 g0
      obtain ⟨n3, k5, k6, _⟩ := DataW.trod_int Tryd.underlying3 g1
      subst k2 k4 k6
      rw [hy0] at e0
      simp at e0 e1 k1 k3 k5
      rw [k1, k3, k5, ← e0.1, ← e0.2, ← e1]
set_option maxRecDepth 100000 in
theorem of_laid {W : World} (h : laidMetH Tryd.prog theLaid W) (hs : W.ShapedOpen Tryd.prog) : W.heap[0]? = some (.cells #[.int .i64 (-1), .int .i64 (-1), .int .i64 0] 97 (0, 0)) := by
  rw [MakeChecks.laidMetH_plain _ _ _ (by kernel_rfl)] at h
  obtain ⟨ps, ⟨g0, t0, cs0, f0, p0, q0, hg0, ht0, hv0, hd0, _, _⟩, _, _⟩ := h
  obtain rfl := Option.some.inj (gNone.symm.trans hg0)
  obtain rfl := Option.some.inj (tNone.symm.trans ht0)
  obtain ⟨cs, hc, _⟩ := hs.1 0 #[.int .i64 0, .int .i64 0, .int .i64 0] 97 (by decide) (by kernel_rfl)
  have e : cs = cs0 := by
    unfold World.var? at hv0
    rw [gNone] at hv0
    simpa [hc] using hv0
  subst e
  rw [hc]
  have := cells_of_none hd0
  obtain ⟨l⟩ := cs
  simp at this
  subst this
  rfl
end Go.Proofs.YtoaicheopcojoaaDoor.P
