/- CuttingScales: if all values of a line are multiplied by the same number, the best pieces stay, and their value is multiplied (within the statement's bounds); the examples hold. No condition. -/
import Derived.Test.YtoaicheopcojoaaDoorRow12
import Derived.Test.YtoaicheopcojoaaDoorHSl
import Derived.Test.YtoaicheopcojoaaDoorF12
namespace Go.Proofs.YtoaicheopcojoaaDoor.P
open Go.RowKit Go.Proofs.YtoaicheopcojoaaDoorW.PrintWords Go.Proofs.YtoaicheopcojoaaDoorW.PrintLast Go.Proofs.YtoaicheopcojoaaDoorW.PrintMore
theorem walk12 : Walk12 := by
  intro a0 a1 a2 A3 c3 l3 A4 c4 l4 A5 c5 l5 A6 c6 l6 b w hwf g3 e3 g4 e4 g5 e5 g6 e6 hw hG
  obtain ⟨k, hk⟩ := pure12 a0 a1 a2 l3 l4 l5 l6 b
  exact sawmilllaw17_CuttingScales.calls k a0 a1 a2 A3 c3 l3 A4 c4 l4 A5 c5 l5 A6 c6 l6 b true w g3 e3 g4 e4 g5 e5 g6 e6 hG hk
end Go.Proofs.YtoaicheopcojoaaDoor.P
namespace Go.Proofs.YtoaicheopcojoaaDoor
/-- The tied card of CuttingScales. -/
theorem cuttingScales_holds : Rows.CuttingScalesCardSaid := P.card12 P.walk12
#print axioms cuttingScales_holds
end Go.Proofs.YtoaicheopcojoaaDoor
