/- CuttingParts: pieces, dust and chips are disjoint and together the line, and the value is theirs (within the statement's bounds); the examples hold. No condition. -/
import Derived.Test.YtoaicheopcojoaaDoorRow9
import Derived.Test.YtoaicheopcojoaaDoorHPs
import Derived.Test.YtoaicheopcojoaaDoorF9
namespace Go.Proofs.YtoaicheopcojoaaDoor.P
open Go.RowKit Go.Proofs.YtoaicheopcojoaaDoorW.PrintWords Go.Proofs.YtoaicheopcojoaaDoorW.PrintLast Go.Proofs.YtoaicheopcojoaaDoorW.PrintMore
theorem walk9 : Walk9 := by
  intro a0 a1 a2 A3 c3 l3 A4 c4 l4 A5 c5 l5 A6 c6 l6 A1 c1 l1 w hwf g3 e3 g4 e4 g5 e5 g6 e6 hw g1 e1 hG
  obtain ⟨k, hk⟩ := pure9 a0 a1 a2 l3 l4 l5 l6 l1 hw
  exact sawmilllaw17_CuttingParts.calls k a0 a1 a2 A3 c3 l3 A4 c4 l4 A5 c5 l5 A6 c6 l6 A1 c1 l1 true w g3 e3 g4 e4 g5 e5 g6 e6 g1 e1 hG hk
end Go.Proofs.YtoaicheopcojoaaDoor.P
namespace Go.Proofs.YtoaicheopcojoaaDoor
/-- The tied card of CuttingParts. -/
theorem cuttingParts_holds : Rows.CuttingPartsCardSaid := P.card9 P.walk9
#print axioms cuttingParts_holds
end Go.Proofs.YtoaicheopcojoaaDoor
