/-
  DERIVED. GIVEN WITH THE SEED: THE CARDS: each row of YtoaicheopcojoaaDoorRows.lean that lists a variable, with what it lists TIED to the program's text (the seventh form; the later family's looks); each row that meets fmt, with fmt's text TOLD by the authors' own Lean function (tested against real Go, not proved from fmt's source: count such statements apart). THE CARD IS WHAT COUNTS. Prove the row's statement (the work); the ties are given (YtoaicheopcojoaaDoorTie.lean); close each card by the builder's one call (the guide's Derived/Test/ToyasCard.lean, 'card_holds'). Laid BY PROGRAM, IN A SANDBOX (cutbox-door.mjs). By AI agents, Wed Nov 11 2026. No macro, syntax, notation, axiom, sorry.
-/
import Derived.Test.YtoaicheopcojoaaDoorRows
import GoSem.ClaimSeven
namespace Go.Proofs.YtoaicheopcojoaaDoor
namespace Rows

/-- THE TIED CARD OF 'sawmilllaw17.CuttingChecks'. -/
def cuttingChecksCard : Claim7 := { stood := { row := cuttingChecksRow, standIns := [], harness := (true, "df568437ed562e3e874a2ec7138deb532c4d9c5a739b197c6dc2755ff5b8cd58"), looks := false }, kinds := [], alts := [], laidByText := true, laidKinds := [.data], laidTests := true, laidLooks := .later }
def CuttingChecksCardSaid : Prop := Claim7.holds Tryd.pinned (.plain (OpenSpec.ofChange cuttingChecksSpec)) cuttingChecksCard

/-- THE TIED CARD OF 'sawmilllaw17.CuttingCuts'. -/
def cuttingCutsCard : Claim7 := { stood := { row := cuttingCutsRow, standIns := [], harness := (true, "df568437ed562e3e874a2ec7138deb532c4d9c5a739b197c6dc2755ff5b8cd58"), looks := false }, kinds := [], alts := [], laidByText := true, laidKinds := [.data], laidTests := true, laidLooks := .later }
def CuttingCutsCardSaid : Prop := Claim7.holds Tryd.pinned (.plain (OpenSpec.ofChange cuttingCutsSpec)) cuttingCutsCard

/-- THE TIED CARD OF 'sawmilllaw17.CuttingBests'. -/
def cuttingBestsCard : Claim7 := { stood := { row := cuttingBestsRow, standIns := [], harness := (true, "df568437ed562e3e874a2ec7138deb532c4d9c5a739b197c6dc2755ff5b8cd58"), looks := false }, kinds := [], alts := [], laidByText := true, laidKinds := [.data], laidTests := true, laidLooks := .later }
def CuttingBestsCardSaid : Prop := Claim7.holds Tryd.pinned (.plain (OpenSpec.ofChange cuttingBestsSpec)) cuttingBestsCard

/-- THE TIED CARD OF 'sawmilllaw17.CuttingUniform'. -/
def cuttingUniformCard : Claim7 := { stood := { row := cuttingUniformRow, standIns := [], harness := (true, "df568437ed562e3e874a2ec7138deb532c4d9c5a739b197c6dc2755ff5b8cd58"), looks := false }, kinds := [], alts := [], laidByText := true, laidKinds := [.data], laidTests := true, laidLooks := .later }
def CuttingUniformCardSaid : Prop := Claim7.holds Tryd.pinned (.plain (OpenSpec.ofChange cuttingUniformSpec)) cuttingUniformCard

/-- THE TIED CARD OF 'sawmilllaw17.CuttingBest'. -/
def cuttingBestCard : Claim7 := { stood := { row := cuttingBestRow, standIns := [], harness := (true, "df568437ed562e3e874a2ec7138deb532c4d9c5a739b197c6dc2755ff5b8cd58"), looks := false }, kinds := [], alts := [], laidByText := true, laidKinds := [.data], laidTests := true, laidLooks := .later }
def CuttingBestCardSaid : Prop := Claim7.holds Tryd.pinned (.plain (OpenSpec.ofChange cuttingBestSpec)) cuttingBestCard

/-- THE TIED CARD OF 'sawmilllaw26.TrimOptimal'. -/
def trimOptimalCard : Claim7 := { stood := { row := trimOptimalRow, standIns := [], harness := (true, "df568437ed562e3e874a2ec7138deb532c4d9c5a739b197c6dc2755ff5b8cd58"), looks := false }, kinds := [], alts := [], laidByText := true, laidKinds := [.data], laidTests := true, laidLooks := .later }
def TrimOptimalCardSaid : Prop := Claim7.holds Tryd.pinned (.plain (OpenSpec.ofChange trimOptimalSpec)) trimOptimalCard

/-- THE TIED CARD OF 'sawmilllaw17.CuttingParts'. -/
def cuttingPartsCard : Claim7 := { stood := { row := cuttingPartsRow, standIns := [], harness := (true, "df568437ed562e3e874a2ec7138deb532c4d9c5a739b197c6dc2755ff5b8cd58"), looks := false }, kinds := [], alts := [], laidByText := true, laidKinds := [.data], laidTests := true, laidLooks := .later }
def CuttingPartsCardSaid : Prop := Claim7.holds Tryd.pinned (.plain (OpenSpec.ofChange cuttingPartsSpec)) cuttingPartsCard

/-- THE TIED CARD OF 'sawmilllaw26.TrimDefects'. -/
def trimDefectsCard : Claim7 := { stood := { row := trimDefectsRow, standIns := [], harness := (true, "df568437ed562e3e874a2ec7138deb532c4d9c5a739b197c6dc2755ff5b8cd58"), looks := false }, kinds := [], alts := [], laidByText := true, laidKinds := [.data], laidTests := true, laidLooks := .later }
def TrimDefectsCardSaid : Prop := Claim7.holds Tryd.pinned (.plain (OpenSpec.ofChange trimDefectsSpec)) trimDefectsCard

/-- THE TIED CARD OF 'sawmilllaw17.CuttingMore'. -/
def cuttingMoreCard : Claim7 := { stood := { row := cuttingMoreRow, standIns := [], harness := (true, "df568437ed562e3e874a2ec7138deb532c4d9c5a739b197c6dc2755ff5b8cd58"), looks := false }, kinds := [], alts := [], laidByText := true, laidKinds := [.data], laidTests := true, laidLooks := .later }
def CuttingMoreCardSaid : Prop := Claim7.holds Tryd.pinned (.plain (OpenSpec.ofChange cuttingMoreSpec)) cuttingMoreCard

/-- THE TIED CARD OF 'sawmilllaw17.CuttingScales'. -/
def cuttingScalesCard : Claim7 := { stood := { row := cuttingScalesRow, standIns := [], harness := (true, "df568437ed562e3e874a2ec7138deb532c4d9c5a739b197c6dc2755ff5b8cd58"), looks := false }, kinds := [], alts := [], laidByText := true, laidKinds := [.data], laidTests := true, laidLooks := .later }
def CuttingScalesCardSaid : Prop := Claim7.holds Tryd.pinned (.plain (OpenSpec.ofChange cuttingScalesSpec)) cuttingScalesCard

/-- THE TIED CARD OF 'sawmilllaw26.TrimLines'. -/
def trimLinesCard : Claim7 := { stood := { row := trimLinesRow, standIns := [], harness := (true, "df568437ed562e3e874a2ec7138deb532c4d9c5a739b197c6dc2755ff5b8cd58"), looks := false }, kinds := [], alts := [], laidByText := true, laidKinds := [.data], laidTests := true, laidLooks := .later }
def TrimLinesCardSaid : Prop := Claim7.holds Tryd.pinned (.plain (OpenSpec.ofChange trimLinesSpec)) trimLinesCard

/-- THE TIED CARD OF 'sawmilllaw26.TrimBests'. -/
def trimBestsCard : Claim7 := { stood := { row := trimBestsRow, standIns := [], harness := (true, "df568437ed562e3e874a2ec7138deb532c4d9c5a739b197c6dc2755ff5b8cd58"), looks := false }, kinds := [], alts := [], laidByText := true, laidKinds := [.data], laidTests := true, laidLooks := .later }
def TrimBestsCardSaid : Prop := Claim7.holds Tryd.pinned (.plain (OpenSpec.ofChange trimBestsSpec)) trimBestsCard

/-- THE TIED CARD OF 'sawmilllaw26.TrimBoards'. -/
def trimBoardsCard : Claim7 := { stood := { row := trimBoardsRow, standIns := [], harness := (true, "df568437ed562e3e874a2ec7138deb532c4d9c5a739b197c6dc2755ff5b8cd58"), looks := false }, kinds := [], alts := [], laidByText := true, laidKinds := [.data], laidTests := true, laidLooks := .later }
def TrimBoardsCardSaid : Prop := Claim7.holds Tryd.pinned (.plain (OpenSpec.ofChange trimBoardsSpec)) trimBoardsCard

/-- THE TIED CARD OF 'sawmilllaw26.TrimCovers'. -/
def trimCoversCard : Claim7 := { stood := { row := trimCoversRow, standIns := [], harness := (true, "df568437ed562e3e874a2ec7138deb532c4d9c5a739b197c6dc2755ff5b8cd58"), looks := false }, kinds := [], alts := [], laidByText := true, laidKinds := [.data], laidTests := true, laidLooks := .later }
def TrimCoversCardSaid : Prop := Claim7.holds Tryd.pinned (.plain (OpenSpec.ofChange trimCoversSpec)) trimCoversCard

/-- THE SECOND FORM's CARD OF 'sawmilllaw17.CuttingChecks'. -/
def cuttingChecksUptoCard : Claim7 := { stood := { row := cuttingChecksUptoRow, standIns := [], harness := (true, "df568437ed562e3e874a2ec7138deb532c4d9c5a739b197c6dc2755ff5b8cd58"), looks := false }, kinds := [], alts := [], laidByText := true, laidKinds := [.data], laidTests := true, laidLooks := .later }
def CuttingChecksUptoCardSaid : Prop := Claim7.holds Tryd.pinned (.plain (OpenSpec.upto cuttingChecksSpec)) cuttingChecksUptoCard

/-- THE SECOND FORM's CARD OF 'sawmilllaw17.CuttingCuts'. -/
def cuttingCutsUptoCard : Claim7 := { stood := { row := cuttingCutsUptoRow, standIns := [], harness := (true, "df568437ed562e3e874a2ec7138deb532c4d9c5a739b197c6dc2755ff5b8cd58"), looks := false }, kinds := [], alts := [], laidByText := true, laidKinds := [.data], laidTests := true, laidLooks := .later }
def CuttingCutsUptoCardSaid : Prop := Claim7.holds Tryd.pinned (.plain (OpenSpec.upto cuttingCutsSpec)) cuttingCutsUptoCard

/-- THE SECOND FORM's CARD OF 'sawmilllaw17.CuttingBests'. -/
def cuttingBestsUptoCard : Claim7 := { stood := { row := cuttingBestsUptoRow, standIns := [], harness := (true, "df568437ed562e3e874a2ec7138deb532c4d9c5a739b197c6dc2755ff5b8cd58"), looks := false }, kinds := [], alts := [], laidByText := true, laidKinds := [.data], laidTests := true, laidLooks := .later }
def CuttingBestsUptoCardSaid : Prop := Claim7.holds Tryd.pinned (.plain (OpenSpec.upto cuttingBestsSpec)) cuttingBestsUptoCard

/-- THE SECOND FORM's CARD OF 'sawmilllaw17.CuttingUniform'. -/
def cuttingUniformUptoCard : Claim7 := { stood := { row := cuttingUniformUptoRow, standIns := [], harness := (true, "df568437ed562e3e874a2ec7138deb532c4d9c5a739b197c6dc2755ff5b8cd58"), looks := false }, kinds := [], alts := [], laidByText := true, laidKinds := [.data], laidTests := true, laidLooks := .later }
def CuttingUniformUptoCardSaid : Prop := Claim7.holds Tryd.pinned (.plain (OpenSpec.upto cuttingUniformSpec)) cuttingUniformUptoCard

/-- THE SECOND FORM's CARD OF 'sawmilllaw17.CuttingBest'. -/
def cuttingBestUptoCard : Claim7 := { stood := { row := cuttingBestUptoRow, standIns := [], harness := (true, "df568437ed562e3e874a2ec7138deb532c4d9c5a739b197c6dc2755ff5b8cd58"), looks := false }, kinds := [], alts := [], laidByText := true, laidKinds := [.data], laidTests := true, laidLooks := .later }
def CuttingBestUptoCardSaid : Prop := Claim7.holds Tryd.pinned (.plain (OpenSpec.upto cuttingBestSpec)) cuttingBestUptoCard

/-- THE SECOND FORM's CARD OF 'sawmilllaw26.TrimOptimal'. -/
def trimOptimalUptoCard : Claim7 := { stood := { row := trimOptimalUptoRow, standIns := [], harness := (true, "df568437ed562e3e874a2ec7138deb532c4d9c5a739b197c6dc2755ff5b8cd58"), looks := false }, kinds := [], alts := [], laidByText := true, laidKinds := [.data], laidTests := true, laidLooks := .later }
def TrimOptimalUptoCardSaid : Prop := Claim7.holds Tryd.pinned (.plain (OpenSpec.upto trimOptimalSpec)) trimOptimalUptoCard

/-- THE SECOND FORM's CARD OF 'sawmilllaw17.CuttingParts'. -/
def cuttingPartsUptoCard : Claim7 := { stood := { row := cuttingPartsUptoRow, standIns := [], harness := (true, "df568437ed562e3e874a2ec7138deb532c4d9c5a739b197c6dc2755ff5b8cd58"), looks := false }, kinds := [], alts := [], laidByText := true, laidKinds := [.data], laidTests := true, laidLooks := .later }
def CuttingPartsUptoCardSaid : Prop := Claim7.holds Tryd.pinned (.plain (OpenSpec.upto cuttingPartsSpec)) cuttingPartsUptoCard

/-- THE SECOND FORM's CARD OF 'sawmilllaw26.TrimDefects'. -/
def trimDefectsUptoCard : Claim7 := { stood := { row := trimDefectsUptoRow, standIns := [], harness := (true, "df568437ed562e3e874a2ec7138deb532c4d9c5a739b197c6dc2755ff5b8cd58"), looks := false }, kinds := [], alts := [], laidByText := true, laidKinds := [.data], laidTests := true, laidLooks := .later }
def TrimDefectsUptoCardSaid : Prop := Claim7.holds Tryd.pinned (.plain (OpenSpec.upto trimDefectsSpec)) trimDefectsUptoCard

/-- THE SECOND FORM's CARD OF 'sawmilllaw17.CuttingMore'. -/
def cuttingMoreUptoCard : Claim7 := { stood := { row := cuttingMoreUptoRow, standIns := [], harness := (true, "df568437ed562e3e874a2ec7138deb532c4d9c5a739b197c6dc2755ff5b8cd58"), looks := false }, kinds := [], alts := [], laidByText := true, laidKinds := [.data], laidTests := true, laidLooks := .later }
def CuttingMoreUptoCardSaid : Prop := Claim7.holds Tryd.pinned (.plain (OpenSpec.upto cuttingMoreSpec)) cuttingMoreUptoCard

/-- THE SECOND FORM's CARD OF 'sawmilllaw17.CuttingScales'. -/
def cuttingScalesUptoCard : Claim7 := { stood := { row := cuttingScalesUptoRow, standIns := [], harness := (true, "df568437ed562e3e874a2ec7138deb532c4d9c5a739b197c6dc2755ff5b8cd58"), looks := false }, kinds := [], alts := [], laidByText := true, laidKinds := [.data], laidTests := true, laidLooks := .later }
def CuttingScalesUptoCardSaid : Prop := Claim7.holds Tryd.pinned (.plain (OpenSpec.upto cuttingScalesSpec)) cuttingScalesUptoCard

/-- THE SECOND FORM's CARD OF 'sawmilllaw26.TrimLines'. -/
def trimLinesUptoCard : Claim7 := { stood := { row := trimLinesUptoRow, standIns := [], harness := (true, "df568437ed562e3e874a2ec7138deb532c4d9c5a739b197c6dc2755ff5b8cd58"), looks := false }, kinds := [], alts := [], laidByText := true, laidKinds := [.data], laidTests := true, laidLooks := .later }
def TrimLinesUptoCardSaid : Prop := Claim7.holds Tryd.pinned (.plain (OpenSpec.upto trimLinesSpec)) trimLinesUptoCard

/-- THE SECOND FORM's CARD OF 'sawmilllaw26.TrimBests'. -/
def trimBestsUptoCard : Claim7 := { stood := { row := trimBestsUptoRow, standIns := [], harness := (true, "df568437ed562e3e874a2ec7138deb532c4d9c5a739b197c6dc2755ff5b8cd58"), looks := false }, kinds := [], alts := [], laidByText := true, laidKinds := [.data], laidTests := true, laidLooks := .later }
def TrimBestsUptoCardSaid : Prop := Claim7.holds Tryd.pinned (.plain (OpenSpec.upto trimBestsSpec)) trimBestsUptoCard

/-- THE SECOND FORM's CARD OF 'sawmilllaw26.TrimBoards'. -/
def trimBoardsUptoCard : Claim7 := { stood := { row := trimBoardsUptoRow, standIns := [], harness := (true, "df568437ed562e3e874a2ec7138deb532c4d9c5a739b197c6dc2755ff5b8cd58"), looks := false }, kinds := [], alts := [], laidByText := true, laidKinds := [.data], laidTests := true, laidLooks := .later }
def TrimBoardsUptoCardSaid : Prop := Claim7.holds Tryd.pinned (.plain (OpenSpec.upto trimBoardsSpec)) trimBoardsUptoCard

/-- THE SECOND FORM's CARD OF 'sawmilllaw26.TrimCovers'. -/
def trimCoversUptoCard : Claim7 := { stood := { row := trimCoversUptoRow, standIns := [], harness := (true, "df568437ed562e3e874a2ec7138deb532c4d9c5a739b197c6dc2755ff5b8cd58"), looks := false }, kinds := [], alts := [], laidByText := true, laidKinds := [.data], laidTests := true, laidLooks := .later }
def TrimCoversUptoCardSaid : Prop := Claim7.holds Tryd.pinned (.plain (OpenSpec.upto trimCoversSpec)) trimCoversUptoCard
end Rows
end Go.Proofs.YtoaicheopcojoaaDoor
