/-
  NARROWER THAN 'FOR EVERY INPUT', by the rows' own cells (each row's printed sentence says how): CuttingChecks: laid · CuttingCuts: laid · CuttingBests: laid · CuttingUniform: laid · CuttingBest: laid · TrimOptimal: laid · CuttingParts: laid · TrimDefects: laid · CuttingMore: laid · CuttingScales: laid · TrimLines: laid · TrimBests: laid · TrimBoards: laid · TrimCovers: laid.
  DERIVED. THE GIVEN ROWS OF THIS SEAT. 14 by the template 'for every input the law returns true; each argument reads behind the call as it read before'; 0 by the template 'total and deterministic' (their statements: YtoaicheopcojoaaDoorTotals.lean).
  GIVEN WITH THE SEED: the statements are not yours to turn. If you find one false, say at which input.
  Laid BY PROGRAM, IN A SANDBOX (cutbox-rows.mjs): the forced cells as the released guide's own fill.sh prints them over the translation c0c5bf201270aae1… (all of the seat's roots in one cut). By AI agents, Wed Nov 11 2026. No macro, syntax, notation, axiom, sorry.
-/
import Derived.Test.YtoaicheopcojoaaDoorChecked
import GoSem.Claim
import GoSem.ClaimJoined
import GoSem.ClaimMapViews
import Derived.JoinedTies
import Derived.KernelRfl
namespace Go.Proofs.YtoaicheopcojoaaDoor
/- THE CELL 'sum', in the pinned program and in every row, IS THE sha256 OF THE DUMP (.gsa) THAT YtoaicheopcojoaaDoorProg.lean LOADS. Nothing in Lean hashes anything: it is a label: what it is worth is what the hold of that sum in a sandbox is worth. -/
noncomputable def Tryd.pinned : Pinned := { name := "ytoaicheopcojoaadoor", sum := "c0c5bf201270aae151606d7f47bffbb10c82cf9fa539ed7c7681b77627ab608e", checked := Tryd.checked }
namespace Rows
def none {H : Type} : Left H := { results := [], args := [] }

/- WHAT THE LISTED PACKAGE-LEVEL VARIABLES READ AS WHEN THE CALL BEGINS. Each datum BY PROGRAM (the guide's laid-datum.mjs) off the statement by which the dump's own 'gosem.cut.vars' lays the variable. In a bare row this is a premise. The card (YtoaicheopcojoaaDoorCards.lean) ties it to the program's text. -/
def laid_sawmill_cutting_none {H : Type} : DataW H := .agg [.agg [.lit (.int .i64 (-1)), .lit (.int .i64 (-1))], .lit (.int .i64 0)]

/-- 'sawmilllaw17.CuttingChecks': WHATEVER THE INPUT: true; the input reads as it did. -/
def cuttingChecksSpec : ChangeSpec := { name := "cuttingChecks", fn := fun _ => fun
  | [d] => { results := [.lit (.bool true)], args := [d] }
  | _ => none }
def cuttingChecksRow : OpenClaim := { program := "ytoaicheopcojoaadoor", sum := "c0c5bf201270aae151606d7f47bffbb10c82cf9fa539ed7c7681b77627ab608e", func := "sawmill/sawmilllaw17.CuttingChecks", spec := "cuttingChecks", unfollowed := true, recurses := true, named := ["sawmill/cutting.none"], apart := false, laid := [("sawmill/cutting.none", laid_sawmill_cutting_none)] }
def CuttingChecksSaid : Prop := cuttingChecksRow.holds Tryd.pinned (OpenSpec.ofChange cuttingChecksSpec)

/-- ITS FALSE NEIGHBOUR: 'it returns false'. Refute it at one input. -/
def cuttingChecksWrong : ChangeSpec := { name := "cuttingChecks", fn := fun _ => fun
  | [d] => { results := [.lit (.bool false)], args := [d] }
  | _ => none }
def CuttingChecksWrongFalsely : Prop := cuttingChecksRow.holds Tryd.pinned (OpenSpec.ofChange cuttingChecksWrong)

/-- 'sawmilllaw17.CuttingCuts': WHATEVER THE INPUT: true; the input reads as it did. -/
def cuttingCutsSpec : ChangeSpec := { name := "cuttingCuts", fn := fun _ => fun
  | [d1, d2] => { results := [.lit (.bool true)], args := [d1, d2] }
  | _ => none }
def cuttingCutsRow : OpenClaim := { program := "ytoaicheopcojoaadoor", sum := "c0c5bf201270aae151606d7f47bffbb10c82cf9fa539ed7c7681b77627ab608e", func := "sawmill/sawmilllaw17.CuttingCuts", spec := "cuttingCuts", unfollowed := true, recurses := true, named := ["sawmill/cutting.none"], apart := false, laid := [("sawmill/cutting.none", laid_sawmill_cutting_none)] }
def CuttingCutsSaid : Prop := cuttingCutsRow.holds Tryd.pinned (OpenSpec.ofChange cuttingCutsSpec)

/-- ITS FALSE NEIGHBOUR: 'it returns false'. Refute it at one input. -/
def cuttingCutsWrong : ChangeSpec := { name := "cuttingCuts", fn := fun _ => fun
  | [d1, d2] => { results := [.lit (.bool false)], args := [d1, d2] }
  | _ => none }
def CuttingCutsWrongFalsely : Prop := cuttingCutsRow.holds Tryd.pinned (OpenSpec.ofChange cuttingCutsWrong)

/-- 'sawmilllaw17.CuttingBests': WHATEVER THE INPUT: true; the input reads as it did. -/
def cuttingBestsSpec : ChangeSpec := { name := "cuttingBests", fn := fun _ => fun
  | [d] => { results := [.lit (.bool true)], args := [d] }
  | _ => none }
def cuttingBestsRow : OpenClaim := { program := "ytoaicheopcojoaadoor", sum := "c0c5bf201270aae151606d7f47bffbb10c82cf9fa539ed7c7681b77627ab608e", func := "sawmill/sawmilllaw17.CuttingBests", spec := "cuttingBests", unfollowed := true, recurses := true, named := ["sawmill/cutting.none"], apart := false, laid := [("sawmill/cutting.none", laid_sawmill_cutting_none)] }
def CuttingBestsSaid : Prop := cuttingBestsRow.holds Tryd.pinned (OpenSpec.ofChange cuttingBestsSpec)

/-- ITS FALSE NEIGHBOUR: 'it returns false'. Refute it at one input. -/
def cuttingBestsWrong : ChangeSpec := { name := "cuttingBests", fn := fun _ => fun
  | [d] => { results := [.lit (.bool false)], args := [d] }
  | _ => none }
def CuttingBestsWrongFalsely : Prop := cuttingBestsRow.holds Tryd.pinned (OpenSpec.ofChange cuttingBestsWrong)

/-- 'sawmilllaw17.CuttingUniform': WHATEVER THE INPUT: true; the input reads as it did. -/
def cuttingUniformSpec : ChangeSpec := { name := "cuttingUniform", fn := fun _ => fun
  | [d] => { results := [.lit (.bool true)], args := [d] }
  | _ => none }
def cuttingUniformRow : OpenClaim := { program := "ytoaicheopcojoaadoor", sum := "c0c5bf201270aae151606d7f47bffbb10c82cf9fa539ed7c7681b77627ab608e", func := "sawmill/sawmilllaw17.CuttingUniform", spec := "cuttingUniform", unfollowed := true, recurses := true, named := ["sawmill/cutting.none"], apart := false, laid := [("sawmill/cutting.none", laid_sawmill_cutting_none)] }
def CuttingUniformSaid : Prop := cuttingUniformRow.holds Tryd.pinned (OpenSpec.ofChange cuttingUniformSpec)

/-- ITS FALSE NEIGHBOUR: 'it returns false'. Refute it at one input. -/
def cuttingUniformWrong : ChangeSpec := { name := "cuttingUniform", fn := fun _ => fun
  | [d] => { results := [.lit (.bool false)], args := [d] }
  | _ => none }
def CuttingUniformWrongFalsely : Prop := cuttingUniformRow.holds Tryd.pinned (OpenSpec.ofChange cuttingUniformWrong)

/-- 'sawmilllaw17.CuttingBest': WHATEVER THE INPUT: true; the input reads as it did. -/
def cuttingBestSpec : ChangeSpec := { name := "cuttingBest", fn := fun _ => fun
  | [d1, d2] => { results := [.lit (.bool true)], args := [d1, d2] }
  | _ => none }
def cuttingBestRow : OpenClaim := { program := "ytoaicheopcojoaadoor", sum := "c0c5bf201270aae151606d7f47bffbb10c82cf9fa539ed7c7681b77627ab608e", func := "sawmill/sawmilllaw17.CuttingBest", spec := "cuttingBest", unfollowed := true, recurses := true, named := ["sawmill/cutting.none"], apart := false, laid := [("sawmill/cutting.none", laid_sawmill_cutting_none)] }
def CuttingBestSaid : Prop := cuttingBestRow.holds Tryd.pinned (OpenSpec.ofChange cuttingBestSpec)

/-- ITS FALSE NEIGHBOUR: 'it returns false'. Refute it at one input. -/
def cuttingBestWrong : ChangeSpec := { name := "cuttingBest", fn := fun _ => fun
  | [d1, d2] => { results := [.lit (.bool false)], args := [d1, d2] }
  | _ => none }
def CuttingBestWrongFalsely : Prop := cuttingBestRow.holds Tryd.pinned (OpenSpec.ofChange cuttingBestWrong)

/-- 'sawmilllaw26.TrimOptimal': WHATEVER THE INPUT: true; the input reads as it did. -/
def trimOptimalSpec : ChangeSpec := { name := "trimOptimal", fn := fun _ => fun
  | [d1, d2, d3] => { results := [.lit (.bool true)], args := [d1, d2, d3] }
  | _ => none }
def trimOptimalRow : OpenClaim := { program := "ytoaicheopcojoaadoor", sum := "c0c5bf201270aae151606d7f47bffbb10c82cf9fa539ed7c7681b77627ab608e", func := "sawmill/sawmilllaw26.TrimOptimal", spec := "trimOptimal", unfollowed := true, recurses := true, named := ["sawmill/cutting.none"], apart := false, laid := [("sawmill/cutting.none", laid_sawmill_cutting_none)] }
def TrimOptimalSaid : Prop := trimOptimalRow.holds Tryd.pinned (OpenSpec.ofChange trimOptimalSpec)

/-- ITS FALSE NEIGHBOUR: 'it returns false'. Refute it at one input. -/
def trimOptimalWrong : ChangeSpec := { name := "trimOptimal", fn := fun _ => fun
  | [d1, d2, d3] => { results := [.lit (.bool false)], args := [d1, d2, d3] }
  | _ => none }
def TrimOptimalWrongFalsely : Prop := trimOptimalRow.holds Tryd.pinned (OpenSpec.ofChange trimOptimalWrong)

/-- 'sawmilllaw17.CuttingParts': WHATEVER THE INPUT: true; the input reads as it did. -/
def cuttingPartsSpec : ChangeSpec := { name := "cuttingParts", fn := fun _ => fun
  | [d1, d2] => { results := [.lit (.bool true)], args := [d1, d2] }
  | _ => none }
def cuttingPartsRow : OpenClaim := { program := "ytoaicheopcojoaadoor", sum := "c0c5bf201270aae151606d7f47bffbb10c82cf9fa539ed7c7681b77627ab608e", func := "sawmill/sawmilllaw17.CuttingParts", spec := "cuttingParts", unfollowed := true, recurses := true, named := ["sawmill/cutting.none"], apart := false, laid := [("sawmill/cutting.none", laid_sawmill_cutting_none)] }
def CuttingPartsSaid : Prop := cuttingPartsRow.holds Tryd.pinned (OpenSpec.ofChange cuttingPartsSpec)

/-- ITS FALSE NEIGHBOUR: 'it returns false'. Refute it at one input. -/
def cuttingPartsWrong : ChangeSpec := { name := "cuttingParts", fn := fun _ => fun
  | [d1, d2] => { results := [.lit (.bool false)], args := [d1, d2] }
  | _ => none }
def CuttingPartsWrongFalsely : Prop := cuttingPartsRow.holds Tryd.pinned (OpenSpec.ofChange cuttingPartsWrong)

/-- 'sawmilllaw26.TrimDefects': WHATEVER THE INPUT: true; the input reads as it did. -/
def trimDefectsSpec : ChangeSpec := { name := "trimDefects", fn := fun _ => fun
  | [d1, d2, d3] => { results := [.lit (.bool true)], args := [d1, d2, d3] }
  | _ => none }
def trimDefectsRow : OpenClaim := { program := "ytoaicheopcojoaadoor", sum := "c0c5bf201270aae151606d7f47bffbb10c82cf9fa539ed7c7681b77627ab608e", func := "sawmill/sawmilllaw26.TrimDefects", spec := "trimDefects", unfollowed := true, recurses := true, named := ["sawmill/cutting.none"], apart := false, laid := [("sawmill/cutting.none", laid_sawmill_cutting_none)] }
def TrimDefectsSaid : Prop := trimDefectsRow.holds Tryd.pinned (OpenSpec.ofChange trimDefectsSpec)

/-- ITS FALSE NEIGHBOUR: 'it returns false'. Refute it at one input. -/
def trimDefectsWrong : ChangeSpec := { name := "trimDefects", fn := fun _ => fun
  | [d1, d2, d3] => { results := [.lit (.bool false)], args := [d1, d2, d3] }
  | _ => none }
def TrimDefectsWrongFalsely : Prop := trimDefectsRow.holds Tryd.pinned (OpenSpec.ofChange trimDefectsWrong)

/-- 'sawmilllaw17.CuttingMore': WHATEVER THE INPUT: true; the input reads as it did. -/
def cuttingMoreSpec : ChangeSpec := { name := "cuttingMore", fn := fun _ => fun
  | [d1, d2, d3] => { results := [.lit (.bool true)], args := [d1, d2, d3] }
  | _ => none }
def cuttingMoreRow : OpenClaim := { program := "ytoaicheopcojoaadoor", sum := "c0c5bf201270aae151606d7f47bffbb10c82cf9fa539ed7c7681b77627ab608e", func := "sawmill/sawmilllaw17.CuttingMore", spec := "cuttingMore", unfollowed := true, recurses := true, named := ["sawmill/cutting.none"], apart := false, laid := [("sawmill/cutting.none", laid_sawmill_cutting_none)] }
def CuttingMoreSaid : Prop := cuttingMoreRow.holds Tryd.pinned (OpenSpec.ofChange cuttingMoreSpec)

/-- ITS FALSE NEIGHBOUR: 'it returns false'. Refute it at one input. -/
def cuttingMoreWrong : ChangeSpec := { name := "cuttingMore", fn := fun _ => fun
  | [d1, d2, d3] => { results := [.lit (.bool false)], args := [d1, d2, d3] }
  | _ => none }
def CuttingMoreWrongFalsely : Prop := cuttingMoreRow.holds Tryd.pinned (OpenSpec.ofChange cuttingMoreWrong)

/-- 'sawmilllaw17.CuttingScales': WHATEVER THE INPUT: true; the input reads as it did. -/
def cuttingScalesSpec : ChangeSpec := { name := "cuttingScales", fn := fun _ => fun
  | [d1, d2] => { results := [.lit (.bool true)], args := [d1, d2] }
  | _ => none }
def cuttingScalesRow : OpenClaim := { program := "ytoaicheopcojoaadoor", sum := "c0c5bf201270aae151606d7f47bffbb10c82cf9fa539ed7c7681b77627ab608e", func := "sawmill/sawmilllaw17.CuttingScales", spec := "cuttingScales", unfollowed := true, recurses := true, named := ["sawmill/cutting.none"], apart := false, laid := [("sawmill/cutting.none", laid_sawmill_cutting_none)] }
def CuttingScalesSaid : Prop := cuttingScalesRow.holds Tryd.pinned (OpenSpec.ofChange cuttingScalesSpec)

/-- ITS FALSE NEIGHBOUR: 'it returns false'. Refute it at one input. -/
def cuttingScalesWrong : ChangeSpec := { name := "cuttingScales", fn := fun _ => fun
  | [d1, d2] => { results := [.lit (.bool false)], args := [d1, d2] }
  | _ => none }
def CuttingScalesWrongFalsely : Prop := cuttingScalesRow.holds Tryd.pinned (OpenSpec.ofChange cuttingScalesWrong)

/-- 'sawmilllaw26.TrimLines': WHATEVER THE INPUT: true; the input reads as it did. -/
def trimLinesSpec : ChangeSpec := { name := "trimLines", fn := fun _ => fun
  | [d] => { results := [.lit (.bool true)], args := [d] }
  | _ => none }
def trimLinesRow : OpenClaim := { program := "ytoaicheopcojoaadoor", sum := "c0c5bf201270aae151606d7f47bffbb10c82cf9fa539ed7c7681b77627ab608e", func := "sawmill/sawmilllaw26.TrimLines", spec := "trimLines", unfollowed := true, recurses := true, named := ["sawmill/cutting.none"], apart := false, laid := [("sawmill/cutting.none", laid_sawmill_cutting_none)] }
def TrimLinesSaid : Prop := trimLinesRow.holds Tryd.pinned (OpenSpec.ofChange trimLinesSpec)

/-- ITS FALSE NEIGHBOUR: 'it returns false'. Refute it at one input. -/
def trimLinesWrong : ChangeSpec := { name := "trimLines", fn := fun _ => fun
  | [d] => { results := [.lit (.bool false)], args := [d] }
  | _ => none }
def TrimLinesWrongFalsely : Prop := trimLinesRow.holds Tryd.pinned (OpenSpec.ofChange trimLinesWrong)

/-- 'sawmilllaw26.TrimBests': WHATEVER THE INPUT: true; the input reads as it did. -/
def trimBestsSpec : ChangeSpec := { name := "trimBests", fn := fun _ => fun
  | [d] => { results := [.lit (.bool true)], args := [d] }
  | _ => none }
def trimBestsRow : OpenClaim := { program := "ytoaicheopcojoaadoor", sum := "c0c5bf201270aae151606d7f47bffbb10c82cf9fa539ed7c7681b77627ab608e", func := "sawmill/sawmilllaw26.TrimBests", spec := "trimBests", unfollowed := true, recurses := true, named := ["sawmill/cutting.none"], apart := false, laid := [("sawmill/cutting.none", laid_sawmill_cutting_none)] }
def TrimBestsSaid : Prop := trimBestsRow.holds Tryd.pinned (OpenSpec.ofChange trimBestsSpec)

/-- ITS FALSE NEIGHBOUR: 'it returns false'. Refute it at one input. -/
def trimBestsWrong : ChangeSpec := { name := "trimBests", fn := fun _ => fun
  | [d] => { results := [.lit (.bool false)], args := [d] }
  | _ => none }
def TrimBestsWrongFalsely : Prop := trimBestsRow.holds Tryd.pinned (OpenSpec.ofChange trimBestsWrong)

/-- 'sawmilllaw26.TrimBoards': WHATEVER THE INPUT: true; the input reads as it did. -/
def trimBoardsSpec : ChangeSpec := { name := "trimBoards", fn := fun _ => fun
  | [d1, d2] => { results := [.lit (.bool true)], args := [d1, d2] }
  | _ => none }
def trimBoardsRow : OpenClaim := { program := "ytoaicheopcojoaadoor", sum := "c0c5bf201270aae151606d7f47bffbb10c82cf9fa539ed7c7681b77627ab608e", func := "sawmill/sawmilllaw26.TrimBoards", spec := "trimBoards", unfollowed := true, recurses := true, named := ["sawmill/cutting.none"], apart := false, laid := [("sawmill/cutting.none", laid_sawmill_cutting_none)] }
def TrimBoardsSaid : Prop := trimBoardsRow.holds Tryd.pinned (OpenSpec.ofChange trimBoardsSpec)

/-- ITS FALSE NEIGHBOUR: 'it returns false'. Refute it at one input. -/
def trimBoardsWrong : ChangeSpec := { name := "trimBoards", fn := fun _ => fun
  | [d1, d2] => { results := [.lit (.bool false)], args := [d1, d2] }
  | _ => none }
def TrimBoardsWrongFalsely : Prop := trimBoardsRow.holds Tryd.pinned (OpenSpec.ofChange trimBoardsWrong)

/-- 'sawmilllaw26.TrimCovers': WHATEVER THE INPUT: true; the input reads as it did. -/
def trimCoversSpec : ChangeSpec := { name := "trimCovers", fn := fun _ => fun
  | [d1, d2] => { results := [.lit (.bool true)], args := [d1, d2] }
  | _ => none }
def trimCoversRow : OpenClaim := { program := "ytoaicheopcojoaadoor", sum := "c0c5bf201270aae151606d7f47bffbb10c82cf9fa539ed7c7681b77627ab608e", func := "sawmill/sawmilllaw26.TrimCovers", spec := "trimCovers", unfollowed := true, recurses := true, named := ["sawmill/cutting.none"], apart := false, laid := [("sawmill/cutting.none", laid_sawmill_cutting_none)] }
def TrimCoversSaid : Prop := trimCoversRow.holds Tryd.pinned (OpenSpec.ofChange trimCoversSpec)

/-- ITS FALSE NEIGHBOUR: 'it returns false'. Refute it at one input. -/
def trimCoversWrong : ChangeSpec := { name := "trimCovers", fn := fun _ => fun
  | [d1, d2] => { results := [.lit (.bool false)], args := [d1, d2] }
  | _ => none }
def TrimCoversWrongFalsely : Prop := trimCoversRow.holds Tryd.pinned (OpenSpec.ofChange trimCoversWrong)

/- THE SECOND FORM. 'bulk': how many values and letters a reading holds, each counted each time it is reached (what is shared counts as often as it is met; a slice's spare places count too). A statement '..UptoSaid' is the law's where the arguments, and the package variables that the reading takes, are together of bulk at most 1048576: NARROWER than '..Said'. Prove '..Said' where nothing that the law and all that it calls make is longer than what came in: it says more and counts as full. Else prove '..UptoSaid'. A law counts once. -/
mutual
def uptoBulk {H : Type} : DataW H → Nat
  | .lit (.string bytes) => bytes.length + 1
  | .lit _ => 1
  | .nil => 1
  | .ptr d => uptoBulk d + 1
  | .slice elems spare => uptoBulkAll elems + uptoBulkAll spare + 1
  | .agg parts => uptoBulkAll parts + 1
  | .iface _ d => uptoBulk d + 1
  | .map entries => uptoBulkEntries entries + 1
  | .held _ => 1
def uptoBulkAll {H : Type} : List (DataW H) → Nat
  | [] => 0
  | d :: r => uptoBulk d + uptoBulkAll r
def uptoBulkEntries {H : Type} : List (Lit × DataW H) → Nat
  | [] => 0
  | x :: r => uptoBulkEntry x + uptoBulkEntries r
def uptoBulkEntry {H : Type} : Lit × DataW H → Nat
  | (.string bytes, d) => bytes.length + uptoBulk d + 1
  | (_, d) => uptoBulk d + 1
 end
def uptoSmall : (H : Type) → List (DataW H) → Bool := fun _ ds => decide (uptoBulkAll ds ≤ 1048576)
def OpenSpec.upto (s : _root_.Go.ChangeSpec) : _root_.Go.OpenSpec := { _root_.Go.OpenSpec.ofChange s with cond := some uptoSmall }

/-- 'sawmilllaw17.CuttingChecks', WHERE WHAT IT READS IS OF BULK AT MOST 1048576: true; the input reads as it did. -/
def cuttingChecksUptoRow : OpenClaim := { program := "ytoaicheopcojoaadoor", sum := "c0c5bf201270aae151606d7f47bffbb10c82cf9fa539ed7c7681b77627ab608e", func := "sawmill/sawmilllaw17.CuttingChecks", spec := "cuttingChecks", unfollowed := true, recurses := true, named := ["sawmill/cutting.none"], apart := false, laid := [("sawmill/cutting.none", laid_sawmill_cutting_none)], narrowed := true }
def CuttingChecksUptoSaid : Prop := cuttingChecksUptoRow.holds Tryd.pinned (OpenSpec.upto cuttingChecksSpec)

/-- 'sawmilllaw17.CuttingCuts', WHERE WHAT IT READS IS OF BULK AT MOST 1048576: true; the input reads as it did. -/
def cuttingCutsUptoRow : OpenClaim := { program := "ytoaicheopcojoaadoor", sum := "c0c5bf201270aae151606d7f47bffbb10c82cf9fa539ed7c7681b77627ab608e", func := "sawmill/sawmilllaw17.CuttingCuts", spec := "cuttingCuts", unfollowed := true, recurses := true, named := ["sawmill/cutting.none"], apart := false, laid := [("sawmill/cutting.none", laid_sawmill_cutting_none)], narrowed := true }
def CuttingCutsUptoSaid : Prop := cuttingCutsUptoRow.holds Tryd.pinned (OpenSpec.upto cuttingCutsSpec)

/-- 'sawmilllaw17.CuttingBests', WHERE WHAT IT READS IS OF BULK AT MOST 1048576: true; the input reads as it did. -/
def cuttingBestsUptoRow : OpenClaim := { program := "ytoaicheopcojoaadoor", sum := "c0c5bf201270aae151606d7f47bffbb10c82cf9fa539ed7c7681b77627ab608e", func := "sawmill/sawmilllaw17.CuttingBests", spec := "cuttingBests", unfollowed := true, recurses := true, named := ["sawmill/cutting.none"], apart := false, laid := [("sawmill/cutting.none", laid_sawmill_cutting_none)], narrowed := true }
def CuttingBestsUptoSaid : Prop := cuttingBestsUptoRow.holds Tryd.pinned (OpenSpec.upto cuttingBestsSpec)

/-- 'sawmilllaw17.CuttingUniform', WHERE WHAT IT READS IS OF BULK AT MOST 1048576: true; the input reads as it did. -/
def cuttingUniformUptoRow : OpenClaim := { program := "ytoaicheopcojoaadoor", sum := "c0c5bf201270aae151606d7f47bffbb10c82cf9fa539ed7c7681b77627ab608e", func := "sawmill/sawmilllaw17.CuttingUniform", spec := "cuttingUniform", unfollowed := true, recurses := true, named := ["sawmill/cutting.none"], apart := false, laid := [("sawmill/cutting.none", laid_sawmill_cutting_none)], narrowed := true }
def CuttingUniformUptoSaid : Prop := cuttingUniformUptoRow.holds Tryd.pinned (OpenSpec.upto cuttingUniformSpec)

/-- 'sawmilllaw17.CuttingBest', WHERE WHAT IT READS IS OF BULK AT MOST 1048576: true; the input reads as it did. -/
def cuttingBestUptoRow : OpenClaim := { program := "ytoaicheopcojoaadoor", sum := "c0c5bf201270aae151606d7f47bffbb10c82cf9fa539ed7c7681b77627ab608e", func := "sawmill/sawmilllaw17.CuttingBest", spec := "cuttingBest", unfollowed := true, recurses := true, named := ["sawmill/cutting.none"], apart := false, laid := [("sawmill/cutting.none", laid_sawmill_cutting_none)], narrowed := true }
def CuttingBestUptoSaid : Prop := cuttingBestUptoRow.holds Tryd.pinned (OpenSpec.upto cuttingBestSpec)

/-- 'sawmilllaw26.TrimOptimal', WHERE WHAT IT READS IS OF BULK AT MOST 1048576: true; the input reads as it did. -/
def trimOptimalUptoRow : OpenClaim := { program := "ytoaicheopcojoaadoor", sum := "c0c5bf201270aae151606d7f47bffbb10c82cf9fa539ed7c7681b77627ab608e", func := "sawmill/sawmilllaw26.TrimOptimal", spec := "trimOptimal", unfollowed := true, recurses := true, named := ["sawmill/cutting.none"], apart := false, laid := [("sawmill/cutting.none", laid_sawmill_cutting_none)], narrowed := true }
def TrimOptimalUptoSaid : Prop := trimOptimalUptoRow.holds Tryd.pinned (OpenSpec.upto trimOptimalSpec)

/-- 'sawmilllaw17.CuttingParts', WHERE WHAT IT READS IS OF BULK AT MOST 1048576: true; the input reads as it did. -/
def cuttingPartsUptoRow : OpenClaim := { program := "ytoaicheopcojoaadoor", sum := "c0c5bf201270aae151606d7f47bffbb10c82cf9fa539ed7c7681b77627ab608e", func := "sawmill/sawmilllaw17.CuttingParts", spec := "cuttingParts", unfollowed := true, recurses := true, named := ["sawmill/cutting.none"], apart := false, laid := [("sawmill/cutting.none", laid_sawmill_cutting_none)], narrowed := true }
def CuttingPartsUptoSaid : Prop := cuttingPartsUptoRow.holds Tryd.pinned (OpenSpec.upto cuttingPartsSpec)

/-- 'sawmilllaw26.TrimDefects', WHERE WHAT IT READS IS OF BULK AT MOST 1048576: true; the input reads as it did. -/
def trimDefectsUptoRow : OpenClaim := { program := "ytoaicheopcojoaadoor", sum := "c0c5bf201270aae151606d7f47bffbb10c82cf9fa539ed7c7681b77627ab608e", func := "sawmill/sawmilllaw26.TrimDefects", spec := "trimDefects", unfollowed := true, recurses := true, named := ["sawmill/cutting.none"], apart := false, laid := [("sawmill/cutting.none", laid_sawmill_cutting_none)], narrowed := true }
def TrimDefectsUptoSaid : Prop := trimDefectsUptoRow.holds Tryd.pinned (OpenSpec.upto trimDefectsSpec)

/-- 'sawmilllaw17.CuttingMore', WHERE WHAT IT READS IS OF BULK AT MOST 1048576: true; the input reads as it did. -/
def cuttingMoreUptoRow : OpenClaim := { program := "ytoaicheopcojoaadoor", sum := "c0c5bf201270aae151606d7f47bffbb10c82cf9fa539ed7c7681b77627ab608e", func := "sawmill/sawmilllaw17.CuttingMore", spec := "cuttingMore", unfollowed := true, recurses := true, named := ["sawmill/cutting.none"], apart := false, laid := [("sawmill/cutting.none", laid_sawmill_cutting_none)], narrowed := true }
def CuttingMoreUptoSaid : Prop := cuttingMoreUptoRow.holds Tryd.pinned (OpenSpec.upto cuttingMoreSpec)

/-- 'sawmilllaw17.CuttingScales', WHERE WHAT IT READS IS OF BULK AT MOST 1048576: true; the input reads as it did. -/
def cuttingScalesUptoRow : OpenClaim := { program := "ytoaicheopcojoaadoor", sum := "c0c5bf201270aae151606d7f47bffbb10c82cf9fa539ed7c7681b77627ab608e", func := "sawmill/sawmilllaw17.CuttingScales", spec := "cuttingScales", unfollowed := true, recurses := true, named := ["sawmill/cutting.none"], apart := false, laid := [("sawmill/cutting.none", laid_sawmill_cutting_none)], narrowed := true }
def CuttingScalesUptoSaid : Prop := cuttingScalesUptoRow.holds Tryd.pinned (OpenSpec.upto cuttingScalesSpec)

/-- 'sawmilllaw26.TrimLines', WHERE WHAT IT READS IS OF BULK AT MOST 1048576: true; the input reads as it did. -/
def trimLinesUptoRow : OpenClaim := { program := "ytoaicheopcojoaadoor", sum := "c0c5bf201270aae151606d7f47bffbb10c82cf9fa539ed7c7681b77627ab608e", func := "sawmill/sawmilllaw26.TrimLines", spec := "trimLines", unfollowed := true, recurses := true, named := ["sawmill/cutting.none"], apart := false, laid := [("sawmill/cutting.none", laid_sawmill_cutting_none)], narrowed := true }
def TrimLinesUptoSaid : Prop := trimLinesUptoRow.holds Tryd.pinned (OpenSpec.upto trimLinesSpec)

/-- 'sawmilllaw26.TrimBests', WHERE WHAT IT READS IS OF BULK AT MOST 1048576: true; the input reads as it did. -/
def trimBestsUptoRow : OpenClaim := { program := "ytoaicheopcojoaadoor", sum := "c0c5bf201270aae151606d7f47bffbb10c82cf9fa539ed7c7681b77627ab608e", func := "sawmill/sawmilllaw26.TrimBests", spec := "trimBests", unfollowed := true, recurses := true, named := ["sawmill/cutting.none"], apart := false, laid := [("sawmill/cutting.none", laid_sawmill_cutting_none)], narrowed := true }
def TrimBestsUptoSaid : Prop := trimBestsUptoRow.holds Tryd.pinned (OpenSpec.upto trimBestsSpec)

/-- 'sawmilllaw26.TrimBoards', WHERE WHAT IT READS IS OF BULK AT MOST 1048576: true; the input reads as it did. -/
def trimBoardsUptoRow : OpenClaim := { program := "ytoaicheopcojoaadoor", sum := "c0c5bf201270aae151606d7f47bffbb10c82cf9fa539ed7c7681b77627ab608e", func := "sawmill/sawmilllaw26.TrimBoards", spec := "trimBoards", unfollowed := true, recurses := true, named := ["sawmill/cutting.none"], apart := false, laid := [("sawmill/cutting.none", laid_sawmill_cutting_none)], narrowed := true }
def TrimBoardsUptoSaid : Prop := trimBoardsUptoRow.holds Tryd.pinned (OpenSpec.upto trimBoardsSpec)

/-- 'sawmilllaw26.TrimCovers', WHERE WHAT IT READS IS OF BULK AT MOST 1048576: true; the input reads as it did. -/
def trimCoversUptoRow : OpenClaim := { program := "ytoaicheopcojoaadoor", sum := "c0c5bf201270aae151606d7f47bffbb10c82cf9fa539ed7c7681b77627ab608e", func := "sawmill/sawmilllaw26.TrimCovers", spec := "trimCovers", unfollowed := true, recurses := true, named := ["sawmill/cutting.none"], apart := false, laid := [("sawmill/cutting.none", laid_sawmill_cutting_none)], narrowed := true }
def TrimCoversUptoSaid : Prop := trimCoversUptoRow.holds Tryd.pinned (OpenSpec.upto trimCoversSpec)

end Rows
end Go.Proofs.YtoaicheopcojoaaDoor
