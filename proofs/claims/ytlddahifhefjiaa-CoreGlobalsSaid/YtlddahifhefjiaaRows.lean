/-
  No cell of these rows narrows 'for every input' (looked for: loops, veiled, ifaces, maps, wideKeys, modest, calm, conditions, laid).
  DERIVED. THE GIVEN ROWS OF THIS SEAT. 12 by the template 'for every input the law returns true; each argument reads behind the call as it read before'; 0 by the template 'total and deterministic' (their statements: YtlddahifhefjiaaTotals.lean).
  GIVEN WITH THE SEED: the statements are not yours to turn. If you find one false, say at which input.
  Laid BY PROGRAM, IN A SANDBOX (cutbox-rows.mjs): the forced cells as the released guide's own fill.sh prints them over the translation cd247cfe157eac22… (all of the seat's roots in one cut). By AI agents, Wed Nov 11 2026. No macro, syntax, notation, axiom, sorry.
-/
import Derived.Test.YtlddahifhefjiaaChecked
import GoSem.Claim
import GoSem.ClaimJoined
import GoSem.ClaimMapViews
import Derived.JoinedTies
import Derived.KernelRfl
namespace Go.Proofs.Ytlddahifhefjiaa
/- THE CELL 'sum', in the pinned program and in every row, IS THE sha256 OF THE DUMP (.gsa) THAT YtlddahifhefjiaaProg.lean LOADS. Nothing in Lean hashes anything: it is a label: what it is worth is what the hold of that sum in a sandbox is worth. -/
noncomputable def Try.pinned : Pinned := { name := "ytlddahifhefjiaa", sum := "cd247cfe157eac22774e7042d018315201b15f51d832f8c4ae1bb5aa11d71faa", checked := Try.checked }
namespace Rows
def none {H : Type} : Left H := { results := [], args := [] }

/-- 'spolaw27.TaleTells': WHATEVER THE INPUT: true; the input reads as it did. -/
def taleTellsSpec : ChangeSpec := { name := "taleTells", fn := fun _ => fun
  | [d1, d2, d3] => { results := [.lit (.bool true)], args := [d1, d2, d3] }
  | _ => none }
def taleTellsRow : OpenClaim := { program := "ytlddahifhefjiaa", sum := "cd247cfe157eac22774e7042d018315201b15f51d832f8c4ae1bb5aa11d71faa", func := "spolia/spolaw27.TaleTells", spec := "taleTells", inPlace := ["math.Float64bits"], unfollowed := true, recurses := true, apart := false }
def TaleTellsSaid : Prop := taleTellsRow.holds Try.pinned (OpenSpec.ofChange taleTellsSpec)

/-- ITS FALSE NEIGHBOUR: 'it returns false'. Refute it at one input. -/
def taleTellsWrong : ChangeSpec := { name := "taleTells", fn := fun _ => fun
  | [d1, d2, d3] => { results := [.lit (.bool false)], args := [d1, d2, d3] }
  | _ => none }
def TaleTellsWrongFalsely : Prop := taleTellsRow.holds Try.pinned (OpenSpec.ofChange taleTellsWrong)

/-- 'spolaw27.TaleLengths': WHATEVER THE INPUT: true; the input reads as it did. -/
def taleLengthsSpec : ChangeSpec := { name := "taleLengths", fn := fun _ => fun
  | [d1, d2] => { results := [.lit (.bool true)], args := [d1, d2] }
  | _ => none }
def taleLengthsRow : OpenClaim := { program := "ytlddahifhefjiaa", sum := "cd247cfe157eac22774e7042d018315201b15f51d832f8c4ae1bb5aa11d71faa", func := "spolia/spolaw27.TaleLengths", spec := "taleLengths", inPlace := ["math.Float64bits"], unfollowed := true, recurses := true, apart := false }
def TaleLengthsSaid : Prop := taleLengthsRow.holds Try.pinned (OpenSpec.ofChange taleLengthsSpec)

/-- ITS FALSE NEIGHBOUR: 'it returns false'. Refute it at one input. -/
def taleLengthsWrong : ChangeSpec := { name := "taleLengths", fn := fun _ => fun
  | [d1, d2] => { results := [.lit (.bool false)], args := [d1, d2] }
  | _ => none }
def TaleLengthsWrongFalsely : Prop := taleLengthsRow.holds Try.pinned (OpenSpec.ofChange taleLengthsWrong)

/-- 'spolaw12.PlanLinks': WHATEVER THE INPUT: true; the input reads as it did. -/
def planLinksSpec : ChangeSpec := { name := "planLinks", fn := fun _ => fun
  | [d1, d2, d3] => { results := [.lit (.bool true)], args := [d1, d2, d3] }
  | _ => none }
def planLinksRow : OpenClaim := { program := "ytlddahifhefjiaa", sum := "cd247cfe157eac22774e7042d018315201b15f51d832f8c4ae1bb5aa11d71faa", func := "spolia/spolaw12.PlanLinks", spec := "planLinks", inPlace := ["math.Float64bits"], unfollowed := true, recurses := true, apart := false }
def PlanLinksSaid : Prop := planLinksRow.holds Try.pinned (OpenSpec.ofChange planLinksSpec)

/-- ITS FALSE NEIGHBOUR: 'it returns false'. Refute it at one input. -/
def planLinksWrong : ChangeSpec := { name := "planLinks", fn := fun _ => fun
  | [d1, d2, d3] => { results := [.lit (.bool false)], args := [d1, d2, d3] }
  | _ => none }
def PlanLinksWrongFalsely : Prop := planLinksRow.holds Try.pinned (OpenSpec.ofChange planLinksWrong)

/-- 'spolaw27.TaleMay': WHATEVER THE INPUT: true; the input reads as it did. -/
def taleMaySpec : ChangeSpec := { name := "taleMay", fn := fun _ => fun
  | [d1, d2] => { results := [.lit (.bool true)], args := [d1, d2] }
  | _ => none }
def taleMayRow : OpenClaim := { program := "ytlddahifhefjiaa", sum := "cd247cfe157eac22774e7042d018315201b15f51d832f8c4ae1bb5aa11d71faa", func := "spolia/spolaw27.TaleMay", spec := "taleMay", unfollowed := true, recurses := true, apart := false }
def TaleMaySaid : Prop := taleMayRow.holds Try.pinned (OpenSpec.ofChange taleMaySpec)

/-- ITS FALSE NEIGHBOUR: 'it returns false'. Refute it at one input. -/
def taleMayWrong : ChangeSpec := { name := "taleMay", fn := fun _ => fun
  | [d1, d2] => { results := [.lit (.bool false)], args := [d1, d2] }
  | _ => none }
def TaleMayWrongFalsely : Prop := taleMayRow.holds Try.pinned (OpenSpec.ofChange taleMayWrong)

/-- 'spolaw22.CoreMade': WHATEVER THE INPUT: true; the input reads as it did. -/
def coreMadeSpec : ChangeSpec := { name := "coreMade", fn := fun _ => fun
  | [d] => { results := [.lit (.bool true)], args := [d] }
  | _ => none }
def coreMadeRow : OpenClaim := { program := "ytlddahifhefjiaa", sum := "cd247cfe157eac22774e7042d018315201b15f51d832f8c4ae1bb5aa11d71faa", func := "spolia/spolaw22.CoreMade", spec := "coreMade", inPlace := ["math.Float64bits"], unfollowed := true, recurses := true, apart := false }
def CoreMadeSaid : Prop := coreMadeRow.holds Try.pinned (OpenSpec.ofChange coreMadeSpec)

/-- ITS FALSE NEIGHBOUR: 'it returns false'. Refute it at one input. -/
def coreMadeWrong : ChangeSpec := { name := "coreMade", fn := fun _ => fun
  | [d] => { results := [.lit (.bool false)], args := [d] }
  | _ => none }
def CoreMadeWrongFalsely : Prop := coreMadeRow.holds Try.pinned (OpenSpec.ofChange coreMadeWrong)

/-- 'spolaw22.CoreGlobals': WHATEVER THE INPUT: true; the input reads as it did. -/
def coreGlobalsSpec : ChangeSpec := { name := "coreGlobals", fn := fun _ => fun
  | [d] => { results := [.lit (.bool true)], args := [d] }
  | _ => none }
def coreGlobalsRow : OpenClaim := { program := "ytlddahifhefjiaa", sum := "cd247cfe157eac22774e7042d018315201b15f51d832f8c4ae1bb5aa11d71faa", func := "spolia/spolaw22.CoreGlobals", spec := "coreGlobals", inPlace := ["math.Float64bits"], unfollowed := true, recurses := true, apart := false }
def CoreGlobalsSaid : Prop := coreGlobalsRow.holds Try.pinned (OpenSpec.ofChange coreGlobalsSpec)

/-- ITS FALSE NEIGHBOUR: 'it returns false'. Refute it at one input. -/
def coreGlobalsWrong : ChangeSpec := { name := "coreGlobals", fn := fun _ => fun
  | [d] => { results := [.lit (.bool false)], args := [d] }
  | _ => none }
def CoreGlobalsWrongFalsely : Prop := coreGlobalsRow.holds Try.pinned (OpenSpec.ofChange coreGlobalsWrong)

/-- 'spolaw12.PlanOnce': WHATEVER THE INPUT: true; the input reads as it did. -/
def planOnceSpec : ChangeSpec := { name := "planOnce", fn := fun _ => fun
  | [d1, d2, d3, d4, d5] => { results := [.lit (.bool true)], args := [d1, d2, d3, d4, d5] }
  | _ => none }
def planOnceRow : OpenClaim := { program := "ytlddahifhefjiaa", sum := "cd247cfe157eac22774e7042d018315201b15f51d832f8c4ae1bb5aa11d71faa", func := "spolia/spolaw12.PlanOnce", spec := "planOnce", unfollowed := true, recurses := true, apart := false }
def PlanOnceSaid : Prop := planOnceRow.holds Try.pinned (OpenSpec.ofChange planOnceSpec)

/-- ITS FALSE NEIGHBOUR: 'it returns false'. Refute it at one input. -/
def planOnceWrong : ChangeSpec := { name := "planOnce", fn := fun _ => fun
  | [d1, d2, d3, d4, d5] => { results := [.lit (.bool false)], args := [d1, d2, d3, d4, d5] }
  | _ => none }
def PlanOnceWrongFalsely : Prop := planOnceRow.holds Try.pinned (OpenSpec.ofChange planOnceWrong)

/-- 'spolaw12.PlanTells': WHATEVER THE INPUT: true; the input reads as it did. -/
def planTellsSpec : ChangeSpec := { name := "planTells", fn := fun _ => fun
  | [d1, d2, d3, d4, d5] => { results := [.lit (.bool true)], args := [d1, d2, d3, d4, d5] }
  | _ => none }
def planTellsRow : OpenClaim := { program := "ytlddahifhefjiaa", sum := "cd247cfe157eac22774e7042d018315201b15f51d832f8c4ae1bb5aa11d71faa", func := "spolia/spolaw12.PlanTells", spec := "planTells", inPlace := ["math.Float64bits"], unfollowed := true, recurses := true, apart := false }
def PlanTellsSaid : Prop := planTellsRow.holds Try.pinned (OpenSpec.ofChange planTellsSpec)

/-- ITS FALSE NEIGHBOUR: 'it returns false'. Refute it at one input. -/
def planTellsWrong : ChangeSpec := { name := "planTells", fn := fun _ => fun
  | [d1, d2, d3, d4, d5] => { results := [.lit (.bool false)], args := [d1, d2, d3, d4, d5] }
  | _ => none }
def PlanTellsWrongFalsely : Prop := planTellsRow.holds Try.pinned (OpenSpec.ofChange planTellsWrong)

/-- 'spolaw12.PlanModes': WHATEVER THE INPUT: true; the input reads as it did. -/
def planModesSpec : ChangeSpec := { name := "planModes", fn := fun _ => fun
  | [d1, d2, d3, d4, d5] => { results := [.lit (.bool true)], args := [d1, d2, d3, d4, d5] }
  | _ => none }
def planModesRow : OpenClaim := { program := "ytlddahifhefjiaa", sum := "cd247cfe157eac22774e7042d018315201b15f51d832f8c4ae1bb5aa11d71faa", func := "spolia/spolaw12.PlanModes", spec := "planModes", inPlace := ["math.Float64bits"], unfollowed := true, recurses := true, apart := false }
def PlanModesSaid : Prop := planModesRow.holds Try.pinned (OpenSpec.ofChange planModesSpec)

/-- ITS FALSE NEIGHBOUR: 'it returns false'. Refute it at one input. -/
def planModesWrong : ChangeSpec := { name := "planModes", fn := fun _ => fun
  | [d1, d2, d3, d4, d5] => { results := [.lit (.bool false)], args := [d1, d2, d3, d4, d5] }
  | _ => none }
def PlanModesWrongFalsely : Prop := planModesRow.holds Try.pinned (OpenSpec.ofChange planModesWrong)

/-- 'spolaw21.SpaceRuns': WHATEVER THE INPUT: true; the input reads as it did. -/
def spaceRunsSpec : ChangeSpec := { name := "spaceRuns", fn := fun _ => fun
  | [d1, d2] => { results := [.lit (.bool true)], args := [d1, d2] }
  | _ => none }
def spaceRunsRow : OpenClaim := { program := "ytlddahifhefjiaa", sum := "cd247cfe157eac22774e7042d018315201b15f51d832f8c4ae1bb5aa11d71faa", func := "spolia/spolaw21.SpaceRuns", spec := "spaceRuns", unfollowed := true, recurses := true, apart := false }
def SpaceRunsSaid : Prop := spaceRunsRow.holds Try.pinned (OpenSpec.ofChange spaceRunsSpec)

/-- ITS FALSE NEIGHBOUR: 'it returns false'. Refute it at one input. -/
def spaceRunsWrong : ChangeSpec := { name := "spaceRuns", fn := fun _ => fun
  | [d1, d2] => { results := [.lit (.bool false)], args := [d1, d2] }
  | _ => none }
def SpaceRunsWrongFalsely : Prop := spaceRunsRow.holds Try.pinned (OpenSpec.ofChange spaceRunsWrong)

/-- 'spolaw21.SpaceStocks': WHATEVER THE INPUT: true; the input reads as it did. -/
def spaceStocksSpec : ChangeSpec := { name := "spaceStocks", fn := fun _ => fun
  | [d1, d2] => { results := [.lit (.bool true)], args := [d1, d2] }
  | _ => none }
def spaceStocksRow : OpenClaim := { program := "ytlddahifhefjiaa", sum := "cd247cfe157eac22774e7042d018315201b15f51d832f8c4ae1bb5aa11d71faa", func := "spolia/spolaw21.SpaceStocks", spec := "spaceStocks", unfollowed := true, recurses := true, apart := false }
def SpaceStocksSaid : Prop := spaceStocksRow.holds Try.pinned (OpenSpec.ofChange spaceStocksSpec)

/-- ITS FALSE NEIGHBOUR: 'it returns false'. Refute it at one input. -/
def spaceStocksWrong : ChangeSpec := { name := "spaceStocks", fn := fun _ => fun
  | [d1, d2] => { results := [.lit (.bool false)], args := [d1, d2] }
  | _ => none }
def SpaceStocksWrongFalsely : Prop := spaceStocksRow.holds Try.pinned (OpenSpec.ofChange spaceStocksWrong)

/-- 'spolaw17.HaulSteps': WHATEVER THE INPUT: true; the input reads as it did. -/
def haulStepsSpec : ChangeSpec := { name := "haulSteps", fn := fun _ => fun
  | [d1, d2, d3] => { results := [.lit (.bool true)], args := [d1, d2, d3] }
  | _ => none }
def haulStepsRow : OpenClaim := { program := "ytlddahifhefjiaa", sum := "cd247cfe157eac22774e7042d018315201b15f51d832f8c4ae1bb5aa11d71faa", func := "spolia/spolaw17.HaulSteps", spec := "haulSteps", inPlace := ["math.Float64bits"], unfollowed := true, recurses := true, apart := false }
def HaulStepsSaid : Prop := haulStepsRow.holds Try.pinned (OpenSpec.ofChange haulStepsSpec)

/-- ITS FALSE NEIGHBOUR: 'it returns false'. Refute it at one input. -/
def haulStepsWrong : ChangeSpec := { name := "haulSteps", fn := fun _ => fun
  | [d1, d2, d3] => { results := [.lit (.bool false)], args := [d1, d2, d3] }
  | _ => none }
def HaulStepsWrongFalsely : Prop := haulStepsRow.holds Try.pinned (OpenSpec.ofChange haulStepsWrong)

/- THE SECOND FORM. 'bulk': how many values and letters a reading holds, each counted each time it is reached (what is shared counts as often as it is met; a slice's spare places count too). A statement '..UptoSaid' is the law's where the arguments, and the package variables that the reading takes, are together of bulk at most 1048576: NARROWER than '..Said'. Prove '..Said' where nothing that the law and all that it calls make is longer than what came in: it says more and counts as full. Else prove '..UptoSaid'. A law counts once. -/
mutual
def uptoBulk {H : Type} : DataW H → Nat
  | .lit (.string bytes) => bytes.length + 1
  | .lit _ => 1
  | .nil => 1
  | .ptr d => uptoBulk d + 1
  | .slice elems spare => uptoBulkAll elems + uptoBulkAll spare + 1
  | .agg parts => uptoBulkAll parts + 1
  | .iface _ d => uptoBulk d + 1
  | .map entries => uptoBulkEntries entries + 1
  | .held _ => 1
def uptoBulkAll {H : Type} : List (DataW H) → Nat
  | [] => 0
  | d :: r => uptoBulk d + uptoBulkAll r
def uptoBulkEntries {H : Type} : List (Lit × DataW H) → Nat
  | [] => 0
  | x :: r => uptoBulkEntry x + uptoBulkEntries r
def uptoBulkEntry {H : Type} : Lit × DataW H → Nat
  | (.string bytes, d) => bytes.length + uptoBulk d + 1
  | (_, d) => uptoBulk d + 1
 end
def uptoSmall : (H : Type) → List (DataW H) → Bool := fun _ ds => decide (uptoBulkAll ds ≤ 1048576)
def OpenSpec.upto (s : _root_.Go.ChangeSpec) : _root_.Go.OpenSpec := { _root_.Go.OpenSpec.ofChange s with cond := some uptoSmall }

/-- 'spolaw27.TaleTells', WHERE WHAT IT READS IS OF BULK AT MOST 1048576: true; the input reads as it did. -/
def taleTellsUptoRow : OpenClaim := { program := "ytlddahifhefjiaa", sum := "cd247cfe157eac22774e7042d018315201b15f51d832f8c4ae1bb5aa11d71faa", func := "spolia/spolaw27.TaleTells", spec := "taleTells", inPlace := ["math.Float64bits"], unfollowed := true, recurses := true, apart := false, narrowed := true }
def TaleTellsUptoSaid : Prop := taleTellsUptoRow.holds Try.pinned (OpenSpec.upto taleTellsSpec)

/-- 'spolaw27.TaleLengths', WHERE WHAT IT READS IS OF BULK AT MOST 1048576: true; the input reads as it did. -/
def taleLengthsUptoRow : OpenClaim := { program := "ytlddahifhefjiaa", sum := "cd247cfe157eac22774e7042d018315201b15f51d832f8c4ae1bb5aa11d71faa", func := "spolia/spolaw27.TaleLengths", spec := "taleLengths", inPlace := ["math.Float64bits"], unfollowed := true, recurses := true, apart := false, narrowed := true }
def TaleLengthsUptoSaid : Prop := taleLengthsUptoRow.holds Try.pinned (OpenSpec.upto taleLengthsSpec)

/-- 'spolaw12.PlanLinks', WHERE WHAT IT READS IS OF BULK AT MOST 1048576: true; the input reads as it did. -/
def planLinksUptoRow : OpenClaim := { program := "ytlddahifhefjiaa", sum := "cd247cfe157eac22774e7042d018315201b15f51d832f8c4ae1bb5aa11d71faa", func := "spolia/spolaw12.PlanLinks", spec := "planLinks", inPlace := ["math.Float64bits"], unfollowed := true, recurses := true, apart := false, narrowed := true }
def PlanLinksUptoSaid : Prop := planLinksUptoRow.holds Try.pinned (OpenSpec.upto planLinksSpec)

/-- 'spolaw27.TaleMay', WHERE WHAT IT READS IS OF BULK AT MOST 1048576: true; the input reads as it did. -/
def taleMayUptoRow : OpenClaim := { program := "ytlddahifhefjiaa", sum := "cd247cfe157eac22774e7042d018315201b15f51d832f8c4ae1bb5aa11d71faa", func := "spolia/spolaw27.TaleMay", spec := "taleMay", unfollowed := true, recurses := true, apart := false, narrowed := true }
def TaleMayUptoSaid : Prop := taleMayUptoRow.holds Try.pinned (OpenSpec.upto taleMaySpec)

/-- 'spolaw22.CoreMade', WHERE WHAT IT READS IS OF BULK AT MOST 1048576: true; the input reads as it did. -/
def coreMadeUptoRow : OpenClaim := { program := "ytlddahifhefjiaa", sum := "cd247cfe157eac22774e7042d018315201b15f51d832f8c4ae1bb5aa11d71faa", func := "spolia/spolaw22.CoreMade", spec := "coreMade", inPlace := ["math.Float64bits"], unfollowed := true, recurses := true, apart := false, narrowed := true }
def CoreMadeUptoSaid : Prop := coreMadeUptoRow.holds Try.pinned (OpenSpec.upto coreMadeSpec)

/-- 'spolaw22.CoreGlobals', WHERE WHAT IT READS IS OF BULK AT MOST 1048576: true; the input reads as it did. -/
def coreGlobalsUptoRow : OpenClaim := { program := "ytlddahifhefjiaa", sum := "cd247cfe157eac22774e7042d018315201b15f51d832f8c4ae1bb5aa11d71faa", func := "spolia/spolaw22.CoreGlobals", spec := "coreGlobals", inPlace := ["math.Float64bits"], unfollowed := true, recurses := true, apart := false, narrowed := true }
def CoreGlobalsUptoSaid : Prop := coreGlobalsUptoRow.holds Try.pinned (OpenSpec.upto coreGlobalsSpec)

/-- 'spolaw12.PlanOnce', WHERE WHAT IT READS IS OF BULK AT MOST 1048576: true; the input reads as it did. -/
def planOnceUptoRow : OpenClaim := { program := "ytlddahifhefjiaa", sum := "cd247cfe157eac22774e7042d018315201b15f51d832f8c4ae1bb5aa11d71faa", func := "spolia/spolaw12.PlanOnce", spec := "planOnce", unfollowed := true, recurses := true, apart := false, narrowed := true }
def PlanOnceUptoSaid : Prop := planOnceUptoRow.holds Try.pinned (OpenSpec.upto planOnceSpec)

/-- 'spolaw12.PlanTells', WHERE WHAT IT READS IS OF BULK AT MOST 1048576: true; the input reads as it did. -/
def planTellsUptoRow : OpenClaim := { program := "ytlddahifhefjiaa", sum := "cd247cfe157eac22774e7042d018315201b15f51d832f8c4ae1bb5aa11d71faa", func := "spolia/spolaw12.PlanTells", spec := "planTells", inPlace := ["math.Float64bits"], unfollowed := true, recurses := true, apart := false, narrowed := true }
def PlanTellsUptoSaid : Prop := planTellsUptoRow.holds Try.pinned (OpenSpec.upto planTellsSpec)

/-- 'spolaw12.PlanModes', WHERE WHAT IT READS IS OF BULK AT MOST 1048576: true; the input reads as it did. -/
def planModesUptoRow : OpenClaim := { program := "ytlddahifhefjiaa", sum := "cd247cfe157eac22774e7042d018315201b15f51d832f8c4ae1bb5aa11d71faa", func := "spolia/spolaw12.PlanModes", spec := "planModes", inPlace := ["math.Float64bits"], unfollowed := true, recurses := true, apart := false, narrowed := true }
def PlanModesUptoSaid : Prop := planModesUptoRow.holds Try.pinned (OpenSpec.upto planModesSpec)

/-- 'spolaw21.SpaceRuns', WHERE WHAT IT READS IS OF BULK AT MOST 1048576: true; the input reads as it did. -/
def spaceRunsUptoRow : OpenClaim := { program := "ytlddahifhefjiaa", sum := "cd247cfe157eac22774e7042d018315201b15f51d832f8c4ae1bb5aa11d71faa", func := "spolia/spolaw21.SpaceRuns", spec := "spaceRuns", unfollowed := true, recurses := true, apart := false, narrowed := true }
def SpaceRunsUptoSaid : Prop := spaceRunsUptoRow.holds Try.pinned (OpenSpec.upto spaceRunsSpec)

/-- 'spolaw21.SpaceStocks', WHERE WHAT IT READS IS OF BULK AT MOST 1048576: true; the input reads as it did. -/
def spaceStocksUptoRow : OpenClaim := { program := "ytlddahifhefjiaa", sum := "cd247cfe157eac22774e7042d018315201b15f51d832f8c4ae1bb5aa11d71faa", func := "spolia/spolaw21.SpaceStocks", spec := "spaceStocks", unfollowed := true, recurses := true, apart := false, narrowed := true }
def SpaceStocksUptoSaid : Prop := spaceStocksUptoRow.holds Try.pinned (OpenSpec.upto spaceStocksSpec)

/-- 'spolaw17.HaulSteps', WHERE WHAT IT READS IS OF BULK AT MOST 1048576: true; the input reads as it did. -/
def haulStepsUptoRow : OpenClaim := { program := "ytlddahifhefjiaa", sum := "cd247cfe157eac22774e7042d018315201b15f51d832f8c4ae1bb5aa11d71faa", func := "spolia/spolaw17.HaulSteps", spec := "haulSteps", inPlace := ["math.Float64bits"], unfollowed := true, recurses := true, apart := false, narrowed := true }
def HaulStepsUptoSaid : Prop := haulStepsUptoRow.holds Try.pinned (OpenSpec.upto haulStepsSpec)

end Rows
end Go.Proofs.Ytlddahifhefjiaa
