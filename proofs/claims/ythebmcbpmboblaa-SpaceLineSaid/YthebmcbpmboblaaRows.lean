/-
  No cell of these rows narrows 'for every input' (looked for: loops, veiled, ifaces, maps, wideKeys, modest, calm, conditions, laid).
  DERIVED. THE GIVEN ROWS OF THIS SEAT. 11 by the template 'for every input the law returns true; each argument reads behind the call as it read before'; 0 by the template 'total and deterministic' (their statements: YthebmcbpmboblaaTotals.lean).
  GIVEN WITH THE SEED: the statements are not yours to turn. If you find one false, say at which input.
  Laid BY PROGRAM, IN A SANDBOX (cutbox-rows.mjs): the forced cells as the released guide's own fill.sh prints them over the translation 08a91371f1b07382… (all of the seat's roots in one cut). By AI agents, Wed Nov 11 2026. No macro, syntax, notation, axiom, sorry.
-/
import Derived.Test.YthebmcbpmboblaaChecked
import GoSem.Claim
import GoSem.ClaimJoined
import GoSem.ClaimMapViews
import Derived.JoinedTies
import Derived.KernelRfl
namespace Go.Proofs.Ythebmcbpmboblaa
/- THE CELL 'sum', in the pinned program and in every row, IS THE sha256 OF THE DUMP (.gsa) THAT YthebmcbpmboblaaProg.lean LOADS. Nothing in Lean hashes anything: it is a label: what it is worth is what the hold of that sum in a sandbox is worth. -/
noncomputable def Try.pinned : Pinned := { name := "ythebmcbpmboblaa", sum := "08a91371f1b07382b343a5692b76e0310a8341003d3f5fecce2140d6eddbdc3e", checked := Try.checked }
namespace Rows
def none {H : Type} : Left H := { results := [], args := [] }

/-- 'spolaw22.CoreMade': WHATEVER THE INPUT: true; the input reads as it did. -/
def coreMadeSpec : ChangeSpec := { name := "coreMade", fn := fun _ => fun
  | [d] => { results := [.lit (.bool true)], args := [d] }
  | _ => none }
def coreMadeRow : OpenClaim := { program := "ythebmcbpmboblaa", sum := "08a91371f1b07382b343a5692b76e0310a8341003d3f5fecce2140d6eddbdc3e", func := "spolia/spolaw22.CoreMade", spec := "coreMade", inPlace := ["math.Float64bits"], unfollowed := true, recurses := true, apart := false }
def CoreMadeSaid : Prop := coreMadeRow.holds Try.pinned (OpenSpec.ofChange coreMadeSpec)

/-- ITS FALSE NEIGHBOUR: 'it returns false'. Refute it at one input. -/
def coreMadeWrong : ChangeSpec := { name := "coreMade", fn := fun _ => fun
  | [d] => { results := [.lit (.bool false)], args := [d] }
  | _ => none }
def CoreMadeWrongFalsely : Prop := coreMadeRow.holds Try.pinned (OpenSpec.ofChange coreMadeWrong)

/-- 'spolaw17.HaulSteps': WHATEVER THE INPUT: true; the input reads as it did. -/
def haulStepsSpec : ChangeSpec := { name := "haulSteps", fn := fun _ => fun
  | [d1, d2, d3] => { results := [.lit (.bool true)], args := [d1, d2, d3] }
  | _ => none }
def haulStepsRow : OpenClaim := { program := "ythebmcbpmboblaa", sum := "08a91371f1b07382b343a5692b76e0310a8341003d3f5fecce2140d6eddbdc3e", func := "spolia/spolaw17.HaulSteps", spec := "haulSteps", inPlace := ["math.Float64bits"], unfollowed := true, recurses := true, apart := false }
def HaulStepsSaid : Prop := haulStepsRow.holds Try.pinned (OpenSpec.ofChange haulStepsSpec)

/-- ITS FALSE NEIGHBOUR: 'it returns false'. Refute it at one input. -/
def haulStepsWrong : ChangeSpec := { name := "haulSteps", fn := fun _ => fun
  | [d1, d2, d3] => { results := [.lit (.bool false)], args := [d1, d2, d3] }
  | _ => none }
def HaulStepsWrongFalsely : Prop := haulStepsRow.holds Try.pinned (OpenSpec.ofChange haulStepsWrong)

/-- 'spolaw12.PlanOnce': WHATEVER THE INPUT: true; the input reads as it did. -/
def planOnceSpec : ChangeSpec := { name := "planOnce", fn := fun _ => fun
  | [d1, d2, d3, d4, d5] => { results := [.lit (.bool true)], args := [d1, d2, d3, d4, d5] }
  | _ => none }
def planOnceRow : OpenClaim := { program := "ythebmcbpmboblaa", sum := "08a91371f1b07382b343a5692b76e0310a8341003d3f5fecce2140d6eddbdc3e", func := "spolia/spolaw12.PlanOnce", spec := "planOnce", unfollowed := true, recurses := true, apart := false }
def PlanOnceSaid : Prop := planOnceRow.holds Try.pinned (OpenSpec.ofChange planOnceSpec)

/-- ITS FALSE NEIGHBOUR: 'it returns false'. Refute it at one input. -/
def planOnceWrong : ChangeSpec := { name := "planOnce", fn := fun _ => fun
  | [d1, d2, d3, d4, d5] => { results := [.lit (.bool false)], args := [d1, d2, d3, d4, d5] }
  | _ => none }
def PlanOnceWrongFalsely : Prop := planOnceRow.holds Try.pinned (OpenSpec.ofChange planOnceWrong)

/-- 'spolaw12.PlanTells': WHATEVER THE INPUT: true; the input reads as it did. -/
def planTellsSpec : ChangeSpec := { name := "planTells", fn := fun _ => fun
  | [d1, d2, d3, d4, d5] => { results := [.lit (.bool true)], args := [d1, d2, d3, d4, d5] }
  | _ => none }
def planTellsRow : OpenClaim := { program := "ythebmcbpmboblaa", sum := "08a91371f1b07382b343a5692b76e0310a8341003d3f5fecce2140d6eddbdc3e", func := "spolia/spolaw12.PlanTells", spec := "planTells", inPlace := ["math.Float64bits"], unfollowed := true, recurses := true, apart := false }
def PlanTellsSaid : Prop := planTellsRow.holds Try.pinned (OpenSpec.ofChange planTellsSpec)

/-- ITS FALSE NEIGHBOUR: 'it returns false'. Refute it at one input. -/
def planTellsWrong : ChangeSpec := { name := "planTells", fn := fun _ => fun
  | [d1, d2, d3, d4, d5] => { results := [.lit (.bool false)], args := [d1, d2, d3, d4, d5] }
  | _ => none }
def PlanTellsWrongFalsely : Prop := planTellsRow.holds Try.pinned (OpenSpec.ofChange planTellsWrong)

/-- 'spolaw12.PlanModes': WHATEVER THE INPUT: true; the input reads as it did. -/
def planModesSpec : ChangeSpec := { name := "planModes", fn := fun _ => fun
  | [d1, d2, d3, d4, d5] => { results := [.lit (.bool true)], args := [d1, d2, d3, d4, d5] }
  | _ => none }
def planModesRow : OpenClaim := { program := "ythebmcbpmboblaa", sum := "08a91371f1b07382b343a5692b76e0310a8341003d3f5fecce2140d6eddbdc3e", func := "spolia/spolaw12.PlanModes", spec := "planModes", inPlace := ["math.Float64bits"], unfollowed := true, recurses := true, apart := false }
def PlanModesSaid : Prop := planModesRow.holds Try.pinned (OpenSpec.ofChange planModesSpec)

/-- ITS FALSE NEIGHBOUR: 'it returns false'. Refute it at one input. -/
def planModesWrong : ChangeSpec := { name := "planModes", fn := fun _ => fun
  | [d1, d2, d3, d4, d5] => { results := [.lit (.bool false)], args := [d1, d2, d3, d4, d5] }
  | _ => none }
def PlanModesWrongFalsely : Prop := planModesRow.holds Try.pinned (OpenSpec.ofChange planModesWrong)

/-- 'spolaw17.HaulBack': WHATEVER THE INPUT: true; the input reads as it did. -/
def haulBackSpec : ChangeSpec := { name := "haulBack", fn := fun _ => fun
  | [d] => { results := [.lit (.bool true)], args := [d] }
  | _ => none }
def haulBackRow : OpenClaim := { program := "ythebmcbpmboblaa", sum := "08a91371f1b07382b343a5692b76e0310a8341003d3f5fecce2140d6eddbdc3e", func := "spolia/spolaw17.HaulBack", spec := "haulBack", inPlace := ["math.Float64bits"], unfollowed := true, recurses := true, apart := false }
def HaulBackSaid : Prop := haulBackRow.holds Try.pinned (OpenSpec.ofChange haulBackSpec)

/-- ITS FALSE NEIGHBOUR: 'it returns false'. Refute it at one input. -/
def haulBackWrong : ChangeSpec := { name := "haulBack", fn := fun _ => fun
  | [d] => { results := [.lit (.bool false)], args := [d] }
  | _ => none }
def HaulBackWrongFalsely : Prop := haulBackRow.holds Try.pinned (OpenSpec.ofChange haulBackWrong)

/-- 'spolaw17.HaulSame': WHATEVER THE INPUT: true; the input reads as it did. -/
def haulSameSpec : ChangeSpec := { name := "haulSame", fn := fun _ => fun
  | [d1, d2, d3] => { results := [.lit (.bool true)], args := [d1, d2, d3] }
  | _ => none }
def haulSameRow : OpenClaim := { program := "ythebmcbpmboblaa", sum := "08a91371f1b07382b343a5692b76e0310a8341003d3f5fecce2140d6eddbdc3e", func := "spolia/spolaw17.HaulSame", spec := "haulSame", inPlace := ["math.Float64bits"], unfollowed := true, recurses := true, apart := false }
def HaulSameSaid : Prop := haulSameRow.holds Try.pinned (OpenSpec.ofChange haulSameSpec)

/-- ITS FALSE NEIGHBOUR: 'it returns false'. Refute it at one input. -/
def haulSameWrong : ChangeSpec := { name := "haulSame", fn := fun _ => fun
  | [d1, d2, d3] => { results := [.lit (.bool false)], args := [d1, d2, d3] }
  | _ => none }
def HaulSameWrongFalsely : Prop := haulSameRow.holds Try.pinned (OpenSpec.ofChange haulSameWrong)

/-- 'spolaw21.SpaceLine': WHATEVER THE INPUT: true; the input reads as it did. -/
def spaceLineSpec : ChangeSpec := { name := "spaceLine", fn := fun _ => fun
  | [d1, d2] => { results := [.lit (.bool true)], args := [d1, d2] }
  | _ => none }
def spaceLineRow : OpenClaim := { program := "ythebmcbpmboblaa", sum := "08a91371f1b07382b343a5692b76e0310a8341003d3f5fecce2140d6eddbdc3e", func := "spolia/spolaw21.SpaceLine", spec := "spaceLine", unfollowed := true, recurses := true, apart := false }
def SpaceLineSaid : Prop := spaceLineRow.holds Try.pinned (OpenSpec.ofChange spaceLineSpec)

/-- ITS FALSE NEIGHBOUR: 'it returns false'. Refute it at one input. -/
def spaceLineWrong : ChangeSpec := { name := "spaceLine", fn := fun _ => fun
  | [d1, d2] => { results := [.lit (.bool false)], args := [d1, d2] }
  | _ => none }
def SpaceLineWrongFalsely : Prop := spaceLineRow.holds Try.pinned (OpenSpec.ofChange spaceLineWrong)

/-- 'spolaw21.SpaceFails': WHATEVER THE INPUT: true; the input reads as it did. -/
def spaceFailsSpec : ChangeSpec := { name := "spaceFails", fn := fun _ => fun
  | [d] => { results := [.lit (.bool true)], args := [d] }
  | _ => none }
def spaceFailsRow : OpenClaim := { program := "ythebmcbpmboblaa", sum := "08a91371f1b07382b343a5692b76e0310a8341003d3f5fecce2140d6eddbdc3e", func := "spolia/spolaw21.SpaceFails", spec := "spaceFails", unfollowed := true, recurses := true, apart := false }
def SpaceFailsSaid : Prop := spaceFailsRow.holds Try.pinned (OpenSpec.ofChange spaceFailsSpec)

/-- ITS FALSE NEIGHBOUR: 'it returns false'. Refute it at one input. -/
def spaceFailsWrong : ChangeSpec := { name := "spaceFails", fn := fun _ => fun
  | [d] => { results := [.lit (.bool false)], args := [d] }
  | _ => none }
def SpaceFailsWrongFalsely : Prop := spaceFailsRow.holds Try.pinned (OpenSpec.ofChange spaceFailsWrong)

/-- 'spolaw21.SpaceServes': WHATEVER THE INPUT: true; the input reads as it did. -/
def spaceServesSpec : ChangeSpec := { name := "spaceServes", fn := fun _ => fun
  | [d1, d2] => { results := [.lit (.bool true)], args := [d1, d2] }
  | _ => none }
def spaceServesRow : OpenClaim := { program := "ythebmcbpmboblaa", sum := "08a91371f1b07382b343a5692b76e0310a8341003d3f5fecce2140d6eddbdc3e", func := "spolia/spolaw21.SpaceServes", spec := "spaceServes", unfollowed := true, recurses := true, apart := false }
def SpaceServesSaid : Prop := spaceServesRow.holds Try.pinned (OpenSpec.ofChange spaceServesSpec)

/-- ITS FALSE NEIGHBOUR: 'it returns false'. Refute it at one input. -/
def spaceServesWrong : ChangeSpec := { name := "spaceServes", fn := fun _ => fun
  | [d1, d2] => { results := [.lit (.bool false)], args := [d1, d2] }
  | _ => none }
def SpaceServesWrongFalsely : Prop := spaceServesRow.holds Try.pinned (OpenSpec.ofChange spaceServesWrong)

/-- 'spolaw22.CoreCounts': WHATEVER THE INPUT: true; the input reads as it did. -/
def coreCountsSpec : ChangeSpec := { name := "coreCounts", fn := fun _ => fun
  | [d1, d2] => { results := [.lit (.bool true)], args := [d1, d2] }
  | _ => none }
def coreCountsRow : OpenClaim := { program := "ythebmcbpmboblaa", sum := "08a91371f1b07382b343a5692b76e0310a8341003d3f5fecce2140d6eddbdc3e", func := "spolia/spolaw22.CoreCounts", spec := "coreCounts", unfollowed := true, recurses := true, apart := false }
def CoreCountsSaid : Prop := coreCountsRow.holds Try.pinned (OpenSpec.ofChange coreCountsSpec)

/-- ITS FALSE NEIGHBOUR: 'it returns false'. Refute it at one input. -/
def coreCountsWrong : ChangeSpec := { name := "coreCounts", fn := fun _ => fun
  | [d1, d2] => { results := [.lit (.bool false)], args := [d1, d2] }
  | _ => none }
def CoreCountsWrongFalsely : Prop := coreCountsRow.holds Try.pinned (OpenSpec.ofChange coreCountsWrong)

/- THE SECOND FORM. 'bulk': how many values and letters a reading holds, each counted each time it is reached (what is shared counts as often as it is met; a slice's spare places count too). A statement '..UptoSaid' is the law's where the arguments, and the package variables that the reading takes, are together of bulk at most 1048576: NARROWER than '..Said'. Prove '..Said' where nothing that the law and all that it calls make is longer than what came in: it says more and counts as full. Else prove '..UptoSaid'. A law counts once. -/
mutual
def uptoBulk {H : Type} : DataW H → Nat
  | .lit (.string bytes) => bytes.length + 1
  | .lit _ => 1
  | .nil => 1
  | .ptr d => uptoBulk d + 1
  | .slice elems spare => uptoBulkAll elems + uptoBulkAll spare + 1
  | .agg parts => uptoBulkAll parts + 1
  | .iface _ d => uptoBulk d + 1
  | .map entries => uptoBulkEntries entries + 1
  | .held _ => 1
def uptoBulkAll {H : Type} : List (DataW H) → Nat
  | [] => 0
  | d :: r => uptoBulk d + uptoBulkAll r
def uptoBulkEntries {H : Type} : List (Lit × DataW H) → Nat
  | [] => 0
  | x :: r => uptoBulkEntry x + uptoBulkEntries r
def uptoBulkEntry {H : Type} : Lit × DataW H → Nat
  | (.string bytes, d) => bytes.length + uptoBulk d + 1
  | (_, d) => uptoBulk d + 1
 end
def uptoSmall : (H : Type) → List (DataW H) → Bool := fun _ ds => decide (uptoBulkAll ds ≤ 1048576)
def OpenSpec.upto (s : _root_.Go.ChangeSpec) : _root_.Go.OpenSpec := { _root_.Go.OpenSpec.ofChange s with cond := some uptoSmall }

/-- 'spolaw22.CoreMade', WHERE WHAT IT READS IS OF BULK AT MOST 1048576: true; the input reads as it did. -/
def coreMadeUptoRow : OpenClaim := { program := "ythebmcbpmboblaa", sum := "08a91371f1b07382b343a5692b76e0310a8341003d3f5fecce2140d6eddbdc3e", func := "spolia/spolaw22.CoreMade", spec := "coreMade", inPlace := ["math.Float64bits"], unfollowed := true, recurses := true, apart := false, narrowed := true }
def CoreMadeUptoSaid : Prop := coreMadeUptoRow.holds Try.pinned (OpenSpec.upto coreMadeSpec)

/-- 'spolaw17.HaulSteps', WHERE WHAT IT READS IS OF BULK AT MOST 1048576: true; the input reads as it did. -/
def haulStepsUptoRow : OpenClaim := { program := "ythebmcbpmboblaa", sum := "08a91371f1b07382b343a5692b76e0310a8341003d3f5fecce2140d6eddbdc3e", func := "spolia/spolaw17.HaulSteps", spec := "haulSteps", inPlace := ["math.Float64bits"], unfollowed := true, recurses := true, apart := false, narrowed := true }
def HaulStepsUptoSaid : Prop := haulStepsUptoRow.holds Try.pinned (OpenSpec.upto haulStepsSpec)

/-- 'spolaw12.PlanOnce', WHERE WHAT IT READS IS OF BULK AT MOST 1048576: true; the input reads as it did. -/
def planOnceUptoRow : OpenClaim := { program := "ythebmcbpmboblaa", sum := "08a91371f1b07382b343a5692b76e0310a8341003d3f5fecce2140d6eddbdc3e", func := "spolia/spolaw12.PlanOnce", spec := "planOnce", unfollowed := true, recurses := true, apart := false, narrowed := true }
def PlanOnceUptoSaid : Prop := planOnceUptoRow.holds Try.pinned (OpenSpec.upto planOnceSpec)

/-- 'spolaw12.PlanTells', WHERE WHAT IT READS IS OF BULK AT MOST 1048576: true; the input reads as it did. -/
def planTellsUptoRow : OpenClaim := { program := "ythebmcbpmboblaa", sum := "08a91371f1b07382b343a5692b76e0310a8341003d3f5fecce2140d6eddbdc3e", func := "spolia/spolaw12.PlanTells", spec := "planTells", inPlace := ["math.Float64bits"], unfollowed := true, recurses := true, apart := false, narrowed := true }
def PlanTellsUptoSaid : Prop := planTellsUptoRow.holds Try.pinned (OpenSpec.upto planTellsSpec)

/-- 'spolaw12.PlanModes', WHERE WHAT IT READS IS OF BULK AT MOST 1048576: true; the input reads as it did. -/
def planModesUptoRow : OpenClaim := { program := "ythebmcbpmboblaa", sum := "08a91371f1b07382b343a5692b76e0310a8341003d3f5fecce2140d6eddbdc3e", func := "spolia/spolaw12.PlanModes", spec := "planModes", inPlace := ["math.Float64bits"], unfollowed := true, recurses := true, apart := false, narrowed := true }
def PlanModesUptoSaid : Prop := planModesUptoRow.holds Try.pinned (OpenSpec.upto planModesSpec)

/-- 'spolaw17.HaulBack', WHERE WHAT IT READS IS OF BULK AT MOST 1048576: true; the input reads as it did. -/
def haulBackUptoRow : OpenClaim := { program := "ythebmcbpmboblaa", sum := "08a91371f1b07382b343a5692b76e0310a8341003d3f5fecce2140d6eddbdc3e", func := "spolia/spolaw17.HaulBack", spec := "haulBack", inPlace := ["math.Float64bits"], unfollowed := true, recurses := true, apart := false, narrowed := true }
def HaulBackUptoSaid : Prop := haulBackUptoRow.holds Try.pinned (OpenSpec.upto haulBackSpec)

/-- 'spolaw17.HaulSame', WHERE WHAT IT READS IS OF BULK AT MOST 1048576: true; the input reads as it did. -/
def haulSameUptoRow : OpenClaim := { program := "ythebmcbpmboblaa", sum := "08a91371f1b07382b343a5692b76e0310a8341003d3f5fecce2140d6eddbdc3e", func := "spolia/spolaw17.HaulSame", spec := "haulSame", inPlace := ["math.Float64bits"], unfollowed := true, recurses := true, apart := false, narrowed := true }
def HaulSameUptoSaid : Prop := haulSameUptoRow.holds Try.pinned (OpenSpec.upto haulSameSpec)

/-- 'spolaw21.SpaceLine', WHERE WHAT IT READS IS OF BULK AT MOST 1048576: true; the input reads as it did. -/
def spaceLineUptoRow : OpenClaim := { program := "ythebmcbpmboblaa", sum := "08a91371f1b07382b343a5692b76e0310a8341003d3f5fecce2140d6eddbdc3e", func := "spolia/spolaw21.SpaceLine", spec := "spaceLine", unfollowed := true, recurses := true, apart := false, narrowed := true }
def SpaceLineUptoSaid : Prop := spaceLineUptoRow.holds Try.pinned (OpenSpec.upto spaceLineSpec)

/-- 'spolaw21.SpaceFails', WHERE WHAT IT READS IS OF BULK AT MOST 1048576: true; the input reads as it did. -/
def spaceFailsUptoRow : OpenClaim := { program := "ythebmcbpmboblaa", sum := "08a91371f1b07382b343a5692b76e0310a8341003d3f5fecce2140d6eddbdc3e", func := "spolia/spolaw21.SpaceFails", spec := "spaceFails", unfollowed := true, recurses := true, apart := false, narrowed := true }
def SpaceFailsUptoSaid : Prop := spaceFailsUptoRow.holds Try.pinned (OpenSpec.upto spaceFailsSpec)

/-- 'spolaw21.SpaceServes', WHERE WHAT IT READS IS OF BULK AT MOST 1048576: true; the input reads as it did. -/
def spaceServesUptoRow : OpenClaim := { program := "ythebmcbpmboblaa", sum := "08a91371f1b07382b343a5692b76e0310a8341003d3f5fecce2140d6eddbdc3e", func := "spolia/spolaw21.SpaceServes", spec := "spaceServes", unfollowed := true, recurses := true, apart := false, narrowed := true }
def SpaceServesUptoSaid : Prop := spaceServesUptoRow.holds Try.pinned (OpenSpec.upto spaceServesSpec)

/-- 'spolaw22.CoreCounts', WHERE WHAT IT READS IS OF BULK AT MOST 1048576: true; the input reads as it did. -/
def coreCountsUptoRow : OpenClaim := { program := "ythebmcbpmboblaa", sum := "08a91371f1b07382b343a5692b76e0310a8341003d3f5fecce2140d6eddbdc3e", func := "spolia/spolaw22.CoreCounts", spec := "coreCounts", unfollowed := true, recurses := true, apart := false, narrowed := true }
def CoreCountsUptoSaid : Prop := coreCountsUptoRow.holds Try.pinned (OpenSpec.upto coreCountsSpec)

end Rows
end Go.Proofs.Ythebmcbpmboblaa
