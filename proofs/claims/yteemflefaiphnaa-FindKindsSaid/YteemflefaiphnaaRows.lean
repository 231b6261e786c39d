/-
  No cell of these rows narrows 'for every input' (looked for: loops, veiled, ifaces, maps, wideKeys, modest, calm, conditions, laid).
  DERIVED. THE GIVEN ROWS OF THIS SEAT. 10 by the template 'for every input the law returns true; each argument reads behind the call as it read before'; 0 by the template 'total and deterministic' (their statements: YteemflefaiphnaaTotals.lean).
  GIVEN WITH THE SEED: the statements are not yours to turn. If you find one false, say at which input.
  Laid BY PROGRAM, IN A SANDBOX (cutbox-rows.mjs): the forced cells as the released guide's own fill.sh prints them over the translation 3b047cf201105a56… (all of the seat's roots in one cut). By AI agents, Wed Nov 11 2026. No macro, syntax, notation, axiom, sorry.
-/
import Derived.Test.YteemflefaiphnaaChecked
import GoSem.Claim
import GoSem.ClaimJoined
import GoSem.ClaimMapViews
import Derived.JoinedTies
import Derived.KernelRfl
namespace Go.Proofs.Yteemflefaiphnaa
/- THE CELL 'sum', in the pinned program and in every row, IS THE sha256 OF THE DUMP (.gsa) THAT YteemflefaiphnaaProg.lean LOADS. Nothing in Lean hashes anything: it is a label: what it is worth is what the hold of that sum in a sandbox is worth. -/
noncomputable def Try.pinned : Pinned := { name := "yteemflefaiphnaa", sum := "3b047cf201105a5603f468f06dbdcb8a47e4daa4bd142e9a48b2e0803b8a2d20", checked := Try.checked }
namespace Rows
def none {H : Type} : Left H := { results := [], args := [] }

/-- 'spolaw17.HaulSteps': WHATEVER THE INPUT: true; the input reads as it did. -/
def haulStepsSpec : ChangeSpec := { name := "haulSteps", fn := fun _ => fun
  | [d1, d2, d3] => { results := [.lit (.bool true)], args := [d1, d2, d3] }
  | _ => none }
def haulStepsRow : OpenClaim := { program := "yteemflefaiphnaa", sum := "3b047cf201105a5603f468f06dbdcb8a47e4daa4bd142e9a48b2e0803b8a2d20", func := "spolia/spolaw17.HaulSteps", spec := "haulSteps", inPlace := ["math.Float64bits"], unfollowed := true, recurses := true, apart := false }
def HaulStepsSaid : Prop := haulStepsRow.holds Try.pinned (OpenSpec.ofChange haulStepsSpec)

/-- ITS FALSE NEIGHBOUR: 'it returns false'. Refute it at one input. -/
def haulStepsWrong : ChangeSpec := { name := "haulSteps", fn := fun _ => fun
  | [d1, d2, d3] => { results := [.lit (.bool false)], args := [d1, d2, d3] }
  | _ => none }
def HaulStepsWrongFalsely : Prop := haulStepsRow.holds Try.pinned (OpenSpec.ofChange haulStepsWrong)

/-- 'spolaw12.PlanOnce': WHATEVER THE INPUT: true; the input reads as it did. -/
def planOnceSpec : ChangeSpec := { name := "planOnce", fn := fun _ => fun
  | [d1, d2, d3, d4, d5] => { results := [.lit (.bool true)], args := [d1, d2, d3, d4, d5] }
  | _ => none }
def planOnceRow : OpenClaim := { program := "yteemflefaiphnaa", sum := "3b047cf201105a5603f468f06dbdcb8a47e4daa4bd142e9a48b2e0803b8a2d20", func := "spolia/spolaw12.PlanOnce", spec := "planOnce", unfollowed := true, recurses := true, apart := false }
def PlanOnceSaid : Prop := planOnceRow.holds Try.pinned (OpenSpec.ofChange planOnceSpec)

/-- ITS FALSE NEIGHBOUR: 'it returns false'. Refute it at one input. -/
def planOnceWrong : ChangeSpec := { name := "planOnce", fn := fun _ => fun
  | [d1, d2, d3, d4, d5] => { results := [.lit (.bool false)], args := [d1, d2, d3, d4, d5] }
  | _ => none }
def PlanOnceWrongFalsely : Prop := planOnceRow.holds Try.pinned (OpenSpec.ofChange planOnceWrong)

/-- 'spolaw12.PlanTells': WHATEVER THE INPUT: true; the input reads as it did. -/
def planTellsSpec : ChangeSpec := { name := "planTells", fn := fun _ => fun
  | [d1, d2, d3, d4, d5] => { results := [.lit (.bool true)], args := [d1, d2, d3, d4, d5] }
  | _ => none }
def planTellsRow : OpenClaim := { program := "yteemflefaiphnaa", sum := "3b047cf201105a5603f468f06dbdcb8a47e4daa4bd142e9a48b2e0803b8a2d20", func := "spolia/spolaw12.PlanTells", spec := "planTells", inPlace := ["math.Float64bits"], unfollowed := true, recurses := true, apart := false }
def PlanTellsSaid : Prop := planTellsRow.holds Try.pinned (OpenSpec.ofChange planTellsSpec)

/-- ITS FALSE NEIGHBOUR: 'it returns false'. Refute it at one input. -/
def planTellsWrong : ChangeSpec := { name := "planTells", fn := fun _ => fun
  | [d1, d2, d3, d4, d5] => { results := [.lit (.bool false)], args := [d1, d2, d3, d4, d5] }
  | _ => none }
def PlanTellsWrongFalsely : Prop := planTellsRow.holds Try.pinned (OpenSpec.ofChange planTellsWrong)

/-- 'spolaw12.PlanModes': WHATEVER THE INPUT: true; the input reads as it did. -/
def planModesSpec : ChangeSpec := { name := "planModes", fn := fun _ => fun
  | [d1, d2, d3, d4, d5] => { results := [.lit (.bool true)], args := [d1, d2, d3, d4, d5] }
  | _ => none }
def planModesRow : OpenClaim := { program := "yteemflefaiphnaa", sum := "3b047cf201105a5603f468f06dbdcb8a47e4daa4bd142e9a48b2e0803b8a2d20", func := "spolia/spolaw12.PlanModes", spec := "planModes", inPlace := ["math.Float64bits"], unfollowed := true, recurses := true, apart := false }
def PlanModesSaid : Prop := planModesRow.holds Try.pinned (OpenSpec.ofChange planModesSpec)

/-- ITS FALSE NEIGHBOUR: 'it returns false'. Refute it at one input. -/
def planModesWrong : ChangeSpec := { name := "planModes", fn := fun _ => fun
  | [d1, d2, d3, d4, d5] => { results := [.lit (.bool false)], args := [d1, d2, d3, d4, d5] }
  | _ => none }
def PlanModesWrongFalsely : Prop := planModesRow.holds Try.pinned (OpenSpec.ofChange planModesWrong)

/-- 'spolaw17.HaulBack': WHATEVER THE INPUT: true; the input reads as it did. -/
def haulBackSpec : ChangeSpec := { name := "haulBack", fn := fun _ => fun
  | [d] => { results := [.lit (.bool true)], args := [d] }
  | _ => none }
def haulBackRow : OpenClaim := { program := "yteemflefaiphnaa", sum := "3b047cf201105a5603f468f06dbdcb8a47e4daa4bd142e9a48b2e0803b8a2d20", func := "spolia/spolaw17.HaulBack", spec := "haulBack", inPlace := ["math.Float64bits"], unfollowed := true, recurses := true, apart := false }
def HaulBackSaid : Prop := haulBackRow.holds Try.pinned (OpenSpec.ofChange haulBackSpec)

/-- ITS FALSE NEIGHBOUR: 'it returns false'. Refute it at one input. -/
def haulBackWrong : ChangeSpec := { name := "haulBack", fn := fun _ => fun
  | [d] => { results := [.lit (.bool false)], args := [d] }
  | _ => none }
def HaulBackWrongFalsely : Prop := haulBackRow.holds Try.pinned (OpenSpec.ofChange haulBackWrong)

/-- 'spolaw17.HaulSame': WHATEVER THE INPUT: true; the input reads as it did. -/
def haulSameSpec : ChangeSpec := { name := "haulSame", fn := fun _ => fun
  | [d1, d2, d3] => { results := [.lit (.bool true)], args := [d1, d2, d3] }
  | _ => none }
def haulSameRow : OpenClaim := { program := "yteemflefaiphnaa", sum := "3b047cf201105a5603f468f06dbdcb8a47e4daa4bd142e9a48b2e0803b8a2d20", func := "spolia/spolaw17.HaulSame", spec := "haulSame", inPlace := ["math.Float64bits"], unfollowed := true, recurses := true, apart := false }
def HaulSameSaid : Prop := haulSameRow.holds Try.pinned (OpenSpec.ofChange haulSameSpec)

/-- ITS FALSE NEIGHBOUR: 'it returns false'. Refute it at one input. -/
def haulSameWrong : ChangeSpec := { name := "haulSame", fn := fun _ => fun
  | [d1, d2, d3] => { results := [.lit (.bool false)], args := [d1, d2, d3] }
  | _ => none }
def HaulSameWrongFalsely : Prop := haulSameRow.holds Try.pinned (OpenSpec.ofChange haulSameWrong)

/-- 'spolaw21.SpaceServes': WHATEVER THE INPUT: true; the input reads as it did. -/
def spaceServesSpec : ChangeSpec := { name := "spaceServes", fn := fun _ => fun
  | [d1, d2] => { results := [.lit (.bool true)], args := [d1, d2] }
  | _ => none }
def spaceServesRow : OpenClaim := { program := "yteemflefaiphnaa", sum := "3b047cf201105a5603f468f06dbdcb8a47e4daa4bd142e9a48b2e0803b8a2d20", func := "spolia/spolaw21.SpaceServes", spec := "spaceServes", unfollowed := true, recurses := true, apart := false }
def SpaceServesSaid : Prop := spaceServesRow.holds Try.pinned (OpenSpec.ofChange spaceServesSpec)

/-- ITS FALSE NEIGHBOUR: 'it returns false'. Refute it at one input. -/
def spaceServesWrong : ChangeSpec := { name := "spaceServes", fn := fun _ => fun
  | [d1, d2] => { results := [.lit (.bool false)], args := [d1, d2] }
  | _ => none }
def SpaceServesWrongFalsely : Prop := spaceServesRow.holds Try.pinned (OpenSpec.ofChange spaceServesWrong)

/-- 'spolaw21.SpaceWhole': WHATEVER THE INPUT: true; the input reads as it did. -/
def spaceWholeSpec : ChangeSpec := { name := "spaceWhole", fn := fun _ => fun
  | [d1, d2] => { results := [.lit (.bool true)], args := [d1, d2] }
  | _ => none }
def spaceWholeRow : OpenClaim := { program := "yteemflefaiphnaa", sum := "3b047cf201105a5603f468f06dbdcb8a47e4daa4bd142e9a48b2e0803b8a2d20", func := "spolia/spolaw21.SpaceWhole", spec := "spaceWhole", unfollowed := true, recurses := true, apart := false }
def SpaceWholeSaid : Prop := spaceWholeRow.holds Try.pinned (OpenSpec.ofChange spaceWholeSpec)

/-- ITS FALSE NEIGHBOUR: 'it returns false'. Refute it at one input. -/
def spaceWholeWrong : ChangeSpec := { name := "spaceWhole", fn := fun _ => fun
  | [d1, d2] => { results := [.lit (.bool false)], args := [d1, d2] }
  | _ => none }
def SpaceWholeWrongFalsely : Prop := spaceWholeRow.holds Try.pinned (OpenSpec.ofChange spaceWholeWrong)

/-- 'spolaw13.FindFar': WHATEVER THE INPUT: true; the input reads as it did. -/
def findFarSpec : ChangeSpec := { name := "findFar", fn := fun _ => fun
  | [d1, d2, d3] => { results := [.lit (.bool true)], args := [d1, d2, d3] }
  | _ => none }
def findFarRow : OpenClaim := { program := "yteemflefaiphnaa", sum := "3b047cf201105a5603f468f06dbdcb8a47e4daa4bd142e9a48b2e0803b8a2d20", func := "spolia/spolaw13.FindFar", spec := "findFar", inPlace := ["math.Float64bits"], unfollowed := true, recurses := true, apart := false }
def FindFarSaid : Prop := findFarRow.holds Try.pinned (OpenSpec.ofChange findFarSpec)

/-- ITS FALSE NEIGHBOUR: 'it returns false'. Refute it at one input. -/
def findFarWrong : ChangeSpec := { name := "findFar", fn := fun _ => fun
  | [d1, d2, d3] => { results := [.lit (.bool false)], args := [d1, d2, d3] }
  | _ => none }
def FindFarWrongFalsely : Prop := findFarRow.holds Try.pinned (OpenSpec.ofChange findFarWrong)

/-- 'spolaw13.FindKinds': WHATEVER THE INPUT: true; the input reads as it did. -/
def findKindsSpec : ChangeSpec := { name := "findKinds", fn := fun _ => fun
  | [d1, d2, d3, d4, d5, d6] => { results := [.lit (.bool true)], args := [d1, d2, d3, d4, d5, d6] }
  | _ => none }
def findKindsRow : OpenClaim := { program := "yteemflefaiphnaa", sum := "3b047cf201105a5603f468f06dbdcb8a47e4daa4bd142e9a48b2e0803b8a2d20", func := "spolia/spolaw13.FindKinds", spec := "findKinds", inPlace := ["math.Float64bits"], unfollowed := true, recurses := true, apart := false }
def FindKindsSaid : Prop := findKindsRow.holds Try.pinned (OpenSpec.ofChange findKindsSpec)

/-- ITS FALSE NEIGHBOUR: 'it returns false'. Refute it at one input. -/
def findKindsWrong : ChangeSpec := { name := "findKinds", fn := fun _ => fun
  | [d1, d2, d3, d4, d5, d6] => { results := [.lit (.bool false)], args := [d1, d2, d3, d4, d5, d6] }
  | _ => none }
def FindKindsWrongFalsely : Prop := findKindsRow.holds Try.pinned (OpenSpec.ofChange findKindsWrong)

/- THE SECOND FORM. 'bulk': how many values and letters a reading holds, each counted each time it is reached (what is shared counts as often as it is met; a slice's spare places count too). A statement '..UptoSaid' is the law's where the arguments, and the package variables that the reading takes, are together of bulk at most 1048576: NARROWER than '..Said'. Prove '..Said' where nothing that the law and all that it calls make is longer than what came in: it says more and counts as full. Else prove '..UptoSaid'. A law counts once. -/
mutual
def uptoBulk {H : Type} : DataW H → Nat
  | .lit (.string bytes) => bytes.length + 1
  | .lit _ => 1
  | .nil => 1
  | .ptr d => uptoBulk d + 1
  | .slice elems spare => uptoBulkAll elems + uptoBulkAll spare + 1
  | .agg parts => uptoBulkAll parts + 1
  | .iface _ d => uptoBulk d + 1
  | .map entries => uptoBulkEntries entries + 1
  | .held _ => 1
def uptoBulkAll {H : Type} : List (DataW H) → Nat
  | [] => 0
  | d :: r => uptoBulk d + uptoBulkAll r
def uptoBulkEntries {H : Type} : List (Lit × DataW H) → Nat
  | [] => 0
  | x :: r => uptoBulkEntry x + uptoBulkEntries r
def uptoBulkEntry {H : Type} : Lit × DataW H → Nat
  | (.string bytes, d) => bytes.length + uptoBulk d + 1
  | (_, d) => uptoBulk d + 1
 end
def uptoSmall : (H : Type) → List (DataW H) → Bool := fun _ ds => decide (uptoBulkAll ds ≤ 1048576)
def OpenSpec.upto (s : _root_.Go.ChangeSpec) : _root_.Go.OpenSpec := { _root_.Go.OpenSpec.ofChange s with cond := some uptoSmall }

/-- 'spolaw17.HaulSteps', WHERE WHAT IT READS IS OF BULK AT MOST 1048576: true; the input reads as it did. -/
def haulStepsUptoRow : OpenClaim := { program := "yteemflefaiphnaa", sum := "3b047cf201105a5603f468f06dbdcb8a47e4daa4bd142e9a48b2e0803b8a2d20", func := "spolia/spolaw17.HaulSteps", spec := "haulSteps", inPlace := ["math.Float64bits"], unfollowed := true, recurses := true, apart := false, narrowed := true }
def HaulStepsUptoSaid : Prop := haulStepsUptoRow.holds Try.pinned (OpenSpec.upto haulStepsSpec)

/-- 'spolaw12.PlanOnce', WHERE WHAT IT READS IS OF BULK AT MOST 1048576: true; the input reads as it did. -/
def planOnceUptoRow : OpenClaim := { program := "yteemflefaiphnaa", sum := "3b047cf201105a5603f468f06dbdcb8a47e4daa4bd142e9a48b2e0803b8a2d20", func := "spolia/spolaw12.PlanOnce", spec := "planOnce", unfollowed := true, recurses := true, apart := false, narrowed := true }
def PlanOnceUptoSaid : Prop := planOnceUptoRow.holds Try.pinned (OpenSpec.upto planOnceSpec)

/-- 'spolaw12.PlanTells', WHERE WHAT IT READS IS OF BULK AT MOST 1048576: true; the input reads as it did. -/
def planTellsUptoRow : OpenClaim := { program := "yteemflefaiphnaa", sum := "3b047cf201105a5603f468f06dbdcb8a47e4daa4bd142e9a48b2e0803b8a2d20", func := "spolia/spolaw12.PlanTells", spec := "planTells", inPlace := ["math.Float64bits"], unfollowed := true, recurses := true, apart := false, narrowed := true }
def PlanTellsUptoSaid : Prop := planTellsUptoRow.holds Try.pinned (OpenSpec.upto planTellsSpec)

/-- 'spolaw12.PlanModes', WHERE WHAT IT READS IS OF BULK AT MOST 1048576: true; the input reads as it did. -/
def planModesUptoRow : OpenClaim := { program := "yteemflefaiphnaa", sum := "3b047cf201105a5603f468f06dbdcb8a47e4daa4bd142e9a48b2e0803b8a2d20", func := "spolia/spolaw12.PlanModes", spec := "planModes", inPlace := ["math.Float64bits"], unfollowed := true, recurses := true, apart := false, narrowed := true }
def PlanModesUptoSaid : Prop := planModesUptoRow.holds Try.pinned (OpenSpec.upto planModesSpec)

/-- 'spolaw17.HaulBack', WHERE WHAT IT READS IS OF BULK AT MOST 1048576: true; the input reads as it did. -/
def haulBackUptoRow : OpenClaim := { program := "yteemflefaiphnaa", sum := "3b047cf201105a5603f468f06dbdcb8a47e4daa4bd142e9a48b2e0803b8a2d20", func := "spolia/spolaw17.HaulBack", spec := "haulBack", inPlace := ["math.Float64bits"], unfollowed := true, recurses := true, apart := false, narrowed := true }
def HaulBackUptoSaid : Prop := haulBackUptoRow.holds Try.pinned (OpenSpec.upto haulBackSpec)

/-- 'spolaw17.HaulSame', WHERE WHAT IT READS IS OF BULK AT MOST 1048576: true; the input reads as it did. -/
def haulSameUptoRow : OpenClaim := { program := "yteemflefaiphnaa", sum := "3b047cf201105a5603f468f06dbdcb8a47e4daa4bd142e9a48b2e0803b8a2d20", func := "spolia/spolaw17.HaulSame", spec := "haulSame", inPlace := ["math.Float64bits"], unfollowed := true, recurses := true, apart := false, narrowed := true }
def HaulSameUptoSaid : Prop := haulSameUptoRow.holds Try.pinned (OpenSpec.upto haulSameSpec)

/-- 'spolaw21.SpaceServes', WHERE WHAT IT READS IS OF BULK AT MOST 1048576: true; the input reads as it did. -/
def spaceServesUptoRow : OpenClaim := { program := "yteemflefaiphnaa", sum := "3b047cf201105a5603f468f06dbdcb8a47e4daa4bd142e9a48b2e0803b8a2d20", func := "spolia/spolaw21.SpaceServes", spec := "spaceServes", unfollowed := true, recurses := true, apart := false, narrowed := true }
def SpaceServesUptoSaid : Prop := spaceServesUptoRow.holds Try.pinned (OpenSpec.upto spaceServesSpec)

/-- 'spolaw21.SpaceWhole', WHERE WHAT IT READS IS OF BULK AT MOST 1048576: true; the input reads as it did. -/
def spaceWholeUptoRow : OpenClaim := { program := "yteemflefaiphnaa", sum := "3b047cf201105a5603f468f06dbdcb8a47e4daa4bd142e9a48b2e0803b8a2d20", func := "spolia/spolaw21.SpaceWhole", spec := "spaceWhole", unfollowed := true, recurses := true, apart := false, narrowed := true }
def SpaceWholeUptoSaid : Prop := spaceWholeUptoRow.holds Try.pinned (OpenSpec.upto spaceWholeSpec)

/-- 'spolaw13.FindFar', WHERE WHAT IT READS IS OF BULK AT MOST 1048576: true; the input reads as it did. -/
def findFarUptoRow : OpenClaim := { program := "yteemflefaiphnaa", sum := "3b047cf201105a5603f468f06dbdcb8a47e4daa4bd142e9a48b2e0803b8a2d20", func := "spolia/spolaw13.FindFar", spec := "findFar", inPlace := ["math.Float64bits"], unfollowed := true, recurses := true, apart := false, narrowed := true }
def FindFarUptoSaid : Prop := findFarUptoRow.holds Try.pinned (OpenSpec.upto findFarSpec)

/-- 'spolaw13.FindKinds', WHERE WHAT IT READS IS OF BULK AT MOST 1048576: true; the input reads as it did. -/
def findKindsUptoRow : OpenClaim := { program := "yteemflefaiphnaa", sum := "3b047cf201105a5603f468f06dbdcb8a47e4daa4bd142e9a48b2e0803b8a2d20", func := "spolia/spolaw13.FindKinds", spec := "findKinds", inPlace := ["math.Float64bits"], unfollowed := true, recurses := true, apart := false, narrowed := true }
def FindKindsUptoSaid : Prop := findKindsUptoRow.holds Try.pinned (OpenSpec.upto findKindsSpec)

end Rows
end Go.Proofs.Yteemflefaiphnaa
