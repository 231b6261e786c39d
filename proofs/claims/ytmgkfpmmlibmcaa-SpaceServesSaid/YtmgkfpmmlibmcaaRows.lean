/-
  No cell of these rows narrows 'for every input' (looked for: loops, veiled, ifaces, maps, wideKeys, modest, calm, conditions, laid).
  DERIVED. THE GIVEN ROWS OF THIS SEAT. 11 by the template 'for every input the law returns true; each argument reads behind the call as it read before'; 0 by the template 'total and deterministic' (their statements: YtmgkfpmmlibmcaaTotals.lean).
  GIVEN WITH THE SEED: the statements are not yours to turn. If you find one false, say at which input.
  Laid BY PROGRAM, IN A SANDBOX (cutbox-rows.mjs): the forced cells as the released guide's own fill.sh prints them over the translation 7751e0a0eb38197c… (all of the seat's roots in one cut). By AI agents, Wed Nov 11 2026. No macro, syntax, notation, axiom, sorry.
-/
import Derived.Test.YtmgkfpmmlibmcaaChecked
import GoSem.Claim
import GoSem.ClaimJoined
import GoSem.ClaimMapViews
import Derived.JoinedTies
import Derived.KernelRfl
namespace Go.Proofs.Ytmgkfpmmlibmcaa
/- THE CELL 'sum', in the pinned program and in every row, IS THE sha256 OF THE DUMP (.gsa) THAT YtmgkfpmmlibmcaaProg.lean LOADS. Nothing in Lean hashes anything: it is a label: what it is worth is what the hold of that sum in a sandbox is worth. -/
noncomputable def Try.pinned : Pinned := { name := "ytmgkfpmmlibmcaa", sum := "7751e0a0eb38197c5889a59efe8143782c59b77f1c45eada91090468f01763a3", checked := Try.checked }
namespace Rows
def none {H : Type} : Left H := { results := [], args := [] }

/-- 'spolaw13.FindFar': WHATEVER THE INPUT: true; the input reads as it did. -/
def findFarSpec : ChangeSpec := { name := "findFar", fn := fun _ => fun
  | [d1, d2, d3] => { results := [.lit (.bool true)], args := [d1, d2, d3] }
  | _ => none }
def findFarRow : OpenClaim := { program := "ytmgkfpmmlibmcaa", sum := "7751e0a0eb38197c5889a59efe8143782c59b77f1c45eada91090468f01763a3", func := "spolia/spolaw13.FindFar", spec := "findFar", inPlace := ["math.Float64bits"], unfollowed := true, recurses := true, apart := false }
def FindFarSaid : Prop := findFarRow.holds Try.pinned (OpenSpec.ofChange findFarSpec)

/-- ITS FALSE NEIGHBOUR: 'it returns false'. Refute it at one input. -/
def findFarWrong : ChangeSpec := { name := "findFar", fn := fun _ => fun
  | [d1, d2, d3] => { results := [.lit (.bool false)], args := [d1, d2, d3] }
  | _ => none }
def FindFarWrongFalsely : Prop := findFarRow.holds Try.pinned (OpenSpec.ofChange findFarWrong)

/-- 'spolaw13.FindEach': WHATEVER THE INPUT: true; the input reads as it did. -/
def findEachSpec : ChangeSpec := { name := "findEach", fn := fun _ => fun
  | [d1, d2, d3, d4, d5] => { results := [.lit (.bool true)], args := [d1, d2, d3, d4, d5] }
  | _ => none }
def findEachRow : OpenClaim := { program := "ytmgkfpmmlibmcaa", sum := "7751e0a0eb38197c5889a59efe8143782c59b77f1c45eada91090468f01763a3", func := "spolia/spolaw13.FindEach", spec := "findEach", inPlace := ["math.Float64bits"], unfollowed := true, recurses := true, apart := false }
def FindEachSaid : Prop := findEachRow.holds Try.pinned (OpenSpec.ofChange findEachSpec)

/-- ITS FALSE NEIGHBOUR: 'it returns false'. Refute it at one input. -/
def findEachWrong : ChangeSpec := { name := "findEach", fn := fun _ => fun
  | [d1, d2, d3, d4, d5] => { results := [.lit (.bool false)], args := [d1, d2, d3, d4, d5] }
  | _ => none }
def FindEachWrongFalsely : Prop := findEachRow.holds Try.pinned (OpenSpec.ofChange findEachWrong)

/-- 'spolaw17.HaulSteps': WHATEVER THE INPUT: true; the input reads as it did. -/
def haulStepsSpec : ChangeSpec := { name := "haulSteps", fn := fun _ => fun
  | [d1, d2, d3] => { results := [.lit (.bool true)], args := [d1, d2, d3] }
  | _ => none }
def haulStepsRow : OpenClaim := { program := "ytmgkfpmmlibmcaa", sum := "7751e0a0eb38197c5889a59efe8143782c59b77f1c45eada91090468f01763a3", func := "spolia/spolaw17.HaulSteps", spec := "haulSteps", inPlace := ["math.Float64bits"], unfollowed := true, recurses := true, apart := false }
def HaulStepsSaid : Prop := haulStepsRow.holds Try.pinned (OpenSpec.ofChange haulStepsSpec)

/-- ITS FALSE NEIGHBOUR: 'it returns false'. Refute it at one input. -/
def haulStepsWrong : ChangeSpec := { name := "haulSteps", fn := fun _ => fun
  | [d1, d2, d3] => { results := [.lit (.bool false)], args := [d1, d2, d3] }
  | _ => none }
def HaulStepsWrongFalsely : Prop := haulStepsRow.holds Try.pinned (OpenSpec.ofChange haulStepsWrong)

/-- 'spolaw17.HaulBack': WHATEVER THE INPUT: true; the input reads as it did. -/
def haulBackSpec : ChangeSpec := { name := "haulBack", fn := fun _ => fun
  | [d] => { results := [.lit (.bool true)], args := [d] }
  | _ => none }
def haulBackRow : OpenClaim := { program := "ytmgkfpmmlibmcaa", sum := "7751e0a0eb38197c5889a59efe8143782c59b77f1c45eada91090468f01763a3", func := "spolia/spolaw17.HaulBack", spec := "haulBack", inPlace := ["math.Float64bits"], unfollowed := true, recurses := true, apart := false }
def HaulBackSaid : Prop := haulBackRow.holds Try.pinned (OpenSpec.ofChange haulBackSpec)

/-- ITS FALSE NEIGHBOUR: 'it returns false'. Refute it at one input. -/
def haulBackWrong : ChangeSpec := { name := "haulBack", fn := fun _ => fun
  | [d] => { results := [.lit (.bool false)], args := [d] }
  | _ => none }
def HaulBackWrongFalsely : Prop := haulBackRow.holds Try.pinned (OpenSpec.ofChange haulBackWrong)

/-- 'spolaw17.HaulSame': WHATEVER THE INPUT: true; the input reads as it did. -/
def haulSameSpec : ChangeSpec := { name := "haulSame", fn := fun _ => fun
  | [d1, d2, d3] => { results := [.lit (.bool true)], args := [d1, d2, d3] }
  | _ => none }
def haulSameRow : OpenClaim := { program := "ytmgkfpmmlibmcaa", sum := "7751e0a0eb38197c5889a59efe8143782c59b77f1c45eada91090468f01763a3", func := "spolia/spolaw17.HaulSame", spec := "haulSame", inPlace := ["math.Float64bits"], unfollowed := true, recurses := true, apart := false }
def HaulSameSaid : Prop := haulSameRow.holds Try.pinned (OpenSpec.ofChange haulSameSpec)

/-- ITS FALSE NEIGHBOUR: 'it returns false'. Refute it at one input. -/
def haulSameWrong : ChangeSpec := { name := "haulSame", fn := fun _ => fun
  | [d1, d2, d3] => { results := [.lit (.bool false)], args := [d1, d2, d3] }
  | _ => none }
def HaulSameWrongFalsely : Prop := haulSameRow.holds Try.pinned (OpenSpec.ofChange haulSameWrong)

/-- 'spolaw21.SpaceServes': WHATEVER THE INPUT: true; the input reads as it did. -/
def spaceServesSpec : ChangeSpec := { name := "spaceServes", fn := fun _ => fun
  | [d1, d2] => { results := [.lit (.bool true)], args := [d1, d2] }
  | _ => none }
def spaceServesRow : OpenClaim := { program := "ytmgkfpmmlibmcaa", sum := "7751e0a0eb38197c5889a59efe8143782c59b77f1c45eada91090468f01763a3", func := "spolia/spolaw21.SpaceServes", spec := "spaceServes", unfollowed := true, recurses := true, apart := false }
def SpaceServesSaid : Prop := spaceServesRow.holds Try.pinned (OpenSpec.ofChange spaceServesSpec)

/-- ITS FALSE NEIGHBOUR: 'it returns false'. Refute it at one input. -/
def spaceServesWrong : ChangeSpec := { name := "spaceServes", fn := fun _ => fun
  | [d1, d2] => { results := [.lit (.bool false)], args := [d1, d2] }
  | _ => none }
def SpaceServesWrongFalsely : Prop := spaceServesRow.holds Try.pinned (OpenSpec.ofChange spaceServesWrong)

/-- 'spolaw21.SpaceWhole': WHATEVER THE INPUT: true; the input reads as it did. -/
def spaceWholeSpec : ChangeSpec := { name := "spaceWhole", fn := fun _ => fun
  | [d1, d2] => { results := [.lit (.bool true)], args := [d1, d2] }
  | _ => none }
def spaceWholeRow : OpenClaim := { program := "ytmgkfpmmlibmcaa", sum := "7751e0a0eb38197c5889a59efe8143782c59b77f1c45eada91090468f01763a3", func := "spolia/spolaw21.SpaceWhole", spec := "spaceWhole", unfollowed := true, recurses := true, apart := false }
def SpaceWholeSaid : Prop := spaceWholeRow.holds Try.pinned (OpenSpec.ofChange spaceWholeSpec)

/-- ITS FALSE NEIGHBOUR: 'it returns false'. Refute it at one input. -/
def spaceWholeWrong : ChangeSpec := { name := "spaceWhole", fn := fun _ => fun
  | [d1, d2] => { results := [.lit (.bool false)], args := [d1, d2] }
  | _ => none }
def SpaceWholeWrongFalsely : Prop := spaceWholeRow.holds Try.pinned (OpenSpec.ofChange spaceWholeWrong)

/-- 'spolaw12.PlanTells': WHATEVER THE INPUT: true; the input reads as it did. -/
def planTellsSpec : ChangeSpec := { name := "planTells", fn := fun _ => fun
  | [d1, d2, d3, d4, d5] => { results := [.lit (.bool true)], args := [d1, d2, d3, d4, d5] }
  | _ => none }
def planTellsRow : OpenClaim := { program := "ytmgkfpmmlibmcaa", sum := "7751e0a0eb38197c5889a59efe8143782c59b77f1c45eada91090468f01763a3", func := "spolia/spolaw12.PlanTells", spec := "planTells", inPlace := ["math.Float64bits"], unfollowed := true, recurses := true, apart := false }
def PlanTellsSaid : Prop := planTellsRow.holds Try.pinned (OpenSpec.ofChange planTellsSpec)

/-- ITS FALSE NEIGHBOUR: 'it returns false'. Refute it at one input. -/
def planTellsWrong : ChangeSpec := { name := "planTells", fn := fun _ => fun
  | [d1, d2, d3, d4, d5] => { results := [.lit (.bool false)], args := [d1, d2, d3, d4, d5] }
  | _ => none }
def PlanTellsWrongFalsely : Prop := planTellsRow.holds Try.pinned (OpenSpec.ofChange planTellsWrong)

/-- 'spolaw16.TraceSteps': WHATEVER THE INPUT: true; the input reads as it did. -/
def traceStepsSpec : ChangeSpec := { name := "traceSteps", fn := fun _ => fun
  | [d1, d2, d3, d4] => { results := [.lit (.bool true)], args := [d1, d2, d3, d4] }
  | _ => none }
def traceStepsRow : OpenClaim := { program := "ytmgkfpmmlibmcaa", sum := "7751e0a0eb38197c5889a59efe8143782c59b77f1c45eada91090468f01763a3", func := "spolia/spolaw16.TraceSteps", spec := "traceSteps", inPlace := ["math.Float64bits"], unfollowed := true, recurses := true, apart := false }
def TraceStepsSaid : Prop := traceStepsRow.holds Try.pinned (OpenSpec.ofChange traceStepsSpec)

/-- ITS FALSE NEIGHBOUR: 'it returns false'. Refute it at one input. -/
def traceStepsWrong : ChangeSpec := { name := "traceSteps", fn := fun _ => fun
  | [d1, d2, d3, d4] => { results := [.lit (.bool false)], args := [d1, d2, d3, d4] }
  | _ => none }
def TraceStepsWrongFalsely : Prop := traceStepsRow.holds Try.pinned (OpenSpec.ofChange traceStepsWrong)

/-- 'spolaw16.TraceRing': WHATEVER THE INPUT: true; the input reads as it did. -/
def traceRingSpec : ChangeSpec := { name := "traceRing", fn := fun _ => fun
  | [d1, d2] => { results := [.lit (.bool true)], args := [d1, d2] }
  | _ => none }
def traceRingRow : OpenClaim := { program := "ytmgkfpmmlibmcaa", sum := "7751e0a0eb38197c5889a59efe8143782c59b77f1c45eada91090468f01763a3", func := "spolia/spolaw16.TraceRing", spec := "traceRing", inPlace := ["math.Float64bits"], unfollowed := true, recurses := true, apart := false }
def TraceRingSaid : Prop := traceRingRow.holds Try.pinned (OpenSpec.ofChange traceRingSpec)

/-- ITS FALSE NEIGHBOUR: 'it returns false'. Refute it at one input. -/
def traceRingWrong : ChangeSpec := { name := "traceRing", fn := fun _ => fun
  | [d1, d2] => { results := [.lit (.bool false)], args := [d1, d2] }
  | _ => none }
def TraceRingWrongFalsely : Prop := traceRingRow.holds Try.pinned (OpenSpec.ofChange traceRingWrong)

/-- 'spolaw16.TraceAll': WHATEVER THE INPUT: true; the input reads as it did. -/
def traceAllSpec : ChangeSpec := { name := "traceAll", fn := fun _ => fun
  | [d1, d2, d3, d4, d5, d6] => { results := [.lit (.bool true)], args := [d1, d2, d3, d4, d5, d6] }
  | _ => none }
def traceAllRow : OpenClaim := { program := "ytmgkfpmmlibmcaa", sum := "7751e0a0eb38197c5889a59efe8143782c59b77f1c45eada91090468f01763a3", func := "spolia/spolaw16.TraceAll", spec := "traceAll", inPlace := ["math.Float64bits"], unfollowed := true, recurses := true, apart := false }
def TraceAllSaid : Prop := traceAllRow.holds Try.pinned (OpenSpec.ofChange traceAllSpec)

/-- ITS FALSE NEIGHBOUR: 'it returns false'. Refute it at one input. -/
def traceAllWrong : ChangeSpec := { name := "traceAll", fn := fun _ => fun
  | [d1, d2, d3, d4, d5, d6] => { results := [.lit (.bool false)], args := [d1, d2, d3, d4, d5, d6] }
  | _ => none }
def TraceAllWrongFalsely : Prop := traceAllRow.holds Try.pinned (OpenSpec.ofChange traceAllWrong)

/- THE SECOND FORM. 'bulk': how many values and letters a reading holds, each counted each time it is reached (what is shared counts as often as it is met; a slice's spare places count too). A statement '..UptoSaid' is the law's where the arguments, and the package variables that the reading takes, are together of bulk at most 1048576: NARROWER than '..Said'. Prove '..Said' where nothing that the law and all that it calls make is longer than what came in: it says more and counts as full. Else prove '..UptoSaid'. A law counts once. -/
mutual
def uptoBulk {H : Type} : DataW H → Nat
  | .lit (.string bytes) => bytes.length + 1
  | .lit _ => 1
  | .nil => 1
  | .ptr d => uptoBulk d + 1
  | .slice elems spare => uptoBulkAll elems + uptoBulkAll spare + 1
  | .agg parts => uptoBulkAll parts + 1
  | .iface _ d => uptoBulk d + 1
  | .map entries => uptoBulkEntries entries + 1
  | .held _ => 1
def uptoBulkAll {H : Type} : List (DataW H) → Nat
  | [] => 0
  | d :: r => uptoBulk d + uptoBulkAll r
def uptoBulkEntries {H : Type} : List (Lit × DataW H) → Nat
  | [] => 0
  | x :: r => uptoBulkEntry x + uptoBulkEntries r
def uptoBulkEntry {H : Type} : Lit × DataW H → Nat
  | (.string bytes, d) => bytes.length + uptoBulk d + 1
  | (_, d) => uptoBulk d + 1
 end
def uptoSmall : (H : Type) → List (DataW H) → Bool := fun _ ds => decide (uptoBulkAll ds ≤ 1048576)
def OpenSpec.upto (s : _root_.Go.ChangeSpec) : _root_.Go.OpenSpec := { _root_.Go.OpenSpec.ofChange s with cond := some uptoSmall }

/-- 'spolaw13.FindFar', WHERE WHAT IT READS IS OF BULK AT MOST 1048576: true; the input reads as it did. -/
def findFarUptoRow : OpenClaim := { program := "ytmgkfpmmlibmcaa", sum := "7751e0a0eb38197c5889a59efe8143782c59b77f1c45eada91090468f01763a3", func := "spolia/spolaw13.FindFar", spec := "findFar", inPlace := ["math.Float64bits"], unfollowed := true, recurses := true, apart := false, narrowed := true }
def FindFarUptoSaid : Prop := findFarUptoRow.holds Try.pinned (OpenSpec.upto findFarSpec)

/-- 'spolaw13.FindEach', WHERE WHAT IT READS IS OF BULK AT MOST 1048576: true; the input reads as it did. -/
def findEachUptoRow : OpenClaim := { program := "ytmgkfpmmlibmcaa", sum := "7751e0a0eb38197c5889a59efe8143782c59b77f1c45eada91090468f01763a3", func := "spolia/spolaw13.FindEach", spec := "findEach", inPlace := ["math.Float64bits"], unfollowed := true, recurses := true, apart := false, narrowed := true }
def FindEachUptoSaid : Prop := findEachUptoRow.holds Try.pinned (OpenSpec.upto findEachSpec)

/-- 'spolaw17.HaulSteps', WHERE WHAT IT READS IS OF BULK AT MOST 1048576: true; the input reads as it did. -/
def haulStepsUptoRow : OpenClaim := { program := "ytmgkfpmmlibmcaa", sum := "7751e0a0eb38197c5889a59efe8143782c59b77f1c45eada91090468f01763a3", func := "spolia/spolaw17.HaulSteps", spec := "haulSteps", inPlace := ["math.Float64bits"], unfollowed := true, recurses := true, apart := false, narrowed := true }
def HaulStepsUptoSaid : Prop := haulStepsUptoRow.holds Try.pinned (OpenSpec.upto haulStepsSpec)

/-- 'spolaw17.HaulBack', WHERE WHAT IT READS IS OF BULK AT MOST 1048576: true; the input reads as it did. -/
def haulBackUptoRow : OpenClaim := { program := "ytmgkfpmmlibmcaa", sum := "7751e0a0eb38197c5889a59efe8143782c59b77f1c45eada91090468f01763a3", func := "spolia/spolaw17.HaulBack", spec := "haulBack", inPlace := ["math.Float64bits"], unfollowed := true, recurses := true, apart := false, narrowed := true }
def HaulBackUptoSaid : Prop := haulBackUptoRow.holds Try.pinned (OpenSpec.upto haulBackSpec)

/-- 'spolaw17.HaulSame', WHERE WHAT IT READS IS OF BULK AT MOST 1048576: true; the input reads as it did. -/
def haulSameUptoRow : OpenClaim := { program := "ytmgkfpmmlibmcaa", sum := "7751e0a0eb38197c5889a59efe8143782c59b77f1c45eada91090468f01763a3", func := "spolia/spolaw17.HaulSame", spec := "haulSame", inPlace := ["math.Float64bits"], unfollowed := true, recurses := true, apart := false, narrowed := true }
def HaulSameUptoSaid : Prop := haulSameUptoRow.holds Try.pinned (OpenSpec.upto haulSameSpec)

/-- 'spolaw21.SpaceServes', WHERE WHAT IT READS IS OF BULK AT MOST 1048576: true; the input reads as it did. -/
def spaceServesUptoRow : OpenClaim := { program := "ytmgkfpmmlibmcaa", sum := "7751e0a0eb38197c5889a59efe8143782c59b77f1c45eada91090468f01763a3", func := "spolia/spolaw21.SpaceServes", spec := "spaceServes", unfollowed := true, recurses := true, apart := false, narrowed := true }
def SpaceServesUptoSaid : Prop := spaceServesUptoRow.holds Try.pinned (OpenSpec.upto spaceServesSpec)

/-- 'spolaw21.SpaceWhole', WHERE WHAT IT READS IS OF BULK AT MOST 1048576: true; the input reads as it did. -/
def spaceWholeUptoRow : OpenClaim := { program := "ytmgkfpmmlibmcaa", sum := "7751e0a0eb38197c5889a59efe8143782c59b77f1c45eada91090468f01763a3", func := "spolia/spolaw21.SpaceWhole", spec := "spaceWhole", unfollowed := true, recurses := true, apart := false, narrowed := true }
def SpaceWholeUptoSaid : Prop := spaceWholeUptoRow.holds Try.pinned (OpenSpec.upto spaceWholeSpec)

/-- 'spolaw12.PlanTells', WHERE WHAT IT READS IS OF BULK AT MOST 1048576: true; the input reads as it did. -/
def planTellsUptoRow : OpenClaim := { program := "ytmgkfpmmlibmcaa", sum := "7751e0a0eb38197c5889a59efe8143782c59b77f1c45eada91090468f01763a3", func := "spolia/spolaw12.PlanTells", spec := "planTells", inPlace := ["math.Float64bits"], unfollowed := true, recurses := true, apart := false, narrowed := true }
def PlanTellsUptoSaid : Prop := planTellsUptoRow.holds Try.pinned (OpenSpec.upto planTellsSpec)

/-- 'spolaw16.TraceSteps', WHERE WHAT IT READS IS OF BULK AT MOST 1048576: true; the input reads as it did. -/
def traceStepsUptoRow : OpenClaim := { program := "ytmgkfpmmlibmcaa", sum := "7751e0a0eb38197c5889a59efe8143782c59b77f1c45eada91090468f01763a3", func := "spolia/spolaw16.TraceSteps", spec := "traceSteps", inPlace := ["math.Float64bits"], unfollowed := true, recurses := true, apart := false, narrowed := true }
def TraceStepsUptoSaid : Prop := traceStepsUptoRow.holds Try.pinned (OpenSpec.upto traceStepsSpec)

/-- 'spolaw16.TraceRing', WHERE WHAT IT READS IS OF BULK AT MOST 1048576: true; the input reads as it did. -/
def traceRingUptoRow : OpenClaim := { program := "ytmgkfpmmlibmcaa", sum := "7751e0a0eb38197c5889a59efe8143782c59b77f1c45eada91090468f01763a3", func := "spolia/spolaw16.TraceRing", spec := "traceRing", inPlace := ["math.Float64bits"], unfollowed := true, recurses := true, apart := false, narrowed := true }
def TraceRingUptoSaid : Prop := traceRingUptoRow.holds Try.pinned (OpenSpec.upto traceRingSpec)

/-- 'spolaw16.TraceAll', WHERE WHAT IT READS IS OF BULK AT MOST 1048576: true; the input reads as it did. -/
def traceAllUptoRow : OpenClaim := { program := "ytmgkfpmmlibmcaa", sum := "7751e0a0eb38197c5889a59efe8143782c59b77f1c45eada91090468f01763a3", func := "spolia/spolaw16.TraceAll", spec := "traceAll", inPlace := ["math.Float64bits"], unfollowed := true, recurses := true, apart := false, narrowed := true }
def TraceAllUptoSaid : Prop := traceAllUptoRow.holds Try.pinned (OpenSpec.upto traceAllSpec)

end Rows
end Go.Proofs.Ytmgkfpmmlibmcaa
