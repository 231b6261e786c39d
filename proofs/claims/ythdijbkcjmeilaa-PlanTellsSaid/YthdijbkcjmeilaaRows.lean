/-
  No cell of these rows narrows 'for every input' (looked for: loops, veiled, ifaces, maps, wideKeys, modest, calm, conditions, laid).
  DERIVED. THE GIVEN ROWS OF THIS SEAT. 4 by the template 'for every input the law returns true; each argument reads behind the call as it read before'; 0 by the template 'total and deterministic' (their statements: YthdijbkcjmeilaaTotals.lean).
  GIVEN WITH THE SEED: the statements are not yours to turn. If you find one false, say at which input.
  Laid BY PROGRAM, IN A SANDBOX (cutbox-rows.mjs): the forced cells as the released guide's own fill.sh prints them over the translation c9fe057a40e79c43… (all of the seat's roots in one cut). By AI agents, Wed Nov 11 2026. No macro, syntax, notation, axiom, sorry.
-/
import Derived.Test.YthdijbkcjmeilaaChecked
import GoSem.Claim
import GoSem.ClaimJoined
import GoSem.ClaimMapViews
import Derived.JoinedTies
import Derived.KernelRfl
namespace Go.Proofs.Ythdijbkcjmeilaa
/- THE CELL 'sum', in the pinned program and in every row, IS THE sha256 OF THE DUMP (.gsa) THAT YthdijbkcjmeilaaProg.lean LOADS. Nothing in Lean hashes anything: it is a label: what it is worth is what the hold of that sum in a sandbox is worth. -/
noncomputable def Try.pinned : Pinned := { name := "ythdijbkcjmeilaa", sum := "c9fe057a40e79c43721c13f0eee8efe8a43d5be3789c55b96c335f1a7fe9fc66", checked := Try.checked }
namespace Rows
def none {H : Type} : Left H := { results := [], args := [] }

/-- 'spolaw12.PlanTells': WHATEVER THE INPUT: true; the input reads as it did. -/
def planTellsSpec : ChangeSpec := { name := "planTells", fn := fun _ => fun
  | [d1, d2, d3, d4, d5] => { results := [.lit (.bool true)], args := [d1, d2, d3, d4, d5] }
  | _ => none }
def planTellsRow : OpenClaim := { program := "ythdijbkcjmeilaa", sum := "c9fe057a40e79c43721c13f0eee8efe8a43d5be3789c55b96c335f1a7fe9fc66", func := "spolia/spolaw12.PlanTells", spec := "planTells", inPlace := ["math.Float64bits"], unfollowed := true, recurses := true, apart := false }
def PlanTellsSaid : Prop := planTellsRow.holds Try.pinned (OpenSpec.ofChange planTellsSpec)

/-- ITS FALSE NEIGHBOUR: 'it returns false'. Refute it at one input. -/
def planTellsWrong : ChangeSpec := { name := "planTells", fn := fun _ => fun
  | [d1, d2, d3, d4, d5] => { results := [.lit (.bool false)], args := [d1, d2, d3, d4, d5] }
  | _ => none }
def PlanTellsWrongFalsely : Prop := planTellsRow.holds Try.pinned (OpenSpec.ofChange planTellsWrong)

/-- 'spolaw16.TraceSteps': WHATEVER THE INPUT: true; the input reads as it did. -/
def traceStepsSpec : ChangeSpec := { name := "traceSteps", fn := fun _ => fun
  | [d1, d2, d3, d4] => { results := [.lit (.bool true)], args := [d1, d2, d3, d4] }
  | _ => none }
def traceStepsRow : OpenClaim := { program := "ythdijbkcjmeilaa", sum := "c9fe057a40e79c43721c13f0eee8efe8a43d5be3789c55b96c335f1a7fe9fc66", func := "spolia/spolaw16.TraceSteps", spec := "traceSteps", inPlace := ["math.Float64bits"], unfollowed := true, recurses := true, apart := false }
def TraceStepsSaid : Prop := traceStepsRow.holds Try.pinned (OpenSpec.ofChange traceStepsSpec)

/-- ITS FALSE NEIGHBOUR: 'it returns false'. Refute it at one input. -/
def traceStepsWrong : ChangeSpec := { name := "traceSteps", fn := fun _ => fun
  | [d1, d2, d3, d4] => { results := [.lit (.bool false)], args := [d1, d2, d3, d4] }
  | _ => none }
def TraceStepsWrongFalsely : Prop := traceStepsRow.holds Try.pinned (OpenSpec.ofChange traceStepsWrong)

/-- 'spolaw16.TraceRing': WHATEVER THE INPUT: true; the input reads as it did. -/
def traceRingSpec : ChangeSpec := { name := "traceRing", fn := fun _ => fun
  | [d1, d2] => { results := [.lit (.bool true)], args := [d1, d2] }
  | _ => none }
def traceRingRow : OpenClaim := { program := "ythdijbkcjmeilaa", sum := "c9fe057a40e79c43721c13f0eee8efe8a43d5be3789c55b96c335f1a7fe9fc66", func := "spolia/spolaw16.TraceRing", spec := "traceRing", inPlace := ["math.Float64bits"], unfollowed := true, recurses := true, apart := false }
def TraceRingSaid : Prop := traceRingRow.holds Try.pinned (OpenSpec.ofChange traceRingSpec)

/-- ITS FALSE NEIGHBOUR: 'it returns false'. Refute it at one input. -/
def traceRingWrong : ChangeSpec := { name := "traceRing", fn := fun _ => fun
  | [d1, d2] => { results := [.lit (.bool false)], args := [d1, d2] }
  | _ => none }
def TraceRingWrongFalsely : Prop := traceRingRow.holds Try.pinned (OpenSpec.ofChange traceRingWrong)

/-- 'spolaw16.TraceAll': WHATEVER THE INPUT: true; the input reads as it did. -/
def traceAllSpec : ChangeSpec := { name := "traceAll", fn := fun _ => fun
  | [d1, d2, d3, d4, d5, d6] => { results := [.lit (.bool true)], args := [d1, d2, d3, d4, d5, d6] }
  | _ => none }
def traceAllRow : OpenClaim := { program := "ythdijbkcjmeilaa", sum := "c9fe057a40e79c43721c13f0eee8efe8a43d5be3789c55b96c335f1a7fe9fc66", func := "spolia/spolaw16.TraceAll", spec := "traceAll", inPlace := ["math.Float64bits"], unfollowed := true, recurses := true, apart := false }
def TraceAllSaid : Prop := traceAllRow.holds Try.pinned (OpenSpec.ofChange traceAllSpec)

/-- ITS FALSE NEIGHBOUR: 'it returns false'. Refute it at one input. -/
def traceAllWrong : ChangeSpec := { name := "traceAll", fn := fun _ => fun
  | [d1, d2, d3, d4, d5, d6] => { results := [.lit (.bool false)], args := [d1, d2, d3, d4, d5, d6] }
  | _ => none }
def TraceAllWrongFalsely : Prop := traceAllRow.holds Try.pinned (OpenSpec.ofChange traceAllWrong)

/- THE SECOND FORM. 'bulk': how many values and letters a reading holds, each counted each time it is reached (what is shared counts as often as it is met; a slice's spare places count too). A statement '..UptoSaid' is the law's where the arguments, and the package variables that the reading takes, are together of bulk at most 1048576: NARROWER than '..Said'. Prove '..Said' where nothing that the law and all that it calls make is longer than what came in: it says more and counts as full. Else prove '..UptoSaid'. A law counts once. -/
mutual
def uptoBulk {H : Type} : DataW H → Nat
  | .lit (.string bytes) => bytes.length + 1
  | .lit _ => 1
  | .nil => 1
  | .ptr d => uptoBulk d + 1
  | .slice elems spare => uptoBulkAll elems + uptoBulkAll spare + 1
  | .agg parts => uptoBulkAll parts + 1
  | .iface _ d => uptoBulk d + 1
  | .map entries => uptoBulkEntries entries + 1
  | .held _ => 1
def uptoBulkAll {H : Type} : List (DataW H) → Nat
  | [] => 0
  | d :: r => uptoBulk d + uptoBulkAll r
def uptoBulkEntries {H : Type} : List (Lit × DataW H) → Nat
  | [] => 0
  | x :: r => uptoBulkEntry x + uptoBulkEntries r
def uptoBulkEntry {H : Type} : Lit × DataW H → Nat
  | (.string bytes, d) => bytes.length + uptoBulk d + 1
  | (_, d) => uptoBulk d + 1
 end
def uptoSmall : (H : Type) → List (DataW H) → Bool := fun _ ds => decide (uptoBulkAll ds ≤ 1048576)
def OpenSpec.upto (s : _root_.Go.ChangeSpec) : _root_.Go.OpenSpec := { _root_.Go.OpenSpec.ofChange s with cond := some uptoSmall }

/-- 'spolaw12.PlanTells', WHERE WHAT IT READS IS OF BULK AT MOST 1048576: true; the input reads as it did. -/
def planTellsUptoRow : OpenClaim := { program := "ythdijbkcjmeilaa", sum := "c9fe057a40e79c43721c13f0eee8efe8a43d5be3789c55b96c335f1a7fe9fc66", func := "spolia/spolaw12.PlanTells", spec := "planTells", inPlace := ["math.Float64bits"], unfollowed := true, recurses := true, apart := false, narrowed := true }
def PlanTellsUptoSaid : Prop := planTellsUptoRow.holds Try.pinned (OpenSpec.upto planTellsSpec)

/-- 'spolaw16.TraceSteps', WHERE WHAT IT READS IS OF BULK AT MOST 1048576: true; the input reads as it did. -/
def traceStepsUptoRow : OpenClaim := { program := "ythdijbkcjmeilaa", sum := "c9fe057a40e79c43721c13f0eee8efe8a43d5be3789c55b96c335f1a7fe9fc66", func := "spolia/spolaw16.TraceSteps", spec := "traceSteps", inPlace := ["math.Float64bits"], unfollowed := true, recurses := true, apart := false, narrowed := true }
def TraceStepsUptoSaid : Prop := traceStepsUptoRow.holds Try.pinned (OpenSpec.upto traceStepsSpec)

/-- 'spolaw16.TraceRing', WHERE WHAT IT READS IS OF BULK AT MOST 1048576: true; the input reads as it did. -/
def traceRingUptoRow : OpenClaim := { program := "ythdijbkcjmeilaa", sum := "c9fe057a40e79c43721c13f0eee8efe8a43d5be3789c55b96c335f1a7fe9fc66", func := "spolia/spolaw16.TraceRing", spec := "traceRing", inPlace := ["math.Float64bits"], unfollowed := true, recurses := true, apart := false, narrowed := true }
def TraceRingUptoSaid : Prop := traceRingUptoRow.holds Try.pinned (OpenSpec.upto traceRingSpec)

/-- 'spolaw16.TraceAll', WHERE WHAT IT READS IS OF BULK AT MOST 1048576: true; the input reads as it did. -/
def traceAllUptoRow : OpenClaim := { program := "ythdijbkcjmeilaa", sum := "c9fe057a40e79c43721c13f0eee8efe8a43d5be3789c55b96c335f1a7fe9fc66", func := "spolia/spolaw16.TraceAll", spec := "traceAll", inPlace := ["math.Float64bits"], unfollowed := true, recurses := true, apart := false, narrowed := true }
def TraceAllUptoSaid : Prop := traceAllUptoRow.holds Try.pinned (OpenSpec.upto traceAllSpec)

end Rows
end Go.Proofs.Ythdijbkcjmeilaa
