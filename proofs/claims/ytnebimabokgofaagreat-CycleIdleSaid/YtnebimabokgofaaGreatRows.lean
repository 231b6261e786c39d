/-
  No cell of these rows narrows 'for every input' (looked for: loops, veiled, ifaces, maps, wideKeys, modest, calm, conditions, laid).
  DERIVED. THE GIVEN ROWS OF THIS SEAT. 7 by the template 'for every input the law returns true; each argument reads behind the call as it read before'; 0 by the template 'total and deterministic' (their statements: YtnebimabokgofaaGreatTotals.lean).
  GIVEN WITH THE SEED: the statements are not yours to turn. If you find one false, say at which input.
  Laid BY PROGRAM, IN A SANDBOX (cutbox-rows.mjs): the forced cells as the released guide's own fill.sh prints them over the translation 845976cb0d34e109… (all of the seat's roots in one cut). By AI agents, Wed Nov 11 2026. No macro, syntax, notation, axiom, sorry.
-/
import Derived.Test.YtnebimabokgofaaGreatChecked
import GoSem.Claim
import GoSem.ClaimJoined
import GoSem.ClaimMapViews
import Derived.JoinedTies
import Derived.KernelRfl
namespace Go.Proofs.YtnebimabokgofaaGreat
/- THE CELL 'sum', in the pinned program and in every row, IS THE sha256 OF THE DUMP (.gsa) THAT YtnebimabokgofaaGreatProg.lean LOADS. Nothing in Lean hashes anything: it is a label: what it is worth is what the hold of that sum in a sandbox is worth. -/
noncomputable def Tryz.pinned : Pinned := { name := "ytnebimabokgofaagreat", sum := "845976cb0d34e109687a8955f70f57aaab2458891a54c5b9b41665a1645a3e51", checked := Tryz.checked }
namespace Rows
def none {H : Type} : Left H := { results := [], args := [] }

/-- 'spolaw24.CycleIdle': WHATEVER THE INPUT: true; the input reads as it did. -/
def cycleIdleSpec : ChangeSpec := { name := "cycleIdle", fn := fun _ => fun
  | [d1, d2] => { results := [.lit (.bool true)], args := [d1, d2] }
  | _ => none }
def cycleIdleRow : OpenClaim := { program := "ytnebimabokgofaagreat", sum := "845976cb0d34e109687a8955f70f57aaab2458891a54c5b9b41665a1645a3e51", func := "spolia/spolaw24.CycleIdle", spec := "cycleIdle", inPlace := ["math.Float64bits"], unfollowed := true, recurses := true, apart := false }
def CycleIdleSaid : Prop := cycleIdleRow.holds Tryz.pinned (OpenSpec.ofChange cycleIdleSpec)

/-- ITS FALSE NEIGHBOUR: 'it returns false'. Refute it at one input. -/
def cycleIdleWrong : ChangeSpec := { name := "cycleIdle", fn := fun _ => fun
  | [d1, d2] => { results := [.lit (.bool false)], args := [d1, d2] }
  | _ => none }
def CycleIdleWrongFalsely : Prop := cycleIdleRow.holds Tryz.pinned (OpenSpec.ofChange cycleIdleWrong)

/-- 'spolaw23.ActLeaves': WHATEVER THE INPUT: true; the input reads as it did. -/
def actLeavesSpec : ChangeSpec := { name := "actLeaves", fn := fun _ => fun
  | [d1, d2] => { results := [.lit (.bool true)], args := [d1, d2] }
  | _ => none }
def actLeavesRow : OpenClaim := { program := "ytnebimabokgofaagreat", sum := "845976cb0d34e109687a8955f70f57aaab2458891a54c5b9b41665a1645a3e51", func := "spolia/spolaw23.ActLeaves", spec := "actLeaves", inPlace := ["math.Float64bits"], unfollowed := true, recurses := true, apart := false }
def ActLeavesSaid : Prop := actLeavesRow.holds Tryz.pinned (OpenSpec.ofChange actLeavesSpec)

/-- ITS FALSE NEIGHBOUR: 'it returns false'. Refute it at one input. -/
def actLeavesWrong : ChangeSpec := { name := "actLeaves", fn := fun _ => fun
  | [d1, d2] => { results := [.lit (.bool false)], args := [d1, d2] }
  | _ => none }
def ActLeavesWrongFalsely : Prop := actLeavesRow.holds Tryz.pinned (OpenSpec.ofChange actLeavesWrong)

/-- 'spolaw23.ActBarrier': WHATEVER THE INPUT: true; the input reads as it did. -/
def actBarrierSpec : ChangeSpec := { name := "actBarrier", fn := fun _ => fun
  | [d] => { results := [.lit (.bool true)], args := [d] }
  | _ => none }
def actBarrierRow : OpenClaim := { program := "ytnebimabokgofaagreat", sum := "845976cb0d34e109687a8955f70f57aaab2458891a54c5b9b41665a1645a3e51", func := "spolia/spolaw23.ActBarrier", spec := "actBarrier", inPlace := ["math.Float64bits"], unfollowed := true, recurses := true, apart := false }
def ActBarrierSaid : Prop := actBarrierRow.holds Tryz.pinned (OpenSpec.ofChange actBarrierSpec)

/-- ITS FALSE NEIGHBOUR: 'it returns false'. Refute it at one input. -/
def actBarrierWrong : ChangeSpec := { name := "actBarrier", fn := fun _ => fun
  | [d] => { results := [.lit (.bool false)], args := [d] }
  | _ => none }
def ActBarrierWrongFalsely : Prop := actBarrierRow.holds Tryz.pinned (OpenSpec.ofChange actBarrierWrong)

/-- 'spolaw23.ActColours': WHATEVER THE INPUT: true; the input reads as it did. -/
def actColoursSpec : ChangeSpec := { name := "actColours", fn := fun _ => fun
  | [d] => { results := [.lit (.bool true)], args := [d] }
  | _ => none }
def actColoursRow : OpenClaim := { program := "ytnebimabokgofaagreat", sum := "845976cb0d34e109687a8955f70f57aaab2458891a54c5b9b41665a1645a3e51", func := "spolia/spolaw23.ActColours", spec := "actColours", inPlace := ["math.Float64bits"], unfollowed := true, recurses := true, apart := false }
def ActColoursSaid : Prop := actColoursRow.holds Tryz.pinned (OpenSpec.ofChange actColoursSpec)

/-- ITS FALSE NEIGHBOUR: 'it returns false'. Refute it at one input. -/
def actColoursWrong : ChangeSpec := { name := "actColours", fn := fun _ => fun
  | [d] => { results := [.lit (.bool false)], args := [d] }
  | _ => none }
def ActColoursWrongFalsely : Prop := actColoursRow.holds Tryz.pinned (OpenSpec.ofChange actColoursWrong)

/-- 'spolaw24.CycleWaits': WHATEVER THE INPUT: true; the input reads as it did. -/
def cycleWaitsSpec : ChangeSpec := { name := "cycleWaits", fn := fun _ => fun
  | [d] => { results := [.lit (.bool true)], args := [d] }
  | _ => none }
def cycleWaitsRow : OpenClaim := { program := "ytnebimabokgofaagreat", sum := "845976cb0d34e109687a8955f70f57aaab2458891a54c5b9b41665a1645a3e51", func := "spolia/spolaw24.CycleWaits", spec := "cycleWaits", inPlace := ["math.Float64bits"], unfollowed := true, recurses := true, apart := false }
def CycleWaitsSaid : Prop := cycleWaitsRow.holds Tryz.pinned (OpenSpec.ofChange cycleWaitsSpec)

/-- ITS FALSE NEIGHBOUR: 'it returns false'. Refute it at one input. -/
def cycleWaitsWrong : ChangeSpec := { name := "cycleWaits", fn := fun _ => fun
  | [d] => { results := [.lit (.bool false)], args := [d] }
  | _ => none }
def CycleWaitsWrongFalsely : Prop := cycleWaitsRow.holds Tryz.pinned (OpenSpec.ofChange cycleWaitsWrong)

/-- 'spolaw24.CycleLists': WHATEVER THE INPUT: true; the input reads as it did. -/
def cycleListsSpec : ChangeSpec := { name := "cycleLists", fn := fun _ => fun
  | [d1, d2] => { results := [.lit (.bool true)], args := [d1, d2] }
  | _ => none }
def cycleListsRow : OpenClaim := { program := "ytnebimabokgofaagreat", sum := "845976cb0d34e109687a8955f70f57aaab2458891a54c5b9b41665a1645a3e51", func := "spolia/spolaw24.CycleLists", spec := "cycleLists", inPlace := ["math.Float64bits"], unfollowed := true, recurses := true, apart := false }
def CycleListsSaid : Prop := cycleListsRow.holds Tryz.pinned (OpenSpec.ofChange cycleListsSpec)

/-- ITS FALSE NEIGHBOUR: 'it returns false'. Refute it at one input. -/
def cycleListsWrong : ChangeSpec := { name := "cycleLists", fn := fun _ => fun
  | [d1, d2] => { results := [.lit (.bool false)], args := [d1, d2] }
  | _ => none }
def CycleListsWrongFalsely : Prop := cycleListsRow.holds Tryz.pinned (OpenSpec.ofChange cycleListsWrong)

/-- 'spolaw24.CycleFat': WHATEVER THE INPUT: true; the input reads as it did. -/
def cycleFatSpec : ChangeSpec := { name := "cycleFat", fn := fun _ => fun
  | [d1, d2] => { results := [.lit (.bool true)], args := [d1, d2] }
  | _ => none }
def cycleFatRow : OpenClaim := { program := "ytnebimabokgofaagreat", sum := "845976cb0d34e109687a8955f70f57aaab2458891a54c5b9b41665a1645a3e51", func := "spolia/spolaw24.CycleFat", spec := "cycleFat", inPlace := ["math.Float64bits"], unfollowed := true, recurses := true, apart := false }
def CycleFatSaid : Prop := cycleFatRow.holds Tryz.pinned (OpenSpec.ofChange cycleFatSpec)

/-- ITS FALSE NEIGHBOUR: 'it returns false'. Refute it at one input. -/
def cycleFatWrong : ChangeSpec := { name := "cycleFat", fn := fun _ => fun
  | [d1, d2] => { results := [.lit (.bool false)], args := [d1, d2] }
  | _ => none }
def CycleFatWrongFalsely : Prop := cycleFatRow.holds Tryz.pinned (OpenSpec.ofChange cycleFatWrong)

/- THE SECOND FORM. 'bulk': how many values and letters a reading holds, each counted each time it is reached (what is shared counts as often as it is met; a slice's spare places count too). A statement '..UptoSaid' is the law's where the arguments, and the package variables that the reading takes, are together of bulk at most 1048576: NARROWER than '..Said'. Prove '..Said' where nothing that the law and all that it calls make is longer than what came in: it says more and counts as full. Else prove '..UptoSaid'. A law counts once. -/
mutual
def uptoBulk {H : Type} : DataW H → Nat
  | .lit (.string bytes) => bytes.length + 1
  | .lit _ => 1
  | .nil => 1
  | .ptr d => uptoBulk d + 1
  | .slice elems spare => uptoBulkAll elems + uptoBulkAll spare + 1
  | .agg parts => uptoBulkAll parts + 1
  | .iface _ d => uptoBulk d + 1
  | .map entries => uptoBulkEntries entries + 1
  | .held _ => 1
def uptoBulkAll {H : Type} : List (DataW H) → Nat
  | [] => 0
  | d :: r => uptoBulk d + uptoBulkAll r
def uptoBulkEntries {H : Type} : List (Lit × DataW H) → Nat
  | [] => 0
  | x :: r => uptoBulkEntry x + uptoBulkEntries r
def uptoBulkEntry {H : Type} : Lit × DataW H → Nat
  | (.string bytes, d) => bytes.length + uptoBulk d + 1
  | (_, d) => uptoBulk d + 1
 end
def uptoSmall : (H : Type) → List (DataW H) → Bool := fun _ ds => decide (uptoBulkAll ds ≤ 1048576)
def OpenSpec.upto (s : _root_.Go.ChangeSpec) : _root_.Go.OpenSpec := { _root_.Go.OpenSpec.ofChange s with cond := some uptoSmall }

/-- 'spolaw24.CycleIdle', WHERE WHAT IT READS IS OF BULK AT MOST 1048576: true; the input reads as it did. -/
def cycleIdleUptoRow : OpenClaim := { program := "ytnebimabokgofaagreat", sum := "845976cb0d34e109687a8955f70f57aaab2458891a54c5b9b41665a1645a3e51", func := "spolia/spolaw24.CycleIdle", spec := "cycleIdle", inPlace := ["math.Float64bits"], unfollowed := true, recurses := true, apart := false, narrowed := true }
def CycleIdleUptoSaid : Prop := cycleIdleUptoRow.holds Tryz.pinned (OpenSpec.upto cycleIdleSpec)

/-- 'spolaw23.ActLeaves', WHERE WHAT IT READS IS OF BULK AT MOST 1048576: true; the input reads as it did. -/
def actLeavesUptoRow : OpenClaim := { program := "ytnebimabokgofaagreat", sum := "845976cb0d34e109687a8955f70f57aaab2458891a54c5b9b41665a1645a3e51", func := "spolia/spolaw23.ActLeaves", spec := "actLeaves", inPlace := ["math.Float64bits"], unfollowed := true, recurses := true, apart := false, narrowed := true }
def ActLeavesUptoSaid : Prop := actLeavesUptoRow.holds Tryz.pinned (OpenSpec.upto actLeavesSpec)

/-- 'spolaw23.ActBarrier', WHERE WHAT IT READS IS OF BULK AT MOST 1048576: true; the input reads as it did. -/
def actBarrierUptoRow : OpenClaim := { program := "ytnebimabokgofaagreat", sum := "845976cb0d34e109687a8955f70f57aaab2458891a54c5b9b41665a1645a3e51", func := "spolia/spolaw23.ActBarrier", spec := "actBarrier", inPlace := ["math.Float64bits"], unfollowed := true, recurses := true, apart := false, narrowed := true }
def ActBarrierUptoSaid : Prop := actBarrierUptoRow.holds Tryz.pinned (OpenSpec.upto actBarrierSpec)

/-- 'spolaw23.ActColours', WHERE WHAT IT READS IS OF BULK AT MOST 1048576: true; the input reads as it did. -/
def actColoursUptoRow : OpenClaim := { program := "ytnebimabokgofaagreat", sum := "845976cb0d34e109687a8955f70f57aaab2458891a54c5b9b41665a1645a3e51", func := "spolia/spolaw23.ActColours", spec := "actColours", inPlace := ["math.Float64bits"], unfollowed := true, recurses := true, apart := false, narrowed := true }
def ActColoursUptoSaid : Prop := actColoursUptoRow.holds Tryz.pinned (OpenSpec.upto actColoursSpec)

/-- 'spolaw24.CycleWaits', WHERE WHAT IT READS IS OF BULK AT MOST 1048576: true; the input reads as it did. -/
def cycleWaitsUptoRow : OpenClaim := { program := "ytnebimabokgofaagreat", sum := "845976cb0d34e109687a8955f70f57aaab2458891a54c5b9b41665a1645a3e51", func := "spolia/spolaw24.CycleWaits", spec := "cycleWaits", inPlace := ["math.Float64bits"], unfollowed := true, recurses := true, apart := false, narrowed := true }
def CycleWaitsUptoSaid : Prop := cycleWaitsUptoRow.holds Tryz.pinned (OpenSpec.upto cycleWaitsSpec)

/-- 'spolaw24.CycleLists', WHERE WHAT IT READS IS OF BULK AT MOST 1048576: true; the input reads as it did. -/
def cycleListsUptoRow : OpenClaim := { program := "ytnebimabokgofaagreat", sum := "845976cb0d34e109687a8955f70f57aaab2458891a54c5b9b41665a1645a3e51", func := "spolia/spolaw24.CycleLists", spec := "cycleLists", inPlace := ["math.Float64bits"], unfollowed := true, recurses := true, apart := false, narrowed := true }
def CycleListsUptoSaid : Prop := cycleListsUptoRow.holds Tryz.pinned (OpenSpec.upto cycleListsSpec)

/-- 'spolaw24.CycleFat', WHERE WHAT IT READS IS OF BULK AT MOST 1048576: true; the input reads as it did. -/
def cycleFatUptoRow : OpenClaim := { program := "ytnebimabokgofaagreat", sum := "845976cb0d34e109687a8955f70f57aaab2458891a54c5b9b41665a1645a3e51", func := "spolia/spolaw24.CycleFat", spec := "cycleFat", inPlace := ["math.Float64bits"], unfollowed := true, recurses := true, apart := false, narrowed := true }
def CycleFatUptoSaid : Prop := cycleFatUptoRow.holds Tryz.pinned (OpenSpec.upto cycleFatSpec)

end Rows
end Go.Proofs.YtnebimabokgofaaGreat
