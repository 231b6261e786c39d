/-
  No cell of these rows narrows 'for every input' (looked for: loops, veiled, ifaces, maps, wideKeys, modest, calm, conditions, laid).
  DERIVED. THE GIVEN ROWS OF THIS SEAT. 3 by the template 'for every input the law returns true; each argument reads behind the call as it read before'; 0 by the template 'total and deterministic' (their statements: YtoaehfdjffejeaaGreatTotals.lean).
  GIVEN WITH THE SEED: the statements are not yours to turn. If you find one false, say at which input.
  Laid BY PROGRAM, IN A SANDBOX (cutbox-rows.mjs): the forced cells as the released guide's own fill.sh prints them over the translation f092ad60e816a2a6… (all of the seat's roots in one cut). By AI agents, Wed Nov 11 2026. No macro, syntax, notation, axiom, sorry.
-/
import Derived.Test.YtoaehfdjffejeaaGreatChecked
import GoSem.Claim
import GoSem.ClaimJoined
import GoSem.ClaimMapViews
import Derived.JoinedTies
import Derived.KernelRfl
namespace Go.Proofs.YtoaehfdjffejeaaGreat
/- THE CELL 'sum', in the pinned program and in every row, IS THE sha256 OF THE DUMP (.gsa) THAT YtoaehfdjffejeaaGreatProg.lean LOADS. Nothing in Lean hashes anything: it is a label: what it is worth is what the hold of that sum in a sandbox is worth. -/
noncomputable def Tryz.pinned : Pinned := { name := "ytoaehfdjffejeaagreat", sum := "f092ad60e816a2a6444f5379a0b0f86ce76abec0fc684e289746091e12380939", checked := Tryz.checked }
namespace Rows
def none {H : Type} : Left H := { results := [], args := [] }

/-- 'spolaw23.ActLeaves': WHATEVER THE INPUT: true; the input reads as it did. -/
def actLeavesSpec : ChangeSpec := { name := "actLeaves", fn := fun _ => fun
  | [d1, d2] => { results := [.lit (.bool true)], args := [d1, d2] }
  | _ => none }
def actLeavesRow : OpenClaim := { program := "ytoaehfdjffejeaagreat", sum := "f092ad60e816a2a6444f5379a0b0f86ce76abec0fc684e289746091e12380939", func := "spolia/spolaw23.ActLeaves", spec := "actLeaves", inPlace := ["math.Float64bits"], unfollowed := true, recurses := true, apart := false }
def ActLeavesSaid : Prop := actLeavesRow.holds Tryz.pinned (OpenSpec.ofChange actLeavesSpec)

/-- ITS FALSE NEIGHBOUR: 'it returns false'. Refute it at one input. -/
def actLeavesWrong : ChangeSpec := { name := "actLeaves", fn := fun _ => fun
  | [d1, d2] => { results := [.lit (.bool false)], args := [d1, d2] }
  | _ => none }
def ActLeavesWrongFalsely : Prop := actLeavesRow.holds Tryz.pinned (OpenSpec.ofChange actLeavesWrong)

/-- 'spolaw23.ActBarrier': WHATEVER THE INPUT: true; the input reads as it did. -/
def actBarrierSpec : ChangeSpec := { name := "actBarrier", fn := fun _ => fun
  | [d] => { results := [.lit (.bool true)], args := [d] }
  | _ => none }
def actBarrierRow : OpenClaim := { program := "ytoaehfdjffejeaagreat", sum := "f092ad60e816a2a6444f5379a0b0f86ce76abec0fc684e289746091e12380939", func := "spolia/spolaw23.ActBarrier", spec := "actBarrier", inPlace := ["math.Float64bits"], unfollowed := true, recurses := true, apart := false }
def ActBarrierSaid : Prop := actBarrierRow.holds Tryz.pinned (OpenSpec.ofChange actBarrierSpec)

/-- ITS FALSE NEIGHBOUR: 'it returns false'. Refute it at one input. -/
def actBarrierWrong : ChangeSpec := { name := "actBarrier", fn := fun _ => fun
  | [d] => { results := [.lit (.bool false)], args := [d] }
  | _ => none }
def ActBarrierWrongFalsely : Prop := actBarrierRow.holds Tryz.pinned (OpenSpec.ofChange actBarrierWrong)

/-- 'spolaw23.ActColours': WHATEVER THE INPUT: true; the input reads as it did. -/
def actColoursSpec : ChangeSpec := { name := "actColours", fn := fun _ => fun
  | [d] => { results := [.lit (.bool true)], args := [d] }
  | _ => none }
def actColoursRow : OpenClaim := { program := "ytoaehfdjffejeaagreat", sum := "f092ad60e816a2a6444f5379a0b0f86ce76abec0fc684e289746091e12380939", func := "spolia/spolaw23.ActColours", spec := "actColours", inPlace := ["math.Float64bits"], unfollowed := true, recurses := true, apart := false }
def ActColoursSaid : Prop := actColoursRow.holds Tryz.pinned (OpenSpec.ofChange actColoursSpec)

/-- ITS FALSE NEIGHBOUR: 'it returns false'. Refute it at one input. -/
def actColoursWrong : ChangeSpec := { name := "actColours", fn := fun _ => fun
  | [d] => { results := [.lit (.bool false)], args := [d] }
  | _ => none }
def ActColoursWrongFalsely : Prop := actColoursRow.holds Tryz.pinned (OpenSpec.ofChange actColoursWrong)

/- THE SECOND FORM. 'bulk': how many values and letters a reading holds, each counted each time it is reached (what is shared counts as often as it is met; a slice's spare places count too). A statement '..UptoSaid' is the law's where the arguments, and the package variables that the reading takes, are together of bulk at most 1048576: NARROWER than '..Said'. Prove '..Said' where nothing that the law and all that it calls make is longer than what came in: it says more and counts as full. Else prove '..UptoSaid'. A law counts once. -/
mutual
def uptoBulk {H : Type} : DataW H → Nat
  | .lit (.string bytes) => bytes.length + 1
  | .lit _ => 1
  | .nil => 1
  | .ptr d => uptoBulk d + 1
  | .slice elems spare => uptoBulkAll elems + uptoBulkAll spare + 1
  | .agg parts => uptoBulkAll parts + 1
  | .iface _ d => uptoBulk d + 1
  | .map entries => uptoBulkEntries entries + 1
  | .held _ => 1
def uptoBulkAll {H : Type} : List (DataW H) → Nat
  | [] => 0
  | d :: r => uptoBulk d + uptoBulkAll r
def uptoBulkEntries {H : Type} : List (Lit × DataW H) → Nat
  | [] => 0
  | x :: r => uptoBulkEntry x + uptoBulkEntries r
def uptoBulkEntry {H : Type} : Lit × DataW H → Nat
  | (.string bytes, d) => bytes.length + uptoBulk d + 1
  | (_, d) => uptoBulk d + 1
 end
def uptoSmall : (H : Type) → List (DataW H) → Bool := fun _ ds => decide (uptoBulkAll ds ≤ 1048576)
def OpenSpec.upto (s : _root_.Go.ChangeSpec) : _root_.Go.OpenSpec := { _root_.Go.OpenSpec.ofChange s with cond := some uptoSmall }

/-- 'spolaw23.ActLeaves', WHERE WHAT IT READS IS OF BULK AT MOST 1048576: true; the input reads as it did. -/
def actLeavesUptoRow : OpenClaim := { program := "ytoaehfdjffejeaagreat", sum := "f092ad60e816a2a6444f5379a0b0f86ce76abec0fc684e289746091e12380939", func := "spolia/spolaw23.ActLeaves", spec := "actLeaves", inPlace := ["math.Float64bits"], unfollowed := true, recurses := true, apart := false, narrowed := true }
def ActLeavesUptoSaid : Prop := actLeavesUptoRow.holds Tryz.pinned (OpenSpec.upto actLeavesSpec)

/-- 'spolaw23.ActBarrier', WHERE WHAT IT READS IS OF BULK AT MOST 1048576: true; the input reads as it did. -/
def actBarrierUptoRow : OpenClaim := { program := "ytoaehfdjffejeaagreat", sum := "f092ad60e816a2a6444f5379a0b0f86ce76abec0fc684e289746091e12380939", func := "spolia/spolaw23.ActBarrier", spec := "actBarrier", inPlace := ["math.Float64bits"], unfollowed := true, recurses := true, apart := false, narrowed := true }
def ActBarrierUptoSaid : Prop := actBarrierUptoRow.holds Tryz.pinned (OpenSpec.upto actBarrierSpec)

/-- 'spolaw23.ActColours', WHERE WHAT IT READS IS OF BULK AT MOST 1048576: true; the input reads as it did. -/
def actColoursUptoRow : OpenClaim := { program := "ytoaehfdjffejeaagreat", sum := "f092ad60e816a2a6444f5379a0b0f86ce76abec0fc684e289746091e12380939", func := "spolia/spolaw23.ActColours", spec := "actColours", inPlace := ["math.Float64bits"], unfollowed := true, recurses := true, apart := false, narrowed := true }
def ActColoursUptoSaid : Prop := actColoursUptoRow.holds Tryz.pinned (OpenSpec.upto actColoursSpec)

end Rows
end Go.Proofs.YtoaehfdjffejeaaGreat
