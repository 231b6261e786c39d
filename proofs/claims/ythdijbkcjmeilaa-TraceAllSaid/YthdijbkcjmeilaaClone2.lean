/-
  slices.Clone at ints: a row of whoever is asked for.
-/
import Derived.Test.YthdijbkcjmeilaaPicks
import Derived.Test.YthdijbkcjmeilaaGhost
namespace Go.Proofs.Ythdijbkcjmeilaa
open Go Go.RowKit
set_option linter.unusedVariables false
attribute [local go_sem] Lib.run_eql_slice_nil

/-- The clone: a row of the owner t; nil of nil. -/
def Cloned (t : Nat) (l : List Int) (g : GW) (e : Ending) (w' : World) : Prop :=
  ∃ A' c', e = .returned (.slice A' l.length c') ∧ Mod (fun _ => False) g (g.to t w') ∧ Row (g.to t w') t 3 1 (.slice A' l.length c') l.length (l.map (Value.int .i64)) ∧ Ext g.w w' ∧ (∀ a, A' = some a → g.w.heap.size ≤ a.block)
/-- The same with the length under a name. -/
def ClonedN (t n : Nat) (l : List Int) (g : GW) (e : Ending) (w' : World) : Prop :=
  ∃ A' c', e = .returned (.slice A' n c') ∧ Mod (fun _ => False) g (g.to t w') ∧ Row (g.to t w') t 3 1 (.slice A' n c') n (l.map (Value.int .i64)) ∧ Ext g.w w' ∧ (∀ a, A' = some a → g.w.heap.size ≤ a.block)
end Go.Proofs.Ythdijbkcjmeilaa
