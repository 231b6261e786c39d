/-
  tale.Small: a small configuration.
-/
import Derived.Test.YthdijbkcjmeilaaConf
import Derived.Test.YthdijbkcjmeilaaTale
namespace Go
theorem cellsAt_new (w : World) (cs : List Value) (t : TypeId) (n : Nat) (h : n = w.heap.size) : CellsAt (w.alloc (.cells cs.toArray t)) (some ⟨n, 0, none⟩) cs := by
  subst h
  refine CellsAt.mk (by simp) (fun i v hi => ?_)
  rw [Nat.zero_add, World.cell?_alloc_new]
  simpa using hi
/-- A number's part; 0 below 0. -/
def partOf (n by_ : Int) : Int := if n < 0 then 0 else n % by_
theorem partOf_bd (n : Int) {b : Int} (h : 0 < b) : 0 ≤ partOf n b ∧ partOf n b < b := by
  unfold partOf
  split
  · omega
  · exact ⟨Int.emod_nonneg _ (by omega), Int.emod_lt_of_pos _ h⟩
/-- The nine, the first k of them written. -/
def nineTo (k : Nat) : List Bool := (List.range 9).map fun j => decide (j < k) && decide (j % 3 ≠ 2)
/-- What a configuration says, without where it stands. -/
def Cnf.sig (c : Cnf) : List Int × List (Bool × List Bool) := ([c.frags, c.spine, c.globals, c.threads, c.locals, c.cache, c.stack, c.low], c.shapes.map fun s => (s.arr, s.refs))
def smallSig (n : Int) : List Int × List (Bool × List Bool) := ([16 + partOf n 32, 24 + partOf n 40, 2, 3, 3, partOf n 3, 1 + partOf n 4, partOf n 4],
  [(false, [true, true, false]), (false, [true, true, false, true, true, false, true, true, false]), (true, [true]), (true, [false]), (false, [])])
def SmallGot (n : Int) (w : World) (e : Ending) (w' : World) : Prop := ∃ c : Cnf, e = .returned c.val ∧ c.sig = smallSig n ∧ c.Ok w' ∧ Ext w w'
end Go
namespace Go.Proofs.Ythdijbkcjmeilaa
open Go Go.RowKit
set_option linter.unusedVariables false

def nineC (k : Nat) : Obj := .cells ((nineTo k).map Value.bool).toArray 4

end Go.Proofs.Ythdijbkcjmeilaa
