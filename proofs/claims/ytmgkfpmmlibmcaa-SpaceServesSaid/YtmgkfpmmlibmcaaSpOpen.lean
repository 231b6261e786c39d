/-
  A row of spolaw21's operations that came in, opened.
-/
import Derived.Test.YtmgkfpmmlibmcaaOpen
import Derived.Test.YtmgkfpmmlibmcaaSt
namespace Go
/-- An operation. -/
structure OpS where
  kind : Int
  t : Int
  frags : Int
  spine : Int
  n : Int
  sense : Bool
def OpS.cells (o : OpS) : List Value := [.int .i64 o.kind, .int .i64 o.t, .int .i64 o.frags, .int .i64 o.spine, .int .i64 o.n, .bool o.sense]
theorem OpS.cells_len (o : OpS) : o.cells.length = 6 := rfl
end Go
namespace Go.Proofs.Ytmgkfpmmlibmcaa
open Go Go.RowKit Go.ChangeShapes Go.WideShapes Go.Deep
set_option linter.unusedVariables false
variable {H : Type} {enc : TypeId × Value → H} {w : World} {base : Nat} {spare : Nat → Bool} {held : Bool}
set_option maxRecDepth 100000 in
theorem open_op {fuel : Nat} {cs : List Value} {x : DataW H × List MemPlace} (h : DataW.trod enc Try.prog w base spare held fuel 88 cs = some x) : ∃ o : OpS, cs = o.cells := by
  obtain ⟨xs, n, rfl, rfl, hl, hxl, hf⟩ := DataW.trod_struct Try.underlying88 h
  rw [show Try.prog.cellsOf 88 = 6 by kernel_rfl] at hl
  obtain _ | ⟨c0, _ | ⟨c1, _ | ⟨c2, _ | ⟨c3, _ | ⟨c4, _ | ⟨c5, _ | ⟨_, _⟩⟩⟩⟩⟩⟩⟩ := cs <;> simp at hl
  obtain _ | ⟨x0, _ | ⟨x1, _ | ⟨x2, _ | ⟨x3, _ | ⟨x4, _ | ⟨x5, _ | ⟨_, _⟩⟩⟩⟩⟩⟩⟩ := xs <;> simp at hxl
  have h0 := hf 0 ⟨"Kind", 3, 0, false, "", "", 0⟩ rfl
  have h1 := hf 1 ⟨"T", 3, 1, false, "", "", 8⟩ rfl
  have h2 := hf 2 ⟨"Frags", 3, 2, false, "", "", 16⟩ rfl
  have h3 := hf 3 ⟨"Spine", 3, 3, false, "", "", 24⟩ rfl
  have h4 := hf 4 ⟨"N", 3, 4, false, "", "", 32⟩ rfl
  have h5 := hf 5 ⟨"Sense", 4, 5, false, "", "", 40⟩ rfl
  dsimp only at h0 h1 h2 h3 h4 h5
  rw [show Try.prog.cellsOf 3 = 1 by kernel_rfl] at h0 h1 h2 h3 h4
  rw [show Try.prog.cellsOf 4 = 1 by kernel_rfl] at h5
  obtain ⟨n0, e0, -, -⟩ := DataW.trod_int (x := x0) Try.underlying3 h0
  obtain ⟨n1, e1, -, -⟩ := DataW.trod_int (x := x1) Try.underlying3 h1
  obtain ⟨n2, e2, -, -⟩ := DataW.trod_int (x := x2) Try.underlying3 h2
  obtain ⟨n3, e3, -, -⟩ := DataW.trod_int (x := x3) Try.underlying3 h3
  obtain ⟨n4, e4, -, -⟩ := DataW.trod_int (x := x4) Try.underlying3 h4
  obtain ⟨b5, e5, _⟩ := DataW.trod_bool (x := x5) Try.underlying4 h5
  simp at e0 e1 e2 e3 e4 e5
  subst e0 e1 e2 e3 e4 e5
  exact ⟨⟨n0, n1, n2, n3, n4, b5⟩, rfl⟩
theorem ops_length (l : List OpS) : (l.flatMap OpS.cells).length = l.length * 6 := by
  induction l with
  | nil => rfl
  | cons s l ih => rw [List.flatMap_cons, List.length_append, ih]; simp [OpS.cells]; omega
set_option maxRecDepth 100000 in
theorem open_ops {r : Reach} {b0 : Nat} {v : Value} {d : DataW H} {p : List MemPlace} (hv : Value.okWide Try.prog w r b0 82 v) (h : DataW.Trod enc Try.prog w base spare held 82 v d p) :
    ∃ (A : Option Addr) (cap : Nat) (l : List OpS), v = .slice A l.length cap ∧ CellsAt w A (l.flatMap OpS.cells) ∧ l.length ≤ cap ∧ cap ≤ 9223372036854775807 := by
  obtain ⟨A, len, cap, rfl⟩ := okWide_slice Try.underlying82 hv
  obtain ⟨fuel, h⟩ := h
  simp only [Value.cells] at h
  rcases open_slice (x := (d, p)) Try.underlying82 h with ⟨hcs, _⟩ | ⟨a, len', cap', m, n, D, Pl, hcs, hb, hl, hm, hmm, hxx, hx⟩
  · simp only [List.cons.injEq, Value.slice.injEq, and_true] at hcs
    obtain ⟨rfl, rfl, rfl⟩ := hcs
    exact ⟨none, 0, [], rfl, CellsAt.nil _ _, Nat.le_refl _, by decide⟩
  · simp only [List.cons.injEq, Value.slice.injEq, and_true] at hcs
    obtain ⟨rfl, rfl, rfl⟩ := hcs
    have hlm : len ≤ m := by subst hmm; split <;> omega
    rw [show Try.prog.cellsOf 88 = 6 by kernel_rfl] at hx
    have hS : ∀ i, ∃ o : OpS, i < len → ∀ j, j < 6 → w.cell? ((a.add (i * 6)).add j) = o.cells[j]? := fun i => by
      by_cases hi : i < len
      · obtain ⟨cs', hc, ht⟩ := hx i (by omega)
        obtain ⟨o, rfl⟩ := open_op ht
        obtain ⟨_, _, hat⟩ := World.cells?_some hc
        exact ⟨o, fun _ j hj => hat j hj⟩
      · exact ⟨⟨0, 0, 0, 0, 0, false⟩, fun h => absurd h hi⟩
    obtain ⟨S, hS⟩ := Classical.axiomOfChoice hS
    refine ⟨some a, cap, (List.range len).map S, by simp, ?_, by simpa using hl, by simpa [maxLen] using hm⟩
    refine cellsAt_of (fun j v hj => ?_)
    have hjl := (List.getElem?_eq_some_iff.1 hj).1
    rw [ops_length] at hjl
    simp only [List.length_map, List.length_range] at hjl
    have hi : j / 6 < len := by omega
    have hg : ((List.range len).map S)[j / 6]? = some (S (j / 6)) := by simp [hi]
    have hq := hS (j / 6) hi (j % 6) (by omega)
    have e := flat_at OpS.cells_len _ (j / 6) (j % 6) _ hg (by omega)
    rw [show j / 6 * 6 + j % 6 = j by omega, hj] at e
    rw [Go.Deep.add_add, show j / 6 * 6 + j % 6 = j by omega, ← e] at hq
    exact hq
end Go.Proofs.Ytmgkfpmmlibmcaa
