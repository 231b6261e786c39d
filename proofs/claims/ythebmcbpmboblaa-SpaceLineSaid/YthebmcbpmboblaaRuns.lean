/-
  SpaceRuns: the walk.
-/
import Derived.Test.YthebmcbpmboblaaRunsP
namespace Go.Proofs.Ythebmcbpmboblaa
open Go Go.RowKit
set_option linter.unusedVariables false
set_option linter.unnecessarySimpa false
set_option linter.unusedSimpArgs false
set_option maxHeartbeats 4000000
theorem small21_any (f s c : Int) (w : World) : Calls Try.prog 61 #[.int .i64 f, .int .i64 s, .int .i64 c] w (fun e w' => ∃ A, e = .returned (cS f s c A).val ∧ Ext w w' ∧ (cS f s c A).Ok w') := by
  go_enter Try.func61, Try.ntmps61
  go_wp2_with fail
  refine bodyPost_ret (v := .agg #[.int .i64 f, .int .i64 s, .int .i64 0, .int .i64 3, .int .i64 1, .int .i64 c, .int .i64 1, .int .i64 0, .slice (some ⟨w.heap.size + 1, 0, none⟩) 1 1]) (by simp [results, Try.results61, go_sem]) rfl ?_
  refine ⟨some ⟨w.heap.size + 1, 0, none⟩, rfl, by (repeat (first | (with_reducible assumption) | (with_reducible exact Ext.refl _) | (with_reducible exact Ext.more _ _ _ _) | apply Ext.alloc | refine Ext.setCell ?_ (by first | exact Nat.le_refl _ | exact Nat.le_add_right _ _ | assumption) _ | apply Ext.patch | apply Ext.drew | apply Ext.drewN)), ?_⟩
  obtain ⟨q1, q2⟩ := two_blocks w (.cells #[.int .i64 f, .int .i64 s, .int .i64 0, .int .i64 3, .int .i64 1, .int .i64 c, .int .i64 1, .int .i64 0, .slice (some ⟨w.heap.size + 1, 0, none⟩) 1 1] 24) (.cells #[.bool false, .slice none 0 0] 75)
  exact ⟨CellsAt.mk (Array.getElem?_eq_some_iff.1 q2).1 (fun i v hi => by rw [Nat.zero_add]; exact row_cell (l := [.bool false, .slice none 0 0]) q2 hi), fun s hs => by rw [List.mem_singleton.1 hs]; exact ⟨CellsAt.nil _ _, by simp, by simp⟩, Nat.le_refl _, (show 1 ≤ 140737488355328 by decide)⟩
/-- The sentence 'these numbers', of a row that was handed out. -/
theorem ints_lit {g : GW} {A : Option Addr} {n c : Nat} {l : List Int} {w : World} (hr : Row g 0 3 1 (.slice A n c) n (l.map (Value.int .i64))) (he : Ext g.w w) (hn : l.length = n) (h64 : n ≤ 1000) :
    Calls Try.prog 130 #[.slice A n c, .slice (some ⟨w.heap.size, 0, none⟩) n n] (w.alloc (.cells (l.map (Value.int .i64)).toArray 3)) (Gives (.bool true) (w.alloc (.cells (l.map (Value.int .i64)).toArray 3))) := by
  subst hn
  have := ints_any A (some ⟨w.heap.size, 0, none⟩) c l.length l l (w.alloc (.cells (l.map (Value.int .i64)).toArray 3)) (hr.cells.ext (he.alloc _)) (CellsAt.mk (by rw [World.size_alloc]; omega) (fun i v hi => by
    rw [Nat.zero_add]
    exact row_cell (World.row_alloc_new _) hi)) (by omega) (by omega)
  rw [decide_eq_true rfl] at this
  exact this
end Go.Proofs.Ythebmcbpmboblaa
