/-
  spolaw12.first.
-/
import Derived.Test.YthdijbkcjmeilaaObject
import Derived.Test.YthdijbkcjmeilaaLaid
import Derived.Test.YthdijbkcjmeilaaSmall
namespace Go.Proofs.Ythdijbkcjmeilaa
open Go Go.RowKit
set_option linter.unusedVariables false

set_option maxRecDepth 100000 in
set_option maxHeartbeats 1000000 in
theorem first12_any (w : World) : Calls Try.prog 7 #[] w (Gives (.bool true) w) := by
  go_enter Try.func7, Try.ntmps7
  go_wp2_with fail
  refine (object_any ⟨4, 0, 0, 1, 1, 0, 1, 0, some ⟨w.heap.size, 0, none⟩, 1, [⟨false, none, 0, []⟩]⟩ 0 (some ⟨w.heap.size + 2, 0, none⟩) 1 [2] _ ?ok ?got (by decide) (by decide)).mono ?_
  case ok =>
    refine ⟨((cellsAt_new _ _ _ _ rfl).alloc _).alloc _, fun s hs => ?_, by simp, by simp⟩
    simp only [List.mem_cons, List.not_mem_nil, or_false] at hs
    subst hs
    exact ⟨CellsAt.nil _ _, by decide, by decide⟩
  case got => exact cellsAt_new _ _ _ _ (by simp)
  rintro e w1 ⟨s', l, n, rfl, hs, hown, hE⟩
  obtain ⟨arr, A', cap', refs⟩ := s'
  rw [show Cnf.shapeAt ⟨4, 0, 0, 1, 1, 0, 1, 0, some ⟨w.heap.size, 0, none⟩, 1, [⟨false, none, 0, []⟩]⟩ 0 = some (false, []) from rfl] at hs hown ⊢
  simp only [Option.getD_some, Prod.mk.injEq] at hs
  obtain ⟨rfl, rfl⟩ := hs
  have hz : wrongE ⟨4, 0, 0, 1, 1, 0, 1, 0, some ⟨w.heap.size, 0, none⟩, 1, [⟨false, none, 0, []⟩]⟩ (some (false, ([] : List Bool))).isSome ⟨false, A', cap', []⟩ 0 false [2] = 0 := rfl
  rw [hz] at hown ⊢
  rw [if_pos rfl] at hown
  have hn := hown.1
  rw [objWrites_length] at hn
  obtain rfl : n = 8 := by simp at hn; omega
  obtain ⟨Al, cl, rfl⟩ := own_form hown
  have hc := cellsAt_of_own hown
  obtain ⟨q0, -⟩ := objWrites_get ⟨false, A', cap', []⟩ 0 [2] (isSide [2]) (n := 1) (i := 0) (k := 0) (by decide) (by decide)
  obtain ⟨q7, -⟩ := objWrites_get ⟨false, A', cap', []⟩ 0 [2] (isSide [2]) (n := 1) (i := 0) (k := 7) (by decide) (by decide)
  obtain ⟨b, o, hA, hb, hcell⟩ := hc.cases (by rw [objWrites_length]; decide)
  have c0 : w1.cell? ⟨b, o, none⟩ = some (.int .i64 16) := hcell 0 _ q0
  have c7 : w1.cell? ⟨b, o + 14, none⟩ = some (.int .i64 23) := hcell 14 _ q7
  subst hA
  have HE := Lib.hid (show Ext w w1 from (show Ext w _ by (repeat (first | (with_reducible assumption) | (with_reducible exact Ext.refl _) | (with_reducible exact Ext.more _ _ _ _) | (with_reducible apply Ext.alloc) | (with_reducible apply Ext.patch) | (with_reducible apply Ext.drew) | (with_reducible apply Ext.drewN) | (with_reducible refine Ext.setCell ?_ (by first | assumption | exact Nat.le_refl _ | exact Nat.le_add_right _ _) _)))).trans hE)
  clear hc hcell q0 q7 hown hE hz hn
  go_wp2_with fail
  go_ret
  exact Gives.bool rfl HE.out
end Go.Proofs.Ythdijbkcjmeilaa
