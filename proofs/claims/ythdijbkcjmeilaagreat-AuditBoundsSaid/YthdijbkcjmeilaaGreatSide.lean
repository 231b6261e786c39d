/-
  stock.Side, sporef6.Side, spolaw4.Few.
-/
import Derived.Test.YthdijbkcjmeilaaGreatShape2
import Derived.Test.YthdijbkcjmeilaaGreatMem
namespace Go
/-- Each is one more than the one ahead. -/
def sideTo (l : List Int) (k : Nat) : Bool := (List.range k).all fun i => decide (l.getD i 0 ≠ 9223372036854775807 ∧ l.getD (i + 1) 0 = l.getD i 0 + 1)
def isSide (l : List Int) : Bool := sideTo l (l.length - 1)
theorem sideTo_succ (l : List Int) (k : Nat) : sideTo l (k + 1) = (sideTo l k && decide (l.getD k 0 ≠ 9223372036854775807 ∧ l.getD (k + 1) 0 = l.getD k 0 + 1)) := by
  simp [sideTo, List.range_succ, List.all_append]
theorem isSide_no {l : List Int} {k : Nat} (hk : k + 1 < l.length) (h : ¬ (l.getD k 0 ≠ 9223372036854775807 ∧ l.getD (k + 1) 0 = l.getD k 0 + 1)) : isSide l = false := by
  unfold isSide sideTo
  rw [List.all_eq_false]
  exact ⟨k, List.mem_range.2 (by omega), by simpa using h⟩
end Go
namespace Go.Proofs.YthdijbkcjmeilaaGreat
open Go Go.RowKit

theorem ints_at {w : World} {A : Option Addr} {l : List Int} (h : CellsAt w A (l.map (Value.int .i64))) {k : Nat} (hk : k < l.length) : ∃ b o, A = some ⟨b, o, none⟩ ∧ b < w.heap.size ∧ ∀ j, j < l.length → w.cell? ⟨b, o + j, none⟩ = some (.int .i64 (l.getD j 0)) := by
  obtain ⟨b, o, hA, hb, hc⟩ := h.cases (by simp; omega)
  refine ⟨b, o, hA, hb, fun j hj => hc j _ ?_⟩
  rw [List.getElem?_map, List.getElem?_eq_getElem hj]
  simp [List.getD, List.getElem?_eq_getElem hj]

set_option maxHeartbeats 1000000 in
theorem side_any (A : Option Addr) (cap : Nat) (l : List Int) (w : World) (hc : CellsAt w A (l.map (Value.int .i64))) (hl : l.length ≤ 140737488355328) (hw : ∀ x ∈ l, -9223372036854775808 ≤ x ∧ x ≤ 9223372036854775807) :
    Calls Tryz.prog 176 #[.slice A l.length cap] w (Gives (.bool (isSide l)) w) := by
  go_enter Tryz.func176, Tryz.ntmps176
  go_wp2_with fail
  go_loopw [3] (fun i wr => ∃ k : Nat, (k + 1 ≤ l.length ∨ k = 0) ∧ i = .int .i64 (k + 1 : Nat) ∧ sideTo l k = true ∧ Ext w wr) (fun i _ => l.length + 1 - (intOf i).toNat)
  case atStart => exact ⟨0, .inr rfl, rfl, rfl, Ext.refl _⟩
  case round =>
    obtain ⟨k, hk, rfl, hs, X, rfl⟩ := hrel
    have HS := Lib.hid hs
    clear hs
    by_cases hlt : k + 1 < l.length
    · obtain ⟨b, o, rfl, hb, hcell⟩ := ints_at hc hlt
      have g0 := hcell k (by omega)
      have g1 := hcell (k + 1) hlt
      have w0 := hw (l.getD k 0) (by simp [List.getD, List.getElem?_eq_getElem (show k < l.length by omega)])
      have HT := Lib.hid (sideTo_succ l k)
      have HN := Lib.hid (fun h => isSide_no (l := l) hlt h)
      clear hcell hc hw
      generalize l.getD k 0 = x at *
      generalize l.getD (k + 1) 0 = y at *
      have hk' : ((k + 1 : Nat) : Int) = (k : Int) + 1 := rfl
      rw [hk']
      clear hk'
      go_wp2_with fail
      have hk2 : k < l.length := by omega
      have hi1 : IntKind.i64.wrap ((k : Int) + 1 - 1) = k := by rw [IntWalk.i64_in _ (by omega)]; omega
      obtain ⟨w0a, w0b⟩ := w0
      cases hb : (x == 9223372036854775807)
      · have hx : x ≤ 9223372036854775806 := by have := beq_eq_false_iff_ne.1 hb; omega
        clear w0b
        go_quiet (fail)
        cases hy : (y != x + 1)
        · have HY := Lib.hid (HT.out.trans (by rw [HS.out, decide_eq_true (⟨by omega, by simpa using hy⟩ : x ≠ 9223372036854775807 ∧ y = x + 1)]))
          go_wp2_with fail
          go_roundw
          case rel => exact ⟨k + 1, by omega, by go_num, HY.out, by (repeat (first | (with_reducible assumption) | (with_reducible exact Ext.refl _) | (with_reducible exact Ext.more _ _ _ _) | apply Ext.alloc | refine Ext.setCell ?_ (by first | exact Nat.le_refl _ | exact Nat.le_add_right _ _ | assumption) _ | apply Ext.patch | apply Ext.drew | apply Ext.drewN))⟩
          case measure => simp [intOf]; omega
        · have HF := Lib.hid (HN.out (fun h => by rw [bne_iff_ne] at hy; exact hy h.2))
          go_wp2_with fail
          go_ret
          exact Gives.bool HF.out.symm (by (repeat (first | (with_reducible assumption) | (with_reducible exact Ext.refl _) | (with_reducible exact Ext.more _ _ _ _) | apply Ext.alloc | refine Ext.setCell ?_ (by first | exact Nat.le_refl _ | exact Nat.le_add_right _ _ | assumption) _ | apply Ext.patch | apply Ext.drew | apply Ext.drewN)))
      · have HF := Lib.hid (HN.out (fun h => h.1 (beq_iff_eq.1 hb)))
        clear HN
        go_quiet (fail)
        go_wp2_with fail
        go_ret
        exact Gives.bool HF.out.symm (by (repeat (first | (with_reducible assumption) | (with_reducible exact Ext.refl _) | (with_reducible exact Ext.more _ _ _ _) | apply Ext.alloc | refine Ext.setCell ?_ (by first | exact Nat.le_refl _ | exact Nat.le_add_right _ _ | assumption) _ | apply Ext.patch | apply Ext.drew | apply Ext.drewN)))
    · have HV := Lib.hid (show isSide l = true by unfold isSide; rw [show l.length - 1 = k by omega]; exact HS.out)
      go_wp2_with fail
      go_ret
      exact Gives.bool HV.out.symm (by (repeat (first | (with_reducible assumption) | (with_reducible exact Ext.refl _) | (with_reducible exact Ext.more _ _ _ _) | apply Ext.alloc | refine Ext.setCell ?_ (by first | exact Nat.le_refl _ | exact Nat.le_add_right _ _ | assumption) _ | apply Ext.patch | apply Ext.drew | apply Ext.drewN)))
end Go.Proofs.YthdijbkcjmeilaaGreat
