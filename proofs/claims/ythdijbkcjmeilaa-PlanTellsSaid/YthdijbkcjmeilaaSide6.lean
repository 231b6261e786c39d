/-
  sporef6.Side: the document's 'side by side'.
-/
import Derived.Test.YthdijbkcjmeilaaSide
namespace Go.Proofs.Ythdijbkcjmeilaa
open Go Go.RowKit
set_option linter.unusedVariables false
set_option maxHeartbeats 1000000 in
theorem rside_any (A : Option Addr) (cap : Nat) (l : List Int) (w : World) (hc : CellsAt w A (l.map (Value.int .i64))) (hl : l.length ≤ 140737488355328) (hw : ∀ x ∈ l, -9223372036854775808 ≤ x ∧ x ≤ 9223372036854775807) :
    Calls Try.prog 43 #[.slice A l.length cap] w (Gives (.bool (isSide l)) w) := by
  go_enter Try.func43, Try.ntmps43
  go_wp2_with fail
  go_loopw [3] (fun i wr => ∃ k : Nat, (k + 1 ≤ l.length ∨ k = 0) ∧ i = .int .i64 (k + 1 : Nat) ∧ sideTo l k = true ∧ Ext w wr) (fun i _ => l.length + 1 - (intOf i).toNat)
  case atStart => exact ⟨0, .inr rfl, rfl, rfl, Ext.refl _⟩
  case round =>
    obtain ⟨k, hk, rfl, hs, X, rfl⟩ := hrel
    have HS := Lib.hid hs
    clear hs
    by_cases hlt : k + 1 < l.length
    · obtain ⟨b, o, rfl, hb, hcell⟩ := ints_at hc hlt
      have g0 := hcell k (by omega)
      have g1 := hcell (k + 1) hlt
      have w0 := hw (l.getD k 0) (by simp [List.getD, List.getElem?_eq_getElem (show k < l.length by omega)])
      have w1 := hw (l.getD (k + 1) 0) (by simp [List.getD, List.getElem?_eq_getElem hlt])
      have HT := Lib.hid (sideTo_succ l k)
      have HN := Lib.hid (fun h => isSide_no (l := l) hlt h)
      clear hcell hc hw
      generalize l.getD k 0 = x at *
      generalize l.getD (k + 1) 0 = y at *
      have hk' : ((k + 1 : Nat) : Int) = (k : Int) + 1 := rfl
      rw [hk']
      clear hk'
      go_wp2_with fail
      have hk2 : k < l.length := by omega
      have hi1 : IntKind.i64.wrap ((k : Int) + 1 - 1) = k := by rw [IntWalk.i64_in _ (by omega)]; omega
      obtain ⟨w0a, w0b⟩ := w0
      obtain ⟨w1a, w1b⟩ := w1
      by_cases hle : y ≤ x
      · have HF := Lib.hid (HN.out (fun h => by omega))
        have hd : decide (y ≤ x) = true := decide_eq_true hle
        clear HN w0b w0a w1a w1b
        go_quiet (fail)
        go_wp2_with fail
        go_ret
        exact Gives.bool HF.out.symm (by (repeat (first | (with_reducible assumption) | (with_reducible exact Ext.refl _) | (with_reducible exact Ext.more _ _ _ _) | apply Ext.alloc | refine Ext.setCell ?_ (by first | exact Nat.le_refl _ | exact Nat.le_add_right _ _ | assumption) _ | apply Ext.patch | apply Ext.drew | apply Ext.drewN)))
      · have hd : decide (y ≤ x) = false := decide_eq_false hle
        have hw2 : IntKind.i64.wrap (y - 1) = y - 1 := by rw [IntWalk.i64_in _ (by omega)]
        cases hy : (y - 1 != x)
        · have HY := Lib.hid (HT.out.trans (by rw [HS.out, decide_eq_true (⟨by omega, by have := bne_eq_false_iff_eq.1 hy; omega⟩ : x ≠ 9223372036854775807 ∧ y = x + 1)]))
          clear w0b w0a w1a w1b
          go_quiet (fail)
          go_wp2_with fail
          go_roundw
          case rel => exact ⟨k + 1, by omega, by go_num, HY.out, by (repeat (first | (with_reducible assumption) | (with_reducible exact Ext.refl _) | (with_reducible exact Ext.more _ _ _ _) | apply Ext.alloc | refine Ext.setCell ?_ (by first | exact Nat.le_refl _ | exact Nat.le_add_right _ _ | assumption) _ | apply Ext.patch | apply Ext.drew | apply Ext.drewN))⟩
          case measure => simp [intOf]; omega
        · have HF := Lib.hid (HN.out (fun h => by rw [bne_iff_ne] at hy; omega))
          clear w0b w0a w1a w1b
          go_quiet (fail)
          go_wp2_with fail
          go_ret
          exact Gives.bool HF.out.symm (by (repeat (first | (with_reducible assumption) | (with_reducible exact Ext.refl _) | (with_reducible exact Ext.more _ _ _ _) | apply Ext.alloc | refine Ext.setCell ?_ (by first | exact Nat.le_refl _ | exact Nat.le_add_right _ _ | assumption) _ | apply Ext.patch | apply Ext.drew | apply Ext.drewN)))
    · have HV := Lib.hid (show isSide l = true by unfold isSide; rw [show l.length - 1 = k by omega]; exact HS.out)
      go_wp2_with fail
      go_ret
      exact Gives.bool HV.out.symm (by (repeat (first | (with_reducible assumption) | (with_reducible exact Ext.refl _) | (with_reducible exact Ext.more _ _ _ _) | apply Ext.alloc | refine Ext.setCell ?_ (by first | exact Nat.le_refl _ | exact Nat.le_add_right _ _ | assumption) _ | apply Ext.patch | apply Ext.drew | apply Ext.drewN)))
end Go.Proofs.Ythdijbkcjmeilaa
