/-
  sporef.Ints.
-/
import Derived.Test.YtmgkfpmmlibmcaaPicks
namespace Go
theorem take_succ_eq {α : Type} {l m : List α} {k : Nat} {x y : α} (h : l.take k = m.take k) (hx : l[k]? = some x) (hy : m[k]? = some y) (he : x = y) : l.take (k + 1) = m.take (k + 1) := by
  rw [List.take_add_one, List.take_add_one, h, hx, hy, he]
theorem ints_len_ne {l m : List Int} (h : l.length ≠ m.length) : decide (l = m) = false := by
  rw [decide_eq_false_iff_not]
  rintro rfl
  exact h rfl
end Go
namespace Go.Proofs.Ytmgkfpmmlibmcaa
open Go Go.RowKit
set_option linter.unusedVariables false

set_option maxRecDepth 100000 in
set_option maxHeartbeats 1000000 in
theorem ints_any (A B : Option Addr) (ca cb : Nat) (l m : List Int) (w : World) (ha : CellsAt w A (l.map (Value.int .i64))) (hb : CellsAt w B (m.map (Value.int .i64))) (hl : l.length ≤ 140737488355328) (hm : m.length ≤ 140737488355328) :
    Calls Try.prog 115 #[.slice A l.length ca, .slice B m.length cb] w (Gives (.bool (decide (l = m))) w) := by
  by_cases hlm : l.length = m.length
  · go_enter Try.func115, Try.ntmps115
    rw [hlm]
    go_wp2
    go_loopw [5] (fun i wr => ∃ k : Nat, k ≤ m.length ∧ i = .int .i64 k ∧ l.take k = m.take k ∧ Ext w wr) (fun i _ => m.length - (intOf i).toNat)
    case atStart => exact ⟨0, Nat.zero_le _, rfl, rfl, Ext.refl _⟩
    case round =>
      obtain ⟨k, hk, rfl, ht, X, rfl⟩ := hrel
      have HT := Lib.hid ht
      clear ht
      by_cases hlt : k < m.length
      · obtain ⟨b, o, rfl, hbl, hcb⟩ := words_at hb hlt
        obtain ⟨a, p, rfl, hal, hca⟩ := words_at ha (show k < l.length by omega)
        have g1 := hca k (by omega)
        have g2 := hcb k hlt
        have HX := Lib.hid (show l[k]? = some (l.getD k 0) by rw [List.getD_eq_getElem?_getD, List.getElem?_eq_getElem (by omega)]; rfl)
        have HY := Lib.hid (show m[k]? = some (m.getD k 0) by rw [List.getD_eq_getElem?_getD, List.getElem?_eq_getElem hlt]; rfl)
        generalize l.getD k 0 = x at *
        generalize m.getD k 0 = y at *
        have HL := Lib.hid hlm
        clear ha hb hca hcb hlm
        by_cases hxy : x = y
        · have HS := Lib.hid (take_succ_eq HT.out HX.out HY.out hxy)
          have hne : (x != y) = false := by simp [hxy]
          clear hxy
          go_wp2
          go_quiet (fail)
          go_wp2
          go_roundw
          case rel => exact ⟨k + 1, by omega, by go_num, HS.out, by (repeat (first | (with_reducible assumption) | (with_reducible exact Ext.refl _) | (with_reducible exact Ext.more _ _ _ _) | apply Ext.alloc | refine Ext.setCell ?_ (by first | exact Nat.le_refl _ | exact Nat.le_add_right _ _ | assumption) _ | apply Ext.patch | apply Ext.drew | apply Ext.drewN))⟩
          case measure => simp [intOf]; omega
        · have HS := Lib.hid (show decide (l = m) = false from decide_eq_false (fun e => hxy (by have h1 := HX.out; rw [e, HY.out] at h1; injection h1 with h1; exact h1.symm)))
          have hne : (x != y) = true := by simp [hxy]
          clear hxy
          go_wp2
          go_quiet (fail)
          go_wp2
          go_ret
          exact Gives.bool HS.out.symm (by (repeat (first | (with_reducible assumption) | (with_reducible exact Ext.refl _) | (with_reducible exact Ext.more _ _ _ _) | apply Ext.alloc | refine Ext.setCell ?_ (by first | exact Nat.le_refl _ | exact Nat.le_add_right _ _ | assumption) _ | apply Ext.patch | apply Ext.drew | apply Ext.drewN)))
      · obtain rfl : k = m.length := by omega
        have HS := Lib.hid (show decide (l = m) = true from decide_eq_true (by have h1 := HT.out; rwa [List.take_of_length_le (by omega), List.take_of_length_le (by omega)] at h1))
        have HL := Lib.hid hlm
        clear hlm ha hb
        go_wp2
        go_ret
        exact Gives.bool HS.out.symm (by (repeat (first | (with_reducible assumption) | (with_reducible exact Ext.refl _) | (with_reducible exact Ext.more _ _ _ _) | apply Ext.alloc | refine Ext.setCell ?_ (by first | exact Nat.le_refl _ | exact Nat.le_add_right _ _ | assumption) _ | apply Ext.patch | apply Ext.drew | apply Ext.drewN)))
  · have HS := Lib.hid (ints_len_ne hlm)
    have hne : ((l.length : Int) != (m.length : Int)) = true := by simp; omega
    clear hlm ha hb
    go_enter Try.func115, Try.ntmps115
    go_wp2
    go_ret
    exact Gives.bool HS.out.symm (by (repeat (first | (with_reducible assumption) | (with_reducible exact Ext.refl _) | (with_reducible exact Ext.more _ _ _ _) | apply Ext.alloc | refine Ext.setCell ?_ (by first | exact Nat.le_refl _ | exact Nat.le_add_right _ _ | assumption) _ | apply Ext.patch | apply Ext.drew | apply Ext.drewN)))
end Go.Proofs.Ytmgkfpmmlibmcaa
