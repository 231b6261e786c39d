/-
  area: Words, Spine, Global.
-/
import Derived.Test.YthdijbkcjmeilaaGreatArea
namespace Go.Proofs.YthdijbkcjmeilaaGreat
open Go Go.RowKit
set_option linter.unusedVariables false
set_option maxHeartbeats 2000000
theorem index4b (x0 x1 x2 x3 : Value) (w : World) :
    (Instr.index 248 (.agg #[x0, x1, x2, x3]) (.int .i64 0)).run Tryz.prog w = .ok x0 w ∧
    (Instr.index 248 (.agg #[x0, x1, x2, x3]) (.int .i64 1)).run Tryz.prog w = .ok x1 w ∧
    (Instr.index 248 (.agg #[x0, x1, x2, x3]) (.int .i64 2)).run Tryz.prog w = .ok x2 w ∧
    (Instr.index 248 (.agg #[x0, x1, x2, x3]) (.int .i64 3)).run Tryz.prog w = .ok x3 w :=
  ⟨by kernel_rfl, by kernel_rfl, by kernel_rfl, by kernel_rfl⟩
def cWords (c : Cnf) : Int := if c.check = 0 then c.frags * 8 + c.spine + c.spine + c.globals else 0
theorem words_any (c : Cnf) (w : World) (hc : c.Ok w) : Calls Tryz.prog 148 #[c.val] w (Gives (.int .i64 (cWords c)) w) := by
  have HC := Lib.hid (fun w' (he : Ext w w') => sizes_any c w' (hc.ext he))
  obtain ⟨a0, a1, a2, a3, hS, hz, h0, h1, h2, h3⟩ : ∃ a0 a1 a2 a3 : Int, cSizes c = .agg #[.int .i64 a0, .int .i64 a1, .int .i64 a2, .int .i64 a3] ∧ cWords c = a0 + a1 + a2 + a3 ∧ (0 ≤ a0 ∧ a0 ≤ 8192) ∧ (0 ≤ a1 ∧ a1 ≤ 2048) ∧ (0 ≤ a2 ∧ a2 ≤ 2048) ∧ (0 ≤ a3 ∧ a3 ≤ 8) := by
    by_cases h0 : c.check = 0
    · obtain ⟨⟨_, _⟩, ⟨_, _⟩, ⟨_, _⟩, _⟩ := Cnf.ranged (Cnf.check_zero h0).1
      exact ⟨_, _, _, _, by unfold cSizes; rw [if_pos h0], by unfold cWords; rw [if_pos h0], by omega, by omega, by omega, by omega⟩
    · exact ⟨0, 0, 0, 0, by unfold cSizes; rw [if_neg h0], by unfold cWords; rw [if_neg h0]; rfl, by omega, by omega, by omega, by omega⟩
  rw [hS] at HC
  have HZ := Lib.hid hz
  clear hS hz
  have q0 := fun w => (index4b (.int .i64 a0) (.int .i64 a1) (.int .i64 a2) (.int .i64 a3) w).1
  have q1 := fun w => (index4b (.int .i64 a0) (.int .i64 a1) (.int .i64 a2) (.int .i64 a3) w).2.1
  have q2 := fun w => (index4b (.int .i64 a0) (.int .i64 a1) (.int .i64 a2) (.int .i64 a3) w).2.2.1
  have q3 := fun w => (index4b (.int .i64 a0) (.int .i64 a1) (.int .i64 a2) (.int .i64 a3) w).2.2.2
  unfold Cnf.val at HC ⊢
  go_enter Tryz.func148, Tryz.ntmps148
  go_wp2_with fail
  refine (HC.out _ (by (repeat (first | (with_reducible assumption) | (with_reducible exact Ext.refl _) | (with_reducible exact Ext.more _ _ _ _) | apply Ext.alloc | refine Ext.setCell ?_ (by first | exact Nat.le_refl _ | exact Nat.le_add_right _ _ | assumption) _ | apply Ext.patch | apply Ext.drew | apply Ext.drewN)))).mono ?_
  rintro e w1 ⟨rfl, X1, rfl⟩
  go_wp2_with fail
  refine wp_loop_rounds 5 ?_
  rw [rounds_succ]
  go_wp2_with fail
  rw [rounds_succ]
  go_wp2_with fail
  rw [rounds_succ]
  go_wp2_with fail
  rw [rounds_succ]
  go_wp2_with fail
  rw [rounds_succ]
  go_wp2_with fail
  go_ret
  exact Gives.int (by rw [HZ.out]; try simp) (by (repeat (first | (with_reducible assumption) | (with_reducible exact Ext.refl _) | (with_reducible exact Ext.more _ _ _ _) | apply Ext.alloc | refine Ext.setCell ?_ (by first | exact Nat.le_refl _ | exact Nat.le_add_right _ _ | assumption) _ | apply Ext.patch | apply Ext.drew | apply Ext.drewN)))
theorem global_any (c : Cnf) (k : Int) (w : World) (hc : c.Ok w) : Calls Tryz.prog 152 #[c.val, .int .i64 k] w (Gives (cAt c 3 k) w) := by
  have HC := Lib.hid (fun w' (he : Ext w w') => at_any c 3 k w' (hc.ext he) (by omega))
  have HV : ∃ x y : Int, cAt c 3 k = .tuple #[.int .i64 x, .int .i64 y] := by unfold cAt; split <;> exact ⟨_, _, rfl⟩
  obtain ⟨x, y, hv⟩ := HV
  rw [hv] at HC ⊢
  clear hv
  unfold Cnf.val at HC ⊢
  go_enter Tryz.func152, Tryz.ntmps152
  go_wp2_with fail
  refine (HC.out _ (by (repeat (first | (with_reducible assumption) | (with_reducible exact Ext.refl _) | (with_reducible exact Ext.more _ _ _ _) | apply Ext.alloc | refine Ext.setCell ?_ (by first | exact Nat.le_refl _ | exact Nat.le_add_right _ _ | assumption) _ | apply Ext.patch | apply Ext.drew | apply Ext.drewN)))).mono ?_
  rintro e w1 ⟨rfl, X1, rfl⟩
  go_wp2_with fail
  go_ret2
  exact Gives.ii rfl rfl (by (repeat (first | (with_reducible assumption) | (with_reducible exact Ext.refl _) | (with_reducible exact Ext.more _ _ _ _) | apply Ext.alloc | refine Ext.setCell ?_ (by first | exact Nat.le_refl _ | exact Nat.le_add_right _ _ | assumption) _ | apply Ext.patch | apply Ext.drew | apply Ext.drewN)))
theorem spine_any (c : Cnf) (s : Nat) (k : Int) (w : World) (hc : c.Ok w) (hs : s < 2) : Calls Tryz.prog 178 #[c.val, .int .i64 s, .int .i64 k] w (Gives (cAt c (s + 1) k) w) := by
  have HC := Lib.hid (fun w' (he : Ext w w') => at_any c (s + 1) k w' (hc.ext he) (by omega))
  have HV : ∃ x y : Int, cAt c (s + 1) k = .tuple #[.int .i64 x, .int .i64 y] := by unfold cAt; split <;> exact ⟨_, _, rfl⟩
  obtain ⟨x, y, hv⟩ := HV
  rw [hv] at HC ⊢
  clear hv
  unfold Cnf.val at HC ⊢
  rcases (show s = 0 ∨ s = 1 by omega) with rfl | rfl
  · go_enter Tryz.func178, Tryz.ntmps178
    go_wp2_with fail
    refine (HC.out _ (by (repeat (first | (with_reducible assumption) | (with_reducible exact Ext.refl _) | (with_reducible exact Ext.more _ _ _ _) | apply Ext.alloc | refine Ext.setCell ?_ (by first | exact Nat.le_refl _ | exact Nat.le_add_right _ _ | assumption) _ | apply Ext.patch | apply Ext.drew | apply Ext.drewN)))).mono ?_
    rintro e w1 ⟨rfl, X1, rfl⟩
    go_wp2_with fail
    go_ret2
    exact Gives.ii rfl rfl (by (repeat (first | (with_reducible assumption) | (with_reducible exact Ext.refl _) | (with_reducible exact Ext.more _ _ _ _) | apply Ext.alloc | refine Ext.setCell ?_ (by first | exact Nat.le_refl _ | exact Nat.le_add_right _ _ | assumption) _ | apply Ext.patch | apply Ext.drew | apply Ext.drewN)))
  · go_enter Tryz.func178, Tryz.ntmps178
    go_wp2_with fail
    refine (HC.out _ (by (repeat (first | (with_reducible assumption) | (with_reducible exact Ext.refl _) | (with_reducible exact Ext.more _ _ _ _) | apply Ext.alloc | refine Ext.setCell ?_ (by first | exact Nat.le_refl _ | exact Nat.le_add_right _ _ | assumption) _ | apply Ext.patch | apply Ext.drew | apply Ext.drewN)))).mono ?_
    rintro e w1 ⟨rfl, X1, rfl⟩
    go_wp2_with fail
    go_ret2
    exact Gives.ii rfl rfl (by (repeat (first | (with_reducible assumption) | (with_reducible exact Ext.refl _) | (with_reducible exact Ext.more _ _ _ _) | apply Ext.alloc | refine Ext.setCell ?_ (by first | exact Nat.le_refl _ | exact Nat.le_add_right _ _ | assumption) _ | apply Ext.patch | apply Ext.drew | apply Ext.drewN)))
end Go.Proofs.YthdijbkcjmeilaaGreat
