/-
  area.Of: what an address is of.
-/
import Derived.Test.YthdijbkcjmeilaaArea
namespace Go.Proofs.Ythdijbkcjmeilaa
open Go Go.RowKit
set_option linter.unusedVariables false

def cOf (c : Cnf) (a : Int) : Int × Int × Int :=
  if a < 0 ∨ ¬ c.check = 0 then (0, 0, 0)
  else if a < c.frags * 8 then (1, a / 8, a % 8)
  else if a < c.frags * 8 + c.spine then (2, 0, a - c.frags * 8)
  else if a < c.frags * 8 + c.spine + c.spine then (3, 0, a - c.frags * 8 - c.spine)
  else if a < c.frags * 8 + c.spine + c.spine + c.globals then (4, 0, a - c.frags * 8 - c.spine - c.spine)
  else (0, 0, 0)
def tri (p : Int × Int × Int) : Value := .tuple #[.int .i64 p.1, .int .i64 p.2.1, .int .i64 p.2.2]
theorem index4 (x0 x1 x2 x3 : Value) (w : World) :
    (Instr.index 133 (.agg #[x0, x1, x2, x3]) (.int .i64 0)).run Try.prog w = .ok x0 w ∧
    (Instr.index 133 (.agg #[x0, x1, x2, x3]) (.int .i64 1)).run Try.prog w = .ok x1 w ∧
    (Instr.index 133 (.agg #[x0, x1, x2, x3]) (.int .i64 2)).run Try.prog w = .ok x2 w ∧
    (Instr.index 133 (.agg #[x0, x1, x2, x3]) (.int .i64 3)).run Try.prog w = .ok x3 w :=
  ⟨by kernel_rfl, by kernel_rfl, by kernel_rfl, by kernel_rfl⟩

def ofIn (a0 a1 a2 a3 a : Int) : Int × Int × Int :=
  if a < 0 then (0, 0, 0) else if a < a0 then (1, a / 8, a % 8) else if a < a0 + a1 then (2, 0, a - a0) else if a < a0 + a1 + a2 then (3, 0, a - a0 - a1)
  else if a < a0 + a1 + a2 + a3 then (4, 0, a - a0 - a1 - a2) else (0, 0, 0)

set_option maxRecDepth 100000 in
set_option maxHeartbeats 2000000 in
theorem of_any (c : Cnf) (a : Int) (w : World) (hc : c.Ok w) (ha0 : -9223372036854775808 ≤ a) (ha1 : a ≤ 9223372036854775807) :
    Calls Try.prog 81 #[c.val, .int .i64 a] w (Gives (tri (cOf c a)) w) := by
  have HC := Lib.hid (fun w' (he : Ext w w') => sizes_any c w' (hc.ext he))
  obtain ⟨a0, a1, a2, a3, hS, hz, h0, h1, h2, h3⟩ : ∃ a0 a1 a2 a3 : Int, cSizes c = .agg #[.int .i64 a0, .int .i64 a1, .int .i64 a2, .int .i64 a3] ∧ cOf c a = ofIn a0 a1 a2 a3 a ∧ (0 ≤ a0 ∧ a0 ≤ 8192) ∧ (0 ≤ a1 ∧ a1 ≤ 2048) ∧ (0 ≤ a2 ∧ a2 ≤ 2048) ∧ (0 ≤ a3 ∧ a3 ≤ 8) := by
    by_cases h0 : c.check = 0
    · obtain ⟨⟨_, _⟩, ⟨_, _⟩, ⟨_, _⟩, _⟩ := Cnf.ranged (Cnf.check_zero h0).1
      refine ⟨_, _, _, _, by unfold cSizes; rw [if_pos h0], ?_, by omega, by omega, by omega, by omega⟩
      unfold cOf ofIn
      by_cases hn : a < 0
      · rw [if_pos (Or.inl hn), if_pos hn]
      · rw [if_neg (by omega), if_neg hn]
    · refine ⟨0, 0, 0, 0, by unfold cSizes; rw [if_neg h0], ?_, by omega, by omega, by omega, by omega⟩
      unfold cOf ofIn
      rw [if_pos (Or.inr h0)]
      by_cases hn : a < 0
      · rw [if_pos hn]
      · rw [if_neg hn, if_neg hn, if_neg (by omega), if_neg (by omega), if_neg (by omega)]
  rw [hS] at HC
  rw [hz]
  clear hS hz
  unfold Cnf.val at HC ⊢
  by_cases hn : a < 0
  · have HV := Lib.hid (show ofIn a0 a1 a2 a3 a = (0, 0, 0) by unfold ofIn; rw [if_pos hn])
    go_enter Try.func81, Try.ntmps81
    go_wp2_with fail
    go_ret3
    rw [HV.out]
    exact Gives.mk rfl (by (repeat (first | (with_reducible assumption) | (with_reducible exact Ext.refl _) | (with_reducible exact Ext.more _ _ _ _) | apply Ext.alloc | refine Ext.setCell ?_ (by first | exact Nat.le_refl _ | exact Nat.le_add_right _ _ | assumption) _ | apply Ext.patch | apply Ext.drew | apply Ext.drewN)))
  have q0 := fun w => (index4 (.int .i64 a0) (.int .i64 a1) (.int .i64 a2) (.int .i64 a3) w).1
  have q1 := fun w => (index4 (.int .i64 a0) (.int .i64 a1) (.int .i64 a2) (.int .i64 a3) w).2.1
  have q2 := fun w => (index4 (.int .i64 a0) (.int .i64 a1) (.int .i64 a2) (.int .i64 a3) w).2.2.1
  have q3 := fun w => (index4 (.int .i64 a0) (.int .i64 a1) (.int .i64 a2) (.int .i64 a3) w).2.2.2
  by_cases g0 : a < a0
  · have HV := Lib.hid (show ofIn a0 a1 a2 a3 a = (1, a / 8, a % 8) by unfold ofIn; rw [if_neg hn, if_pos g0])
    go_enter Try.func81, Try.ntmps81
    go_wp2_with fail
    refine (HC.out _ (by (repeat (first | (with_reducible assumption) | (with_reducible exact Ext.refl _) | (with_reducible exact Ext.more _ _ _ _) | apply Ext.alloc | refine Ext.setCell ?_ (by first | exact Nat.le_refl _ | exact Nat.le_add_right _ _ | assumption) _ | apply Ext.patch | apply Ext.drew | apply Ext.drewN)))).mono ?_
    rintro e w1 ⟨rfl, X1, rfl⟩
    go_wp2_with fail
    refine wp_loop_rounds 1 ?_
    rw [rounds_succ]
    go_wp2_with fail
    go_ret3
    rw [HV.out]
    exact Gives.mk rfl (by (repeat (first | (with_reducible assumption) | (with_reducible exact Ext.refl _) | (with_reducible exact Ext.more _ _ _ _) | apply Ext.alloc | refine Ext.setCell ?_ (by first | exact Nat.le_refl _ | exact Nat.le_add_right _ _ | assumption) _ | apply Ext.patch | apply Ext.drew | apply Ext.drewN)))
  by_cases g1 : a < a0 + a1
  · have HV := Lib.hid (show ofIn a0 a1 a2 a3 a = (2, 0, a - a0) by unfold ofIn; rw [if_neg hn, if_neg g0, if_pos g1])
    go_enter Try.func81, Try.ntmps81
    go_wp2_with fail
    refine (HC.out _ (by (repeat (first | (with_reducible assumption) | (with_reducible exact Ext.refl _) | (with_reducible exact Ext.more _ _ _ _) | apply Ext.alloc | refine Ext.setCell ?_ (by first | exact Nat.le_refl _ | exact Nat.le_add_right _ _ | assumption) _ | apply Ext.patch | apply Ext.drew | apply Ext.drewN)))).mono ?_
    rintro e w1 ⟨rfl, X1, rfl⟩
    go_wp2_with fail
    refine wp_loop_rounds 2 ?_
    rw [rounds_succ]
    go_wp2_with fail
    rw [rounds_succ]
    go_wp2_with fail
    go_ret3
    rw [HV.out]
    exact Gives.mk rfl (by (repeat (first | (with_reducible assumption) | (with_reducible exact Ext.refl _) | (with_reducible exact Ext.more _ _ _ _) | apply Ext.alloc | refine Ext.setCell ?_ (by first | exact Nat.le_refl _ | exact Nat.le_add_right _ _ | assumption) _ | apply Ext.patch | apply Ext.drew | apply Ext.drewN)))
  by_cases g2 : a < a0 + a1 + a2
  · have HV := Lib.hid (show ofIn a0 a1 a2 a3 a = (3, 0, a - a0 - a1) by unfold ofIn; rw [if_neg hn, if_neg g0, if_neg g1, if_pos g2])
    go_enter Try.func81, Try.ntmps81
    go_wp2_with fail
    refine (HC.out _ (by (repeat (first | (with_reducible assumption) | (with_reducible exact Ext.refl _) | (with_reducible exact Ext.more _ _ _ _) | apply Ext.alloc | refine Ext.setCell ?_ (by first | exact Nat.le_refl _ | exact Nat.le_add_right _ _ | assumption) _ | apply Ext.patch | apply Ext.drew | apply Ext.drewN)))).mono ?_
    rintro e w1 ⟨rfl, X1, rfl⟩
    go_wp2_with fail
    refine wp_loop_rounds 3 ?_
    rw [rounds_succ]
    go_wp2_with fail
    rw [rounds_succ]
    go_wp2_with fail
    rw [rounds_succ]
    go_wp2_with fail
    go_ret3
    rw [HV.out]
    exact Gives.mk rfl (by (repeat (first | (with_reducible assumption) | (with_reducible exact Ext.refl _) | (with_reducible exact Ext.more _ _ _ _) | apply Ext.alloc | refine Ext.setCell ?_ (by first | exact Nat.le_refl _ | exact Nat.le_add_right _ _ | assumption) _ | apply Ext.patch | apply Ext.drew | apply Ext.drewN)))
  by_cases g3 : a < a0 + a1 + a2 + a3
  · have HV := Lib.hid (show ofIn a0 a1 a2 a3 a = (4, 0, a - a0 - a1 - a2) by unfold ofIn; rw [if_neg hn, if_neg g0, if_neg g1, if_neg g2, if_pos g3])
    go_enter Try.func81, Try.ntmps81
    go_wp2_with fail
    refine (HC.out _ (by (repeat (first | (with_reducible assumption) | (with_reducible exact Ext.refl _) | (with_reducible exact Ext.more _ _ _ _) | apply Ext.alloc | refine Ext.setCell ?_ (by first | exact Nat.le_refl _ | exact Nat.le_add_right _ _ | assumption) _ | apply Ext.patch | apply Ext.drew | apply Ext.drewN)))).mono ?_
    rintro e w1 ⟨rfl, X1, rfl⟩
    go_wp2_with fail
    refine wp_loop_rounds 4 ?_
    rw [rounds_succ]
    go_wp2_with fail
    rw [rounds_succ]
    go_wp2_with fail
    rw [rounds_succ]
    go_wp2_with fail
    rw [rounds_succ]
    go_wp2_with fail
    go_ret3
    rw [HV.out]
    exact Gives.mk rfl (by (repeat (first | (with_reducible assumption) | (with_reducible exact Ext.refl _) | (with_reducible exact Ext.more _ _ _ _) | apply Ext.alloc | refine Ext.setCell ?_ (by first | exact Nat.le_refl _ | exact Nat.le_add_right _ _ | assumption) _ | apply Ext.patch | apply Ext.drew | apply Ext.drewN)))
  · have HV := Lib.hid (show ofIn a0 a1 a2 a3 a = (0, 0, 0) by unfold ofIn; rw [if_neg hn, if_neg g0, if_neg g1, if_neg g2, if_neg g3])
    go_enter Try.func81, Try.ntmps81
    go_wp2_with fail
    refine (HC.out _ (by (repeat (first | (with_reducible assumption) | (with_reducible exact Ext.refl _) | (with_reducible exact Ext.more _ _ _ _) | apply Ext.alloc | refine Ext.setCell ?_ (by first | exact Nat.le_refl _ | exact Nat.le_add_right _ _ | assumption) _ | apply Ext.patch | apply Ext.drew | apply Ext.drewN)))).mono ?_
    rintro e w1 ⟨rfl, X1, rfl⟩
    go_wp2_with fail
    refine wp_loop_rounds 5 ?_
    rw [rounds_succ]
    go_wp2_with fail
    rw [rounds_succ]
    go_wp2_with fail
    rw [rounds_succ]
    go_wp2_with fail
    rw [rounds_succ]
    go_wp2_with fail
    rw [rounds_succ]
    go_wp2_with fail
    go_ret3
    rw [HV.out]
    exact Gives.mk rfl (by (repeat (first | (with_reducible assumption) | (with_reducible exact Ext.refl _) | (with_reducible exact Ext.more _ _ _ _) | apply Ext.alloc | refine Ext.setCell ?_ (by first | exact Nat.le_refl _ | exact Nat.le_add_right _ _ | assumption) _ | apply Ext.patch | apply Ext.drew | apply Ext.drewN)))
end Go.Proofs.Ythdijbkcjmeilaa
