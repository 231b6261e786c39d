/-
  audit.Bound.
-/
import Derived.Test.YthdijbkcjmeilaaGreatArea
namespace Go.Proofs.YthdijbkcjmeilaaGreat
open Go Go.RowKit
set_option linter.unusedVariables false
set_option linter.unnecessarySimpa false
set_option linter.unusedSimpArgs false
set_option maxHeartbeats 4000000
set_option maxRecDepth 100000
def cBound (c : Cnf) : Int := if c.check = 0 then (c.frags + 2) * (40 * c.frags + 40) + 8 * c.spine + 2 * c.globals + 10 * c.threads + 60 + 5 * (8 * c.frags + c.spine + c.locals + 60) else 0
theorem bound_any (c : Cnf) (w : World) (hc : c.Ok w) : Calls Tryz.prog 6 #[c.val] w (Gives (.int .i64 (cBound c)) w) := by
  have HCK := Lib.hid (fun w' (he : Ext w w') => check_any c w' (hc.ext he))
  have HV := Lib.hid (show cBound c = if c.check = 0 then (c.frags + 2) * (40 * c.frags + 40) + 8 * c.spine + 2 * c.globals + 10 * c.threads + 60 + 5 * (8 * c.frags + c.spine + c.locals + 60) else 0 from rfl)
  generalize cBound c = v at *
  unfold Cnf.val at HCK ⊢
  clear hc
  go_enter Tryz.func6, Tryz.ntmps6
  go_wp2_with fail
  refine (HCK.out _ (by (repeat (first | (with_reducible assumption) | (with_reducible exact Ext.refl _) | (with_reducible exact Ext.more _ _ _ _) | apply Ext.alloc | refine Ext.setCell ?_ (by first | exact Nat.le_refl _ | exact Nat.le_add_right _ _ | assumption) _ | apply Ext.patch | apply Ext.drew | apply Ext.drewN)))).mono ?_
  rintro e w1 ⟨rfl, hX⟩
  obtain ⟨X1, rfl⟩ := hX
  by_cases hck : c.check = 0
  · obtain ⟨⟨r0, r1⟩, ⟨s0, s1⟩, ⟨r4, r5⟩, ⟨r6, r7⟩, ⟨l0, l1⟩, -⟩ := Cnf.ranged (Cnf.check_zero hck).1
    have hp0 : 0 ≤ (c.frags + 2) * (40 * c.frags + 40) := Int.mul_nonneg (by omega) (by omega)
    have hp1 : (c.frags + 2) * (40 * c.frags + 40) ≤ 1026 * 41000 := Int.mul_le_mul (by omega) (by omega) (by omega) (by omega)
    have HW := Lib.hid (HV.out.trans (if_pos hck))
    rw [hck]
    go_wp2_with fail
    go_ret
    exact Gives.int (by rw [HW.out]) (by (repeat (first | (with_reducible assumption) | (with_reducible exact Ext.refl _) | (with_reducible exact Ext.more _ _ _ _) | apply Ext.alloc | refine Ext.setCell ?_ (by first | exact Nat.le_refl _ | exact Nat.le_add_right _ _ | assumption) _ | apply Ext.patch | apply Ext.drew | apply Ext.drewN)))
  · have hk1 : (c.check != 0) = true := by simp [hck]
    have HW := Lib.hid (HV.out.trans (if_neg hck))
    clear hck
    go_wp2_with fail
    go_ret
    exact Gives.int (by rw [HW.out]) (by (repeat (first | (with_reducible assumption) | (with_reducible exact Ext.refl _) | (with_reducible exact Ext.more _ _ _ _) | apply Ext.alloc | refine Ext.setCell ?_ (by first | exact Nat.le_refl _ | exact Nat.le_add_right _ _ | assumption) _ | apply Ext.patch | apply Ext.drew | apply Ext.drewN)))
/-- The bound rises with what there is. -/
theorem cBound_le {c d : Cnf} (hc : c.check = 0) (hd : d.check = 0) (h0 : c.frags ≤ d.frags) (h1 : c.spine ≤ d.spine) (h2 : c.globals ≤ d.globals) (h3 : c.threads ≤ d.threads) (h4 : c.locals ≤ d.locals) : cBound c ≤ cBound d := by
  obtain ⟨⟨r0, r1⟩, -⟩ := Cnf.ranged (Cnf.check_zero hc).1
  obtain ⟨⟨q0, q1⟩, -⟩ := Cnf.ranged (Cnf.check_zero hd).1
  have : (c.frags + 2) * (40 * c.frags + 40) ≤ (d.frags + 2) * (40 * d.frags + 40) := Int.mul_le_mul (by omega) (by omega) (by omega) (by omega)
  unfold cBound
  rw [if_pos hc, if_pos hd]
  omega
theorem cBound_sq {c : Cnf} (hc : c.check = 0) : 40 * c.frags * c.frags ≤ cBound c := by
  obtain ⟨⟨r0, r1⟩, ⟨s0, s1⟩, ⟨r4, r5⟩, ⟨r6, r7⟩, ⟨l0, l1⟩, -⟩ := Cnf.ranged (Cnf.check_zero hc).1
  have e : (c.frags + 2) * (40 * c.frags + 40) = 40 * c.frags * c.frags + 120 * c.frags + 80 := by
    rw [Int.add_mul, Int.mul_add, Int.mul_add, Int.mul_left_comm, ← Int.mul_assoc]
    omega
  unfold cBound
  rw [if_pos hc, e]
  omega
end Go.Proofs.YthdijbkcjmeilaaGreat
