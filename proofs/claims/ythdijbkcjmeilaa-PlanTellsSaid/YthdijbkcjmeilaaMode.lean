/-
  plan.mode, plan.begins.
-/
import Derived.Test.YthdijbkcjmeilaaAreaOf
import Derived.Test.YthdijbkcjmeilaaSide
import Derived.Test.YthdijbkcjmeilaaOpSize
namespace Go.Proofs.Ythdijbkcjmeilaa
open Go Go.RowKit
set_option linter.unusedVariables false

/-- How an array of d data fragments stands. -/
def modeOf (d : Int) (got : List Int) : Int := if d ≤ 4 then 0 else if isSide got = true then 2 else 1
theorem mode_any (d : Int) (A : Option Addr) (cap : Nat) (got : List Int) (w : World) (hg : CellsAt w A (got.map (Value.int .i64))) (hl : got.length ≤ 140737488355328) (hw : ∀ x ∈ got, -9223372036854775808 ≤ x ∧ x ≤ 9223372036854775807) :
    Calls Try.prog 48 #[.int .i64 d, .slice A got.length cap] w (Gives (.int .i64 (modeOf d got)) w) := by
  have HSD := Lib.hid (fun w' (he : Ext w w') => side_any A cap got w' (hg.ext he) hl hw)
  clear hg hw
  by_cases h4 : d ≤ 4
  · have HV := Lib.hid (show modeOf d got = 0 by unfold modeOf; rw [if_pos h4])
    go_enter Try.func48, Try.ntmps48
    go_wp2_with fail
    go_ret
    exact Gives.int HV.out.symm (by (repeat (first | (with_reducible assumption) | (with_reducible exact Ext.refl _) | (with_reducible exact Ext.more _ _ _ _) | apply Ext.alloc | refine Ext.setCell ?_ (by first | exact Nat.le_refl _ | exact Nat.le_add_right _ _ | assumption) _ | apply Ext.patch | apply Ext.drew | apply Ext.drewN)))
  · cases hs : isSide got
    · have HV := Lib.hid (show modeOf d got = 1 by unfold modeOf; rw [if_neg h4, hs]; rfl)
      rw [hs] at HSD
      clear hs
      go_enter Try.func48, Try.ntmps48
      go_wp2_with fail
      refine (HSD.out _ (by (repeat (first | (with_reducible assumption) | (with_reducible exact Ext.refl _) | (with_reducible exact Ext.more _ _ _ _) | apply Ext.alloc | refine Ext.setCell ?_ (by first | exact Nat.le_refl _ | exact Nat.le_add_right _ _ | assumption) _ | apply Ext.patch | apply Ext.drew | apply Ext.drewN)))).mono ?_
      rintro e w1 ⟨rfl, X1, rfl⟩
      go_wp2_with fail
      go_ret
      exact Gives.int HV.out.symm (by (repeat (first | (with_reducible assumption) | (with_reducible exact Ext.refl _) | (with_reducible exact Ext.more _ _ _ _) | apply Ext.alloc | refine Ext.setCell ?_ (by first | exact Nat.le_refl _ | exact Nat.le_add_right _ _ | assumption) _ | apply Ext.patch | apply Ext.drew | apply Ext.drewN)))
    · have HV := Lib.hid (show modeOf d got = 2 by unfold modeOf; rw [if_neg h4, hs]; rfl)
      rw [hs] at HSD
      clear hs
      go_enter Try.func48, Try.ntmps48
      go_wp2_with fail
      refine (HSD.out _ (by (repeat (first | (with_reducible assumption) | (with_reducible exact Ext.refl _) | (with_reducible exact Ext.more _ _ _ _) | apply Ext.alloc | refine Ext.setCell ?_ (by first | exact Nat.le_refl _ | exact Nat.le_add_right _ _ | assumption) _ | apply Ext.patch | apply Ext.drew | apply Ext.drewN)))).mono ?_
      rintro e w1 ⟨rfl, X1, rfl⟩
      go_wp2_with fail
      go_ret
      exact Gives.int HV.out.symm (by (repeat (first | (with_reducible assumption) | (with_reducible exact Ext.refl _) | (with_reducible exact Ext.more _ _ _ _) | apply Ext.alloc | refine Ext.setCell ?_ (by first | exact Nat.le_refl _ | exact Nat.le_add_right _ _ | assumption) _ | apply Ext.patch | apply Ext.drew | apply Ext.drewN)))

/-- Does a spine of n words begin at an address? -/
def beginsAt (c : Cnf) (at_ n : Int) : Bool := ((cOf c at_).1 == 2 || (cOf c at_).1 == 3) && decide ((cOf c at_).2.2 + n ≤ c.spine)
theorem cOf_bd (c : Cnf) (a : Int) : 0 ≤ (cOf c a).2.2 ∧ (cOf c a).2.2 ≤ 8192 ∧ 0 ≤ (cOf c a).1 ∧ (cOf c a).1 ≤ 4 := by
  unfold cOf
  split
  · simp
  · rename_i h
    obtain ⟨⟨_, _⟩, ⟨_, _⟩, ⟨_, _⟩, _⟩ := Cnf.ranged (Cnf.check_zero (show c.check = 0 by omega)).1
    split
    · simp only; omega
    · split
      · simp only; omega
      · split
        · simp only; omega
        · split
          · simp only; omega
          · simp
set_option maxHeartbeats 1000000 in
theorem begins_any (c : Cnf) (a n : Int) (w : World) (hc : c.Ok w) (ha0 : -9223372036854775808 ≤ a) (ha1 : a ≤ 9223372036854775807) (hn : 0 ≤ n ∧ n ≤ 1000) :
    Calls Try.prog 50 #[c.val, .int .i64 a, .int .i64 n] w (Gives (.bool (beginsAt c a n)) w) := by
  have HO := Lib.hid (fun w' (he : Ext w w') => of_any c a w' (hc.ext he) ha0 ha1)
  have hb := cOf_bd c a
  have HV := Lib.hid (show beginsAt c a n = (((cOf c a).1 == 2 || (cOf c a).1 == 3) && decide ((cOf c a).2.2 + n ≤ c.spine)) from rfl)
  unfold tri at HO
  generalize cOf c a = p at *
  obtain ⟨r, i, k⟩ := p
  simp only at HO HV hb
  unfold Cnf.val at HO ⊢
  have hw := IntWalk.i64_in (k + n) (by omega)
  by_cases h2 : r = 2
  · subst h2
    go_enter Try.func50, Try.ntmps50
    go_wp2_with fail
    refine (HO.out _ (by (repeat (first | (with_reducible assumption) | (with_reducible exact Ext.refl _) | (with_reducible exact Ext.more _ _ _ _) | apply Ext.alloc | refine Ext.setCell ?_ (by first | exact Nat.le_refl _ | exact Nat.le_add_right _ _ | assumption) _ | apply Ext.patch | apply Ext.drew | apply Ext.drewN)))).mono ?_
    rintro e w1 ⟨rfl, X1, rfl⟩
    go_wp2_with fail
    go_ret
    exact Gives.bool (by rw [HV.out]; simp) (by (repeat (first | (with_reducible assumption) | (with_reducible exact Ext.refl _) | (with_reducible exact Ext.more _ _ _ _) | apply Ext.alloc | refine Ext.setCell ?_ (by first | exact Nat.le_refl _ | exact Nat.le_add_right _ _ | assumption) _ | apply Ext.patch | apply Ext.drew | apply Ext.drewN)))
  · have hb2 : (r == 2) = false := by simp [h2]
    by_cases h3 : r = 3
    · subst h3
      go_enter Try.func50, Try.ntmps50
      go_wp2_with fail
      refine (HO.out _ (by (repeat (first | (with_reducible assumption) | (with_reducible exact Ext.refl _) | (with_reducible exact Ext.more _ _ _ _) | apply Ext.alloc | refine Ext.setCell ?_ (by first | exact Nat.le_refl _ | exact Nat.le_add_right _ _ | assumption) _ | apply Ext.patch | apply Ext.drew | apply Ext.drewN)))).mono ?_
      rintro e w1 ⟨rfl, X1, rfl⟩
      go_wp2_with fail
      go_ret
      exact Gives.bool (by rw [HV.out]; simp) (by (repeat (first | (with_reducible assumption) | (with_reducible exact Ext.refl _) | (with_reducible exact Ext.more _ _ _ _) | apply Ext.alloc | refine Ext.setCell ?_ (by first | exact Nat.le_refl _ | exact Nat.le_add_right _ _ | assumption) _ | apply Ext.patch | apply Ext.drew | apply Ext.drewN)))
    · have hb3 : (r == 3) = false := by simp [h3]
      go_enter Try.func50, Try.ntmps50
      go_wp2_with fail
      refine (HO.out _ (by (repeat (first | (with_reducible assumption) | (with_reducible exact Ext.refl _) | (with_reducible exact Ext.more _ _ _ _) | apply Ext.alloc | refine Ext.setCell ?_ (by first | exact Nat.le_refl _ | exact Nat.le_add_right _ _ | assumption) _ | apply Ext.patch | apply Ext.drew | apply Ext.drewN)))).mono ?_
      rintro e w1 ⟨rfl, X1, rfl⟩
      go_wp2_with fail
      go_ret
      exact Gives.bool (by rw [HV.out, hb2, hb3]; simp) (by (repeat (first | (with_reducible assumption) | (with_reducible exact Ext.refl _) | (with_reducible exact Ext.more _ _ _ _) | apply Ext.alloc | refine Ext.setCell ?_ (by first | exact Nat.le_refl _ | exact Nat.le_add_right _ _ | assumption) _ | apply Ext.patch | apply Ext.drew | apply Ext.drewN)))
end Go.Proofs.Ythdijbkcjmeilaa
