/-
  shape.Spine, op.size.
-/
import Derived.Test.YthdijbkcjmeilaaShape
import Derived.Test.YthdijbkcjmeilaaTale
namespace Go.Proofs.Ythdijbkcjmeilaa
open Go Go.RowKit
set_option linter.unusedVariables false

set_option maxHeartbeats 1000000 in
theorem sspine_any (s : Shp) (n : Int) (w : World) (hs : s.Ok w) : Calls Try.prog 51 #[s.val, .int .i64 n] w (Gives (.int .i64 (s.spine n)) w) := by
  have hl : s.refs.length ≤ 140737488355328 := hs.max
  have hc := fun w' (he : Ext w w') => may_any s w' (hs.ext he)
  obtain ⟨arr, A, cap, refs⟩ := s
  unfold Shp.val at hc ⊢
  simp only at hl hc ⊢
  cases hm : Shp.may ⟨arr, A, cap, refs⟩
  · rw [hm] at hc
    have HC := Lib.hid hc
    clear hc
    have HV := Lib.hid (show Shp.spine ⟨arr, A, cap, refs⟩ n = 0 by simp [Shp.spine, hm])
    clear hm
    go_enter Try.func51, Try.ntmps51
    go_wp2_with (go_at_call 82; refine (HC.out _ (by (repeat (first | (with_reducible assumption) | (with_reducible exact Ext.refl _) | (with_reducible exact Ext.more _ _ _ _) | apply Ext.alloc | refine Ext.setCell ?_ (by first | exact Nat.le_refl _ | exact Nat.le_add_right _ _ | assumption) _ | apply Ext.patch | apply Ext.drew | apply Ext.drewN)))).mono ?_; rintro e w1 ⟨rfl, X1, rfl⟩)
    go_ret
    exact Gives.int HV.out.symm (by (repeat (first | (with_reducible assumption) | (with_reducible exact Ext.refl _) | (with_reducible exact Ext.more _ _ _ _) | apply Ext.alloc | refine Ext.setCell ?_ (by first | exact Nat.le_refl _ | exact Nat.le_add_right _ _ | assumption) _ | apply Ext.patch | apply Ext.drew | apply Ext.drewN)))
  · rw [hm] at hc
    have HC := Lib.hid hc
    have HM := Lib.hid hm
    clear hc hm
    cases arr
    · have HV := Lib.hid (show Shp.spine ⟨false, A, cap, refs⟩ n = 0 by simp [Shp.spine])
      go_enter Try.func51, Try.ntmps51
      go_wp2_with (go_at_call 82; refine (HC.out _ (by (repeat (first | (with_reducible assumption) | (with_reducible exact Ext.refl _) | (with_reducible exact Ext.more _ _ _ _) | apply Ext.alloc | refine Ext.setCell ?_ (by first | exact Nat.le_refl _ | exact Nat.le_add_right _ _ | assumption) _ | apply Ext.patch | apply Ext.drew | apply Ext.drewN)))).mono ?_; rintro e w1 ⟨rfl, X1, rfl⟩)
      go_ret
      exact Gives.int HV.out.symm (by (repeat (first | (with_reducible assumption) | (with_reducible exact Ext.refl _) | (with_reducible exact Ext.more _ _ _ _) | apply Ext.alloc | refine Ext.setCell ?_ (by first | exact Nat.le_refl _ | exact Nat.le_add_right _ _ | assumption) _ | apply Ext.patch | apply Ext.drew | apply Ext.drewN)))
    · have hb := sData_bd n
      by_cases h4 : sData n ≤ 4
      · have HV := Lib.hid (show Shp.spine ⟨true, A, cap, refs⟩ n = 0 by unfold Shp.spine; rw [if_pos (by simp [h4])])
        go_enter Try.func51, Try.ntmps51
        go_wp2_with (first | (go_at_call 82; refine (HC.out _ (by (repeat (first | (with_reducible assumption) | (with_reducible exact Ext.refl _) | (with_reducible exact Ext.more _ _ _ _) | apply Ext.alloc | refine Ext.setCell ?_ (by first | exact Nat.le_refl _ | exact Nat.le_add_right _ _ | assumption) _ | apply Ext.patch | apply Ext.drew | apply Ext.drewN)))).mono ?_; rintro e w1 ⟨rfl, X1, rfl⟩) | (go_at_call 49; refine (data_any _ _).mono ?_; rintro e w1 ⟨rfl, X1, rfl⟩))
        go_ret
        exact Gives.int HV.out.symm (by (repeat (first | (with_reducible assumption) | (with_reducible exact Ext.refl _) | (with_reducible exact Ext.more _ _ _ _) | apply Ext.alloc | refine Ext.setCell ?_ (by first | exact Nat.le_refl _ | exact Nat.le_add_right _ _ | assumption) _ | apply Ext.patch | apply Ext.drew | apply Ext.drewN)))
      · have HV := Lib.hid (show Shp.spine ⟨true, A, cap, refs⟩ n = sData n + 2 by unfold Shp.spine; rw [if_neg (by simp [h4, HM.out])])
        go_enter Try.func51, Try.ntmps51
        go_wp2_with (first | (go_at_call 82; refine (HC.out _ (by (repeat (first | (with_reducible assumption) | (with_reducible exact Ext.refl _) | (with_reducible exact Ext.more _ _ _ _) | apply Ext.alloc | refine Ext.setCell ?_ (by first | exact Nat.le_refl _ | exact Nat.le_add_right _ _ | assumption) _ | apply Ext.patch | apply Ext.drew | apply Ext.drewN)))).mono ?_; rintro e w1 ⟨rfl, X1, rfl⟩) | (go_at_call 49; refine (data_any _ _).mono ?_; rintro e w1 ⟨rfl, X1, rfl⟩))
        go_ret
        exact Gives.int HV.out.symm (by (repeat (first | (with_reducible assumption) | (with_reducible exact Ext.refl _) | (with_reducible exact Ext.more _ _ _ _) | apply Ext.alloc | refine Ext.setCell ?_ (by first | exact Nat.le_refl _ | exact Nat.le_add_right _ _ | assumption) _ | apply Ext.patch | apply Ext.drew | apply Ext.drewN)))

end Go.Proofs.Ythdijbkcjmeilaa
