/-
  shape, word, num, stock.Side: small functions that only compute.
-/
import Derived.Test.YthdijbkcjmeilaaGreatShape
namespace Go.Proofs.YthdijbkcjmeilaaGreat
open Go Go.RowKit

set_option maxHeartbeats 1000000 in
theorem place_any (s : Shp) (k : Int) (w : World) (hs : s.Ok w) (hk : -9223372036854775808 ≤ k) (hk' : k ≤ 9223372036854775807) : Calls Tryz.prog 203 #[s.val, .int .i64 k] w
    (Gives (s.place k) w) := by
  have hl : s.refs.length ≤ 140737488355328 := hs.max
  have hM : s.may = true → s.refs.length ≤ 40 := fun h => (of_decide_eq_true h).1
  have hc := fun w' (he : Ext w w') => may_any s w' (hs.ext he)
  obtain ⟨arr, A, cap, refs⟩ := s
  unfold Shp.val at hc ⊢
  simp only at hl hM hc ⊢
  cases hm : Shp.may ⟨arr, A, cap, refs⟩
  · rw [hm] at hc
    have HC := Lib.hid hc
    have HV := Lib.hid (show Shp.place ⟨arr, A, cap, refs⟩ k = .tuple #[.int .i64 0, .int .i64 0, .bool false] by unfold Shp.place; rw [if_neg (by rw [Bool.not_eq_true]; simp [Shp.hasField, hm])])
    clear hc hM hm
    go_enter Tryz.func203, Tryz.ntmps203
    go_wp2_with (go_at_call 40; refine (HC.out _ (by (repeat (first | (with_reducible assumption) | (with_reducible exact Ext.refl _) | (with_reducible exact Ext.more _ _ _ _) | apply Ext.alloc | refine Ext.setCell ?_ (by first | exact Nat.le_refl _ | exact Nat.le_add_right _ _ | assumption) _ | apply Ext.patch | apply Ext.drew | apply Ext.drewN)))).mono ?_; rintro e w1 ⟨rfl, X1, rfl⟩)
    go_ret3
    rw [HV.out]
    exact Gives.iib rfl rfl rfl (by (repeat (first | (with_reducible assumption) | (with_reducible exact Ext.refl _) | (with_reducible exact Ext.more _ _ _ _) | apply Ext.alloc | refine Ext.setCell ?_ (by first | exact Nat.le_refl _ | exact Nat.le_add_right _ _ | assumption) _ | apply Ext.patch | apply Ext.drew | apply Ext.drewN)))
  · rw [hm] at hc
    have HC := Lib.hid hc
    have hl40 := hM hm
    have HM := Lib.hid hm
    clear hc hM hm
    cases arr
    · by_cases h1 : 0 ≤ k ∧ k < refs.length
      · obtain ⟨h1, h2⟩ := h1
        have HV := Lib.hid (show Shp.place ⟨false, A, cap, refs⟩ k = .tuple #[.int .i64 (Shp.placeF k), .int .i64 (Shp.placeW k), .bool true] by unfold Shp.place; rw [if_pos (by simp only [Shp.hasField, HM.out, Shp.len]; simp [h1, h2])])
        by_cases h3 : k < 6
        · go_enter Tryz.func203, Tryz.ntmps203
          go_wp2_with (go_at_call 40; refine (HC.out _ (by (repeat (first | (with_reducible assumption) | (with_reducible exact Ext.refl _) | (with_reducible exact Ext.more _ _ _ _) | apply Ext.alloc | refine Ext.setCell ?_ (by first | exact Nat.le_refl _ | exact Nat.le_add_right _ _ | assumption) _ | apply Ext.patch | apply Ext.drew | apply Ext.drewN)))).mono ?_; rintro e w1 ⟨rfl, X1, rfl⟩)
          go_ret3
          rw [HV.out]
          exact Gives.iib (by unfold Shp.placeF; rw [if_pos h3]) (by unfold Shp.placeW; rw [if_pos h3]) rfl (by (repeat (first | (with_reducible assumption) | (with_reducible exact Ext.refl _) | (with_reducible exact Ext.more _ _ _ _) | apply Ext.alloc | refine Ext.setCell ?_ (by first | exact Nat.le_refl _ | exact Nat.le_add_right _ _ | assumption) _ | apply Ext.patch | apply Ext.drew | apply Ext.drewN)))
        · go_enter Tryz.func203, Tryz.ntmps203
          go_wp2_with (go_at_call 40; refine (HC.out _ (by (repeat (first | (with_reducible assumption) | (with_reducible exact Ext.refl _) | (with_reducible exact Ext.more _ _ _ _) | apply Ext.alloc | refine Ext.setCell ?_ (by first | exact Nat.le_refl _ | exact Nat.le_add_right _ _ | assumption) _ | apply Ext.patch | apply Ext.drew | apply Ext.drewN)))).mono ?_; rintro e w1 ⟨rfl, X1, rfl⟩)
          go_ret3
          rw [HV.out]
          exact Gives.iib (by unfold Shp.placeF; rw [if_neg (by omega)]) (by unfold Shp.placeW; rw [if_neg (by omega)]) rfl (by (repeat (first | (with_reducible assumption) | (with_reducible exact Ext.refl _) | (with_reducible exact Ext.more _ _ _ _) | apply Ext.alloc | refine Ext.setCell ?_ (by first | exact Nat.le_refl _ | exact Nat.le_add_right _ _ | assumption) _ | apply Ext.patch | apply Ext.drew | apply Ext.drewN)))
      · have HV := Lib.hid (show Shp.place ⟨false, A, cap, refs⟩ k = .tuple #[.int .i64 0, .int .i64 0, .bool false] by unfold Shp.place; rw [if_neg (by rw [Bool.not_eq_true]; unfold Shp.hasField; rw [Bool.and_eq_false_iff]; right; rw [decide_eq_false_iff_not]; exact h1)])
        by_cases h2 : k < 0
        · go_enter Tryz.func203, Tryz.ntmps203
          go_wp2_with (go_at_call 40; refine (HC.out _ (by (repeat (first | (with_reducible assumption) | (with_reducible exact Ext.refl _) | (with_reducible exact Ext.more _ _ _ _) | apply Ext.alloc | refine Ext.setCell ?_ (by first | exact Nat.le_refl _ | exact Nat.le_add_right _ _ | assumption) _ | apply Ext.patch | apply Ext.drew | apply Ext.drewN)))).mono ?_; rintro e w1 ⟨rfl, X1, rfl⟩)
          go_ret3
          rw [HV.out]
          exact Gives.iib rfl rfl rfl (by (repeat (first | (with_reducible assumption) | (with_reducible exact Ext.refl _) | (with_reducible exact Ext.more _ _ _ _) | apply Ext.alloc | refine Ext.setCell ?_ (by first | exact Nat.le_refl _ | exact Nat.le_add_right _ _ | assumption) _ | apply Ext.patch | apply Ext.drew | apply Ext.drewN)))
        · have h4 : (refs.length : Int) ≤ k := by omega
          go_enter Tryz.func203, Tryz.ntmps203
          go_wp2_with (go_at_call 40; refine (HC.out _ (by (repeat (first | (with_reducible assumption) | (with_reducible exact Ext.refl _) | (with_reducible exact Ext.more _ _ _ _) | apply Ext.alloc | refine Ext.setCell ?_ (by first | exact Nat.le_refl _ | exact Nat.le_add_right _ _ | assumption) _ | apply Ext.patch | apply Ext.drew | apply Ext.drewN)))).mono ?_; rintro e w1 ⟨rfl, X1, rfl⟩)
          go_ret3
          rw [HV.out]
          exact Gives.iib rfl rfl rfl (by (repeat (first | (with_reducible assumption) | (with_reducible exact Ext.refl _) | (with_reducible exact Ext.more _ _ _ _) | apply Ext.alloc | refine Ext.setCell ?_ (by first | exact Nat.le_refl _ | exact Nat.le_add_right _ _ | assumption) _ | apply Ext.patch | apply Ext.drew | apply Ext.drewN)))
    · have HV := Lib.hid (show Shp.place ⟨true, A, cap, refs⟩ k = .tuple #[.int .i64 0, .int .i64 0, .bool false] by unfold Shp.place; rw [if_neg (by rw [Bool.not_eq_true]; simp [Shp.hasField])])
      go_enter Tryz.func203, Tryz.ntmps203
      go_wp2_with (go_at_call 40; refine (HC.out _ (by (repeat (first | (with_reducible assumption) | (with_reducible exact Ext.refl _) | (with_reducible exact Ext.more _ _ _ _) | apply Ext.alloc | refine Ext.setCell ?_ (by first | exact Nat.le_refl _ | exact Nat.le_add_right _ _ | assumption) _ | apply Ext.patch | apply Ext.drew | apply Ext.drewN)))).mono ?_; rintro e w1 ⟨rfl, X1, rfl⟩)
      go_ret3
      rw [HV.out]
      exact Gives.iib rfl rfl rfl (by (repeat (first | (with_reducible assumption) | (with_reducible exact Ext.refl _) | (with_reducible exact Ext.more _ _ _ _) | apply Ext.alloc | refine Ext.setCell ?_ (by first | exact Nat.le_refl _ | exact Nat.le_add_right _ _ | assumption) _ | apply Ext.patch | apply Ext.drew | apply Ext.drewN)))

theorem none_any (w : World) : Calls Tryz.prog 154 #[] w (Gives wNone w) := by
  go_enter Tryz.func154, Tryz.ntmps154
  go_wp2
  go_ret
  exact Gives.mk rfl (by (repeat (first | (with_reducible assumption) | (with_reducible exact Ext.refl _) | (with_reducible exact Ext.more _ _ _ _) | apply Ext.alloc | refine Ext.setCell ?_ (by first | exact Nat.le_refl _ | exact Nat.le_add_right _ _ | assumption) _ | apply Ext.patch | apply Ext.drew | apply Ext.drewN)))

theorem ref_any (i : Int) (w : World) : Calls Tryz.prog 208 #[.int .i64 i] w (Gives (wRef i) w) := by
  by_cases h : i < 0 ∨ 1099511627776 < i
  · rw [show wRef i = wNone by unfold wRef; rw [if_pos h]]
    by_cases h' : i < 0
    · go_enter Tryz.func208, Tryz.ntmps208
      go_wp2_with (go_at_call 154; refine (none_any _).mono ?_; rintro e w1 ⟨rfl, X1, rfl⟩)
      go_ret
      exact Gives.mk rfl (by (repeat (first | (with_reducible assumption) | (with_reducible exact Ext.refl _) | (with_reducible exact Ext.more _ _ _ _) | apply Ext.alloc | refine Ext.setCell ?_ (by first | exact Nat.le_refl _ | exact Nat.le_add_right _ _ | assumption) _ | apply Ext.patch | apply Ext.drew | apply Ext.drewN)))
    · have h'' : 1099511627776 < i := by omega
      clear h
      go_enter Tryz.func208, Tryz.ntmps208
      go_wp2_with (go_at_call 154; refine (none_any _).mono ?_; rintro e w1 ⟨rfl, X1, rfl⟩)
      go_ret
      exact Gives.mk rfl (by (repeat (first | (with_reducible assumption) | (with_reducible exact Ext.refl _) | (with_reducible exact Ext.more _ _ _ _) | apply Ext.alloc | refine Ext.setCell ?_ (by first | exact Nat.le_refl _ | exact Nat.le_add_right _ _ | assumption) _ | apply Ext.patch | apply Ext.drew | apply Ext.drewN)))
  · have HV := Lib.hid (show wRef i = .complex .f64 (floatOfInt .f64 (i + 1)) 4607182418800017408 by unfold wRef; rw [if_neg h])
    have h1 : 0 ≤ i := by omega
    have h2 : i ≤ 1099511627776 := by omega
    clear h
    go_enter Tryz.func208, Tryz.ntmps208
    go_wp2
    go_ret
    rw [HV.out]
    exact Gives.mk rfl (by (repeat (first | (with_reducible assumption) | (with_reducible exact Ext.refl _) | (with_reducible exact Ext.more _ _ _ _) | apply Ext.alloc | refine Ext.setCell ?_ (by first | exact Nat.le_refl _ | exact Nat.le_add_right _ _ | assumption) _ | apply Ext.patch | apply Ext.drew | apply Ext.drewN)))

theorem whole_any (n : Int) (w : World) : Calls Tryz.prog 225 #[.int .i64 n] w (Gives (wWhole n) w) := by
  by_cases h : n < -9007199254740992
  · have HV := Lib.hid (show wWhole n = wZero by unfold wWhole; rw [if_pos (by omega)])
    go_enter Tryz.func225, Tryz.ntmps225
    go_wp2
    go_ret
    rw [HV.out]
    exact Gives.mk rfl (by (repeat (first | (with_reducible assumption) | (with_reducible exact Ext.refl _) | (with_reducible exact Ext.more _ _ _ _) | apply Ext.alloc | refine Ext.setCell ?_ (by first | exact Nat.le_refl _ | exact Nat.le_add_right _ _ | assumption) _ | apply Ext.patch | apply Ext.drew | apply Ext.drewN)))
  · by_cases h' : 9007199254740992 < n
    · have HV := Lib.hid (show wWhole n = wZero by unfold wWhole; rw [if_pos (by omega)])
      go_enter Tryz.func225, Tryz.ntmps225
      go_wp2
      go_ret
      rw [HV.out]
      exact Gives.mk rfl (by (repeat (first | (with_reducible assumption) | (with_reducible exact Ext.refl _) | (with_reducible exact Ext.more _ _ _ _) | apply Ext.alloc | refine Ext.setCell ?_ (by first | exact Nat.le_refl _ | exact Nat.le_add_right _ _ | assumption) _ | apply Ext.patch | apply Ext.drew | apply Ext.drewN)))
    · have HV := Lib.hid (show wWhole n = .complex .f64 (floatOfInt .f64 n) 0 by unfold wWhole; rw [if_neg (by omega)])
      go_enter Tryz.func225, Tryz.ntmps225
      go_wp2
      go_ret
      rw [HV.out]
      exact Gives.mk rfl (by (repeat (first | (with_reducible assumption) | (with_reducible exact Ext.refl _) | (with_reducible exact Ext.more _ _ _ _) | apply Ext.alloc | refine Ext.setCell ?_ (by first | exact Nat.le_refl _ | exact Nat.le_add_right _ _ | assumption) _ | apply Ext.patch | apply Ext.drew | apply Ext.drewN)))

end Go.Proofs.YthdijbkcjmeilaaGreat
