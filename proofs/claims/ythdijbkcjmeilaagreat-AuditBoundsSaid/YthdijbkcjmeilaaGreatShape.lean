/-
  shape, word, num: small functions that only compute.
-/
import Derived.Test.YthdijbkcjmeilaaGreatConf
import Derived.Test.YthdijbkcjmeilaaGreatWords
namespace Go.Proofs.YthdijbkcjmeilaaGreat
open Go Go.RowKit

theorem up_any (n b : Int) (w : World) (h1 : 1 ≤ n) (h2 : n ≤ 1000) (h3 : 1 ≤ b) (h4 : b ≤ 8) : Calls Tryz.prog 228 #[.int .i64 n, .int .i64 b] w (Gives (.int .i64 ((n + b - 1) / b)) w) := by
  go_enter Tryz.func228, Tryz.ntmps228
  go_wp2
  go_ret
  exact Gives.int rfl (by (repeat (first | (with_reducible assumption) | (with_reducible exact Ext.refl _) | (with_reducible exact Ext.more _ _ _ _) | apply Ext.alloc | refine Ext.setCell ?_ (by first | exact Nat.le_refl _ | exact Nat.le_add_right _ _ | assumption) _ | apply Ext.patch | apply Ext.drew | apply Ext.drewN)))

theorem data_any (n : Int) (w : World) : Calls Tryz.prog 226 #[.int .i64 n] w (Gives (.int .i64 (sData n)) w) := by
  by_cases h1 : n < 1
  · go_enter Tryz.func226, Tryz.ntmps226
    go_wp2
    go_ret
    exact Gives.int (by unfold sData; rw [if_pos (by omega)]) (by (repeat (first | (with_reducible assumption) | (with_reducible exact Ext.refl _) | (with_reducible exact Ext.more _ _ _ _) | apply Ext.alloc | refine Ext.setCell ?_ (by first | exact Nat.le_refl _ | exact Nat.le_add_right _ _ | assumption) _ | apply Ext.patch | apply Ext.drew | apply Ext.drewN)))
  · by_cases h2 : 512 < n
    · go_enter Tryz.func226, Tryz.ntmps226
      go_wp2
      go_ret
      exact Gives.int (by unfold sData; rw [if_pos (by omega)]) (by (repeat (first | (with_reducible assumption) | (with_reducible exact Ext.refl _) | (with_reducible exact Ext.more _ _ _ _) | apply Ext.alloc | refine Ext.setCell ?_ (by first | exact Nat.le_refl _ | exact Nat.le_add_right _ _ | assumption) _ | apply Ext.patch | apply Ext.drew | apply Ext.drewN)))
    · go_enter Tryz.func226, Tryz.ntmps226
      go_wp2_with (go_at_call 228; refine (up_any _ _ _ (by omega) (by omega) (by omega) (by omega)).mono ?_; rintro e w1 ⟨rfl, X1, rfl⟩)
      go_ret
      exact Gives.int (by unfold sData; rw [if_neg (by omega)]; omega) (by (repeat (first | (with_reducible assumption) | (with_reducible exact Ext.refl _) | (with_reducible exact Ext.more _ _ _ _) | apply Ext.alloc | refine Ext.setCell ?_ (by first | exact Nat.le_refl _ | exact Nat.le_add_right _ _ | assumption) _ | apply Ext.patch | apply Ext.drew | apply Ext.drewN)))

set_option maxHeartbeats 1000000 in
theorem size_any (s : Shp) (n : Int) (w : World) (hs : s.Ok w) : Calls Tryz.prog 202 #[s.val, .int .i64 n] w (Gives (.int .i64 (s.size n)) w) := by
  have hl : s.refs.length ≤ 140737488355328 := hs.max
  have hM : s.may = true → s.refs.length ≤ 40 := fun h => (of_decide_eq_true h).1
  have hc := fun w' (he : Ext w w') => may_any s w' (hs.ext he)
  obtain ⟨arr, A, cap, refs⟩ := s
  unfold Shp.val at hc ⊢
  simp only at hl hM hc ⊢
  cases hm : Shp.may ⟨arr, A, cap, refs⟩
  · rw [hm] at hc
    have HC := Lib.hid hc
    clear hc hM
    have HV := Lib.hid (show Shp.size ⟨arr, A, cap, refs⟩ n = -1 by simp [Shp.size, hm])
    go_enter Tryz.func202, Tryz.ntmps202
    go_wp2_with (go_at_call 40; refine (HC.out _ (by (repeat (first | (with_reducible assumption) | (with_reducible exact Ext.refl _) | (with_reducible exact Ext.more _ _ _ _) | apply Ext.alloc | refine Ext.setCell ?_ (by first | exact Nat.le_refl _ | exact Nat.le_add_right _ _ | assumption) _ | apply Ext.patch | apply Ext.drew | apply Ext.drewN)))).mono ?_; rintro e w1 ⟨rfl, X1, rfl⟩)
    go_ret
    exact Gives.int HV.out.symm (by (repeat (first | (with_reducible assumption) | (with_reducible exact Ext.refl _) | (with_reducible exact Ext.more _ _ _ _) | apply Ext.alloc | refine Ext.setCell ?_ (by first | exact Nat.le_refl _ | exact Nat.le_add_right _ _ | assumption) _ | apply Ext.patch | apply Ext.drew | apply Ext.drewN)))
  · rw [hm] at hc
    have HC := Lib.hid hc
    have hl40 := hM hm
    have HM := Lib.hid hm
    clear hc hM hm
    by_cases h0 : n < 0
    · have HV := Lib.hid (show Shp.size ⟨arr, A, cap, refs⟩ n = -1 by unfold Shp.size; rw [if_pos (by omega)])
      go_enter Tryz.func202, Tryz.ntmps202
      go_wp2_with (go_at_call 40; refine (HC.out _ (by (repeat (first | (with_reducible assumption) | (with_reducible exact Ext.refl _) | (with_reducible exact Ext.more _ _ _ _) | apply Ext.alloc | refine Ext.setCell ?_ (by first | exact Nat.le_refl _ | exact Nat.le_add_right _ _ | assumption) _ | apply Ext.patch | apply Ext.drew | apply Ext.drewN)))).mono ?_; rintro e w1 ⟨rfl, X1, rfl⟩)
      go_ret
      exact Gives.int HV.out.symm (by (repeat (first | (with_reducible assumption) | (with_reducible exact Ext.refl _) | (with_reducible exact Ext.more _ _ _ _) | apply Ext.alloc | refine Ext.setCell ?_ (by first | exact Nat.le_refl _ | exact Nat.le_add_right _ _ | assumption) _ | apply Ext.patch | apply Ext.drew | apply Ext.drewN)))
    · by_cases h1 : 512 < n
      · have HV := Lib.hid (show Shp.size ⟨arr, A, cap, refs⟩ n = -1 by unfold Shp.size; rw [if_pos (by omega)])
        go_enter Tryz.func202, Tryz.ntmps202
        go_wp2_with (go_at_call 40; refine (HC.out _ (by (repeat (first | (with_reducible assumption) | (with_reducible exact Ext.refl _) | (with_reducible exact Ext.more _ _ _ _) | apply Ext.alloc | refine Ext.setCell ?_ (by first | exact Nat.le_refl _ | exact Nat.le_add_right _ _ | assumption) _ | apply Ext.patch | apply Ext.drew | apply Ext.drewN)))).mono ?_; rintro e w1 ⟨rfl, X1, rfl⟩)
        go_ret
        exact Gives.int HV.out.symm (by (repeat (first | (with_reducible assumption) | (with_reducible exact Ext.refl _) | (with_reducible exact Ext.more _ _ _ _) | apply Ext.alloc | refine Ext.setCell ?_ (by first | exact Nat.le_refl _ | exact Nat.le_add_right _ _ | assumption) _ | apply Ext.patch | apply Ext.drew | apply Ext.drewN)))
      · cases arr
        · by_cases h2 : 0 < n
          · have HV := Lib.hid (show Shp.size ⟨false, A, cap, refs⟩ n = -1 by unfold Shp.size; rw [if_pos (by simp; omega)])
            go_enter Tryz.func202, Tryz.ntmps202
            go_wp2_with (go_at_call 40; refine (HC.out _ (by (repeat (first | (with_reducible assumption) | (with_reducible exact Ext.refl _) | (with_reducible exact Ext.more _ _ _ _) | apply Ext.alloc | refine Ext.setCell ?_ (by first | exact Nat.le_refl _ | exact Nat.le_add_right _ _ | assumption) _ | apply Ext.patch | apply Ext.drew | apply Ext.drewN)))).mono ?_; rintro e w1 ⟨rfl, X1, rfl⟩)
            go_ret
            exact Gives.int HV.out.symm (by (repeat (first | (with_reducible assumption) | (with_reducible exact Ext.refl _) | (with_reducible exact Ext.more _ _ _ _) | apply Ext.alloc | refine Ext.setCell ?_ (by first | exact Nat.le_refl _ | exact Nat.le_add_right _ _ | assumption) _ | apply Ext.patch | apply Ext.drew | apply Ext.drewN)))
          · by_cases h3 : refs.length ≤ 6
            · have HV := Lib.hid (show Shp.size ⟨false, A, cap, refs⟩ n = 1 by unfold Shp.size Shp.len; rw [if_neg (by simp [HM.out]; omega), if_neg (by simp), if_pos (by simp only; omega)])
              go_enter Tryz.func202, Tryz.ntmps202
              go_wp2_with (go_at_call 40; refine (HC.out _ (by (repeat (first | (with_reducible assumption) | (with_reducible exact Ext.refl _) | (with_reducible exact Ext.more _ _ _ _) | apply Ext.alloc | refine Ext.setCell ?_ (by first | exact Nat.le_refl _ | exact Nat.le_add_right _ _ | assumption) _ | apply Ext.patch | apply Ext.drew | apply Ext.drewN)))).mono ?_; rintro e w1 ⟨rfl, X1, rfl⟩)
              go_ret
              exact Gives.int HV.out.symm (by (repeat (first | (with_reducible assumption) | (with_reducible exact Ext.refl _) | (with_reducible exact Ext.more _ _ _ _) | apply Ext.alloc | refine Ext.setCell ?_ (by first | exact Nat.le_refl _ | exact Nat.le_add_right _ _ | assumption) _ | apply Ext.patch | apply Ext.drew | apply Ext.drewN)))
            · have HV := Lib.hid (show Shp.size ⟨false, A, cap, refs⟩ n = 1 + ((refs.length : Int) - 6 + 7 - 1) / 7 by unfold Shp.size Shp.len; rw [if_neg (by simp [HM.out]; omega), if_neg (by simp), if_neg (by simp only; omega)]; simp only; omega)
              go_enter Tryz.func202, Tryz.ntmps202
              go_wp2_with (first | (go_at_call 40; refine (HC.out _ (by (repeat (first | (with_reducible assumption) | (with_reducible exact Ext.refl _) | (with_reducible exact Ext.more _ _ _ _) | apply Ext.alloc | refine Ext.setCell ?_ (by first | exact Nat.le_refl _ | exact Nat.le_add_right _ _ | assumption) _ | apply Ext.patch | apply Ext.drew | apply Ext.drewN)))).mono ?_; rintro e w1 ⟨rfl, X1, rfl⟩) | (go_at_call 228; refine (up_any _ _ _ (by omega) (by omega) (by omega) (by omega)).mono ?_; rintro e w1 ⟨rfl, X1, rfl⟩))
              go_ret
              exact Gives.int HV.out.symm (by (repeat (first | (with_reducible assumption) | (with_reducible exact Ext.refl _) | (with_reducible exact Ext.more _ _ _ _) | apply Ext.alloc | refine Ext.setCell ?_ (by first | exact Nat.le_refl _ | exact Nat.le_add_right _ _ | assumption) _ | apply Ext.patch | apply Ext.drew | apply Ext.drewN)))
        · have hb := sData_bd n
          have HV := Lib.hid (show Shp.size ⟨true, A, cap, refs⟩ n = 1 + sData n by unfold Shp.size; rw [if_neg (by simp [HM.out]; omega), if_pos rfl])
          go_enter Tryz.func202, Tryz.ntmps202
          go_wp2_with (first | (go_at_call 40; refine (HC.out _ (by (repeat (first | (with_reducible assumption) | (with_reducible exact Ext.refl _) | (with_reducible exact Ext.more _ _ _ _) | apply Ext.alloc | refine Ext.setCell ?_ (by first | exact Nat.le_refl _ | exact Nat.le_add_right _ _ | assumption) _ | apply Ext.patch | apply Ext.drew | apply Ext.drewN)))).mono ?_; rintro e w1 ⟨rfl, X1, rfl⟩) | (go_at_call 226; refine (data_any _ _).mono ?_; rintro e w1 ⟨rfl, X1, rfl⟩))
          go_ret
          exact Gives.int HV.out.symm (by (repeat (first | (with_reducible assumption) | (with_reducible exact Ext.refl _) | (with_reducible exact Ext.more _ _ _ _) | apply Ext.alloc | refine Ext.setCell ?_ (by first | exact Nat.le_refl _ | exact Nat.le_add_right _ _ | assumption) _ | apply Ext.patch | apply Ext.drew | apply Ext.drewN)))
end Go.Proofs.YthdijbkcjmeilaaGreat
