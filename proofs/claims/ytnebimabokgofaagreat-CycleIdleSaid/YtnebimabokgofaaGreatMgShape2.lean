import Derived.Test.YtnebimabokgofaaGreatMgShade
import Derived.Test.YtnebimabokgofaaGreatMgMem
/-
  shape, word, num: small functions that only compute.
-/
namespace Go.Proofs.YtnebimabokgofaaGreat
open Go Go.RowKit

theorem up_any (n b : Int) (w : World) (h1 : 1 ≤ n) (h2 : n ≤ 1000) (h3 : 1 ≤ b) (h4 : b ≤ 8) : Calls Tryz.prog 278 #[.int .i64 n, .int .i64 b] w (Gives (.int .i64 ((n + b - 1) / b)) w) := by
  go_enter Tryz.func278, Tryz.ntmps278
  go_wp2
  go_ret
  exact Gives.int rfl (by (repeat (first | (with_reducible assumption) | (with_reducible exact Ext.refl _) | (with_reducible exact Ext.more _ _ _ _) | apply Ext.alloc | refine Ext.setCell ?_ (by first | exact Nat.le_refl _ | exact Nat.le_add_right _ _ | assumption) _ | apply Ext.patch | apply Ext.drew | apply Ext.drewN)))

theorem data_any (n : Int) (w : World) : Calls Tryz.prog 242 #[.int .i64 n] w (Gives (.int .i64 (sData n)) w) := by
  by_cases h1 : n < 1
  · go_enter Tryz.func242, Tryz.ntmps242
    go_wp2
    go_ret
    exact Gives.int (by unfold sData; rw [if_pos (by omega)]) (by (repeat (first | (with_reducible assumption) | (with_reducible exact Ext.refl _) | (with_reducible exact Ext.more _ _ _ _) | apply Ext.alloc | refine Ext.setCell ?_ (by first | exact Nat.le_refl _ | exact Nat.le_add_right _ _ | assumption) _ | apply Ext.patch | apply Ext.drew | apply Ext.drewN)))
  · by_cases h2 : 512 < n
    · go_enter Tryz.func242, Tryz.ntmps242
      go_wp2
      go_ret
      exact Gives.int (by unfold sData; rw [if_pos (by omega)]) (by (repeat (first | (with_reducible assumption) | (with_reducible exact Ext.refl _) | (with_reducible exact Ext.more _ _ _ _) | apply Ext.alloc | refine Ext.setCell ?_ (by first | exact Nat.le_refl _ | exact Nat.le_add_right _ _ | assumption) _ | apply Ext.patch | apply Ext.drew | apply Ext.drewN)))
    · go_enter Tryz.func242, Tryz.ntmps242
      go_wp2_with (go_at_call 278; refine (up_any _ _ _ (by omega) (by omega) (by omega) (by omega)).mono ?_; rintro e w1 ⟨rfl, X1, rfl⟩)
      go_ret
      exact Gives.int (by unfold sData; rw [if_neg (by omega)]; omega) (by (repeat (first | (with_reducible assumption) | (with_reducible exact Ext.refl _) | (with_reducible exact Ext.more _ _ _ _) | apply Ext.alloc | refine Ext.setCell ?_ (by first | exact Nat.le_refl _ | exact Nat.le_add_right _ _ | assumption) _ | apply Ext.patch | apply Ext.drew | apply Ext.drewN)))

set_option maxHeartbeats 1000000 in
theorem size_any (s : Shp) (n : Int) (w : World) (hs : s.Ok w) : Calls Tryz.prog 262 #[s.val, .int .i64 n] w (Gives (.int .i64 (s.size n)) w) := by
  have hl : s.refs.length ≤ 140737488355328 := hs.max
  have hM : s.may = true → s.refs.length ≤ 40 := fun h => (of_decide_eq_true h).1
  have hc := fun w' (he : Ext w w') => may_any s w' (hs.ext he)
  obtain ⟨arr, A, cap, refs⟩ := s
  unfold Shp.val at hc ⊢
  simp only at hl hM hc ⊢
  cases hm : Shp.may ⟨arr, A, cap, refs⟩
  · rw [hm] at hc
    have HC := Lib.hid hc
    clear hc hM
    have HV := Lib.hid (show Shp.size ⟨arr, A, cap, refs⟩ n = -1 by simp [Shp.size, hm])
    go_enter Tryz.func262, Tryz.ntmps262
    go_wp2_with (go_at_call 51; refine (HC.out _ (by (repeat (first | (with_reducible assumption) | (with_reducible exact Ext.refl _) | (with_reducible exact Ext.more _ _ _ _) | apply Ext.alloc | refine Ext.setCell ?_ (by first | exact Nat.le_refl _ | exact Nat.le_add_right _ _ | assumption) _ | apply Ext.patch | apply Ext.drew | apply Ext.drewN)))).mono ?_; rintro e w1 ⟨rfl, X1, rfl⟩)
    go_ret
    exact Gives.int HV.out.symm (by (repeat (first | (with_reducible assumption) | (with_reducible exact Ext.refl _) | (with_reducible exact Ext.more _ _ _ _) | apply Ext.alloc | refine Ext.setCell ?_ (by first | exact Nat.le_refl _ | exact Nat.le_add_right _ _ | assumption) _ | apply Ext.patch | apply Ext.drew | apply Ext.drewN)))
  · rw [hm] at hc
    have HC := Lib.hid hc
    have hl40 := hM hm
    have HM := Lib.hid hm
    clear hc hM hm
    by_cases h0 : n < 0
    · have HV := Lib.hid (show Shp.size ⟨arr, A, cap, refs⟩ n = -1 by unfold Shp.size; rw [if_pos (by omega)])
      go_enter Tryz.func262, Tryz.ntmps262
      go_wp2_with (go_at_call 51; refine (HC.out _ (by (repeat (first | (with_reducible assumption) | (with_reducible exact Ext.refl _) | (with_reducible exact Ext.more _ _ _ _) | apply Ext.alloc | refine Ext.setCell ?_ (by first | exact Nat.le_refl _ | exact Nat.le_add_right _ _ | assumption) _ | apply Ext.patch | apply Ext.drew | apply Ext.drewN)))).mono ?_; rintro e w1 ⟨rfl, X1, rfl⟩)
      go_ret
      exact Gives.int HV.out.symm (by (repeat (first | (with_reducible assumption) | (with_reducible exact Ext.refl _) | (with_reducible exact Ext.more _ _ _ _) | apply Ext.alloc | refine Ext.setCell ?_ (by first | exact Nat.le_refl _ | exact Nat.le_add_right _ _ | assumption) _ | apply Ext.patch | apply Ext.drew | apply Ext.drewN)))
    · by_cases h1 : 512 < n
      · have HV := Lib.hid (show Shp.size ⟨arr, A, cap, refs⟩ n = -1 by unfold Shp.size; rw [if_pos (by omega)])
        go_enter Tryz.func262, Tryz.ntmps262
        go_wp2_with (go_at_call 51; refine (HC.out _ (by (repeat (first | (with_reducible assumption) | (with_reducible exact Ext.refl _) | (with_reducible exact Ext.more _ _ _ _) | apply Ext.alloc | refine Ext.setCell ?_ (by first | exact Nat.le_refl _ | exact Nat.le_add_right _ _ | assumption) _ | apply Ext.patch | apply Ext.drew | apply Ext.drewN)))).mono ?_; rintro e w1 ⟨rfl, X1, rfl⟩)
        go_ret
        exact Gives.int HV.out.symm (by (repeat (first | (with_reducible assumption) | (with_reducible exact Ext.refl _) | (with_reducible exact Ext.more _ _ _ _) | apply Ext.alloc | refine Ext.setCell ?_ (by first | exact Nat.le_refl _ | exact Nat.le_add_right _ _ | assumption) _ | apply Ext.patch | apply Ext.drew | apply Ext.drewN)))
      · cases arr
        · by_cases h2 : 0 < n
          · have HV := Lib.hid (show Shp.size ⟨false, A, cap, refs⟩ n = -1 by unfold Shp.size; rw [if_pos (by simp; omega)])
            go_enter Tryz.func262, Tryz.ntmps262
            go_wp2_with (go_at_call 51; refine (HC.out _ (by (repeat (first | (with_reducible assumption) | (with_reducible exact Ext.refl _) | (with_reducible exact Ext.more _ _ _ _) | apply Ext.alloc | refine Ext.setCell ?_ (by first | exact Nat.le_refl _ | exact Nat.le_add_right _ _ | assumption) _ | apply Ext.patch | apply Ext.drew | apply Ext.drewN)))).mono ?_; rintro e w1 ⟨rfl, X1, rfl⟩)
            go_ret
            exact Gives.int HV.out.symm (by (repeat (first | (with_reducible assumption) | (with_reducible exact Ext.refl _) | (with_reducible exact Ext.more _ _ _ _) | apply Ext.alloc | refine Ext.setCell ?_ (by first | exact Nat.le_refl _ | exact Nat.le_add_right _ _ | assumption) _ | apply Ext.patch | apply Ext.drew | apply Ext.drewN)))
          · by_cases h3 : refs.length ≤ 6
            · have HV := Lib.hid (show Shp.size ⟨false, A, cap, refs⟩ n = 1 by unfold Shp.size Shp.len; rw [if_neg (by simp [HM.out]; omega), if_neg (by simp), if_pos (by simp only; omega)])
              go_enter Tryz.func262, Tryz.ntmps262
              go_wp2_with (go_at_call 51; refine (HC.out _ (by (repeat (first | (with_reducible assumption) | (with_reducible exact Ext.refl _) | (with_reducible exact Ext.more _ _ _ _) | apply Ext.alloc | refine Ext.setCell ?_ (by first | exact Nat.le_refl _ | exact Nat.le_add_right _ _ | assumption) _ | apply Ext.patch | apply Ext.drew | apply Ext.drewN)))).mono ?_; rintro e w1 ⟨rfl, X1, rfl⟩)
              go_ret
              exact Gives.int HV.out.symm (by (repeat (first | (with_reducible assumption) | (with_reducible exact Ext.refl _) | (with_reducible exact Ext.more _ _ _ _) | apply Ext.alloc | refine Ext.setCell ?_ (by first | exact Nat.le_refl _ | exact Nat.le_add_right _ _ | assumption) _ | apply Ext.patch | apply Ext.drew | apply Ext.drewN)))
            · have HV := Lib.hid (show Shp.size ⟨false, A, cap, refs⟩ n = 1 + ((refs.length : Int) - 6 + 7 - 1) / 7 by unfold Shp.size Shp.len; rw [if_neg (by simp [HM.out]; omega), if_neg (by simp), if_neg (by simp only; omega)]; simp only; omega)
              go_enter Tryz.func262, Tryz.ntmps262
              go_wp2_with (first | (go_at_call 51; refine (HC.out _ (by (repeat (first | (with_reducible assumption) | (with_reducible exact Ext.refl _) | (with_reducible exact Ext.more _ _ _ _) | apply Ext.alloc | refine Ext.setCell ?_ (by first | exact Nat.le_refl _ | exact Nat.le_add_right _ _ | assumption) _ | apply Ext.patch | apply Ext.drew | apply Ext.drewN)))).mono ?_; rintro e w1 ⟨rfl, X1, rfl⟩) | (go_at_call 278; refine (up_any _ _ _ (by omega) (by omega) (by omega) (by omega)).mono ?_; rintro e w1 ⟨rfl, X1, rfl⟩))
              go_ret
              exact Gives.int HV.out.symm (by (repeat (first | (with_reducible assumption) | (with_reducible exact Ext.refl _) | (with_reducible exact Ext.more _ _ _ _) | apply Ext.alloc | refine Ext.setCell ?_ (by first | exact Nat.le_refl _ | exact Nat.le_add_right _ _ | assumption) _ | apply Ext.patch | apply Ext.drew | apply Ext.drewN)))
        · have hb := sData_bd n
          have HV := Lib.hid (show Shp.size ⟨true, A, cap, refs⟩ n = 1 + sData n by unfold Shp.size; rw [if_neg (by simp [HM.out]; omega), if_pos rfl])
          go_enter Tryz.func262, Tryz.ntmps262
          go_wp2_with (first | (go_at_call 51; refine (HC.out _ (by (repeat (first | (with_reducible assumption) | (with_reducible exact Ext.refl _) | (with_reducible exact Ext.more _ _ _ _) | apply Ext.alloc | refine Ext.setCell ?_ (by first | exact Nat.le_refl _ | exact Nat.le_add_right _ _ | assumption) _ | apply Ext.patch | apply Ext.drew | apply Ext.drewN)))).mono ?_; rintro e w1 ⟨rfl, X1, rfl⟩) | (go_at_call 242; refine (data_any _ _).mono ?_; rintro e w1 ⟨rfl, X1, rfl⟩))
          go_ret
          exact Gives.int HV.out.symm (by (repeat (first | (with_reducible assumption) | (with_reducible exact Ext.refl _) | (with_reducible exact Ext.more _ _ _ _) | apply Ext.alloc | refine Ext.setCell ?_ (by first | exact Nat.le_refl _ | exact Nat.le_add_right _ _ | assumption) _ | apply Ext.patch | apply Ext.drew | apply Ext.drewN)))
end Go.Proofs.YtnebimabokgofaaGreat

/-
  shape, word, num, stock.Side: small functions that only compute.
-/
namespace Go.Proofs.YtnebimabokgofaaGreat
open Go Go.RowKit

set_option maxHeartbeats 1000000 in
theorem place_any (s : Shp) (k : Int) (w : World) (hs : s.Ok w) (hk : -9223372036854775808 ≤ k) (hk' : k ≤ 9223372036854775807) : Calls Tryz.prog 277 #[s.val, .int .i64 k] w
    (Gives (s.place k) w) := by
  have hl : s.refs.length ≤ 140737488355328 := hs.max
  have hM : s.may = true → s.refs.length ≤ 40 := fun h => (of_decide_eq_true h).1
  have hc := fun w' (he : Ext w w') => may_any s w' (hs.ext he)
  obtain ⟨arr, A, cap, refs⟩ := s
  unfold Shp.val at hc ⊢
  simp only at hl hM hc ⊢
  cases hm : Shp.may ⟨arr, A, cap, refs⟩
  · rw [hm] at hc
    have HC := Lib.hid hc
    have HV := Lib.hid (show Shp.place ⟨arr, A, cap, refs⟩ k = .tuple #[.int .i64 0, .int .i64 0, .bool false] by unfold Shp.place; rw [if_neg (by rw [Bool.not_eq_true]; simp [Shp.hasField, hm])])
    clear hc hM hm
    go_enter Tryz.func277, Tryz.ntmps277
    go_wp2_with (go_at_call 51; refine (HC.out _ (by (repeat (first | (with_reducible assumption) | (with_reducible exact Ext.refl _) | (with_reducible exact Ext.more _ _ _ _) | apply Ext.alloc | refine Ext.setCell ?_ (by first | exact Nat.le_refl _ | exact Nat.le_add_right _ _ | assumption) _ | apply Ext.patch | apply Ext.drew | apply Ext.drewN)))).mono ?_; rintro e w1 ⟨rfl, X1, rfl⟩)
    go_ret3
    rw [HV.out]
    exact Gives.iib rfl rfl rfl (by (repeat (first | (with_reducible assumption) | (with_reducible exact Ext.refl _) | (with_reducible exact Ext.more _ _ _ _) | apply Ext.alloc | refine Ext.setCell ?_ (by first | exact Nat.le_refl _ | exact Nat.le_add_right _ _ | assumption) _ | apply Ext.patch | apply Ext.drew | apply Ext.drewN)))
  · rw [hm] at hc
    have HC := Lib.hid hc
    have hl40 := hM hm
    have HM := Lib.hid hm
    clear hc hM hm
    cases arr
    · by_cases h1 : 0 ≤ k ∧ k < refs.length
      · obtain ⟨h1, h2⟩ := h1
        have HV := Lib.hid (show Shp.place ⟨false, A, cap, refs⟩ k = .tuple #[.int .i64 (Shp.placeF k), .int .i64 (Shp.placeW k), .bool true] by unfold Shp.place; rw [if_pos (by simp only [Shp.hasField, HM.out, Shp.len]; simp [h1, h2])])
        by_cases h3 : k < 6
        · go_enter Tryz.func277, Tryz.ntmps277
          go_wp2_with (go_at_call 51; refine (HC.out _ (by (repeat (first | (with_reducible assumption) | (with_reducible exact Ext.refl _) | (with_reducible exact Ext.more _ _ _ _) | apply Ext.alloc | refine Ext.setCell ?_ (by first | exact Nat.le_refl _ | exact Nat.le_add_right _ _ | assumption) _ | apply Ext.patch | apply Ext.drew | apply Ext.drewN)))).mono ?_; rintro e w1 ⟨rfl, X1, rfl⟩)
          go_ret3
          rw [HV.out]
          exact Gives.iib (by unfold Shp.placeF; rw [if_pos h3]) (by unfold Shp.placeW; rw [if_pos h3]) rfl (by (repeat (first | (with_reducible assumption) | (with_reducible exact Ext.refl _) | (with_reducible exact Ext.more _ _ _ _) | apply Ext.alloc | refine Ext.setCell ?_ (by first | exact Nat.le_refl _ | exact Nat.le_add_right _ _ | assumption) _ | apply Ext.patch | apply Ext.drew | apply Ext.drewN)))
        · go_enter Tryz.func277, Tryz.ntmps277
          go_wp2_with (go_at_call 51; refine (HC.out _ (by (repeat (first | (with_reducible assumption) | (with_reducible exact Ext.refl _) | (with_reducible exact Ext.more _ _ _ _) | apply Ext.alloc | refine Ext.setCell ?_ (by first | exact Nat.le_refl _ | exact Nat.le_add_right _ _ | assumption) _ | apply Ext.patch | apply Ext.drew | apply Ext.drewN)))).mono ?_; rintro e w1 ⟨rfl, X1, rfl⟩)
          go_ret3
          rw [HV.out]
          exact Gives.iib (by unfold Shp.placeF; rw [if_neg (by omega)]) (by unfold Shp.placeW; rw [if_neg (by omega)]) rfl (by (repeat (first | (with_reducible assumption) | (with_reducible exact Ext.refl _) | (with_reducible exact Ext.more _ _ _ _) | apply Ext.alloc | refine Ext.setCell ?_ (by first | exact Nat.le_refl _ | exact Nat.le_add_right _ _ | assumption) _ | apply Ext.patch | apply Ext.drew | apply Ext.drewN)))
      · have HV := Lib.hid (show Shp.place ⟨false, A, cap, refs⟩ k = .tuple #[.int .i64 0, .int .i64 0, .bool false] by unfold Shp.place; rw [if_neg (by rw [Bool.not_eq_true]; unfold Shp.hasField; rw [Bool.and_eq_false_iff]; right; rw [decide_eq_false_iff_not]; exact h1)])
        by_cases h2 : k < 0
        · go_enter Tryz.func277, Tryz.ntmps277
          go_wp2_with (go_at_call 51; refine (HC.out _ (by (repeat (first | (with_reducible assumption) | (with_reducible exact Ext.refl _) | (with_reducible exact Ext.more _ _ _ _) | apply Ext.alloc | refine Ext.setCell ?_ (by first | exact Nat.le_refl _ | exact Nat.le_add_right _ _ | assumption) _ | apply Ext.patch | apply Ext.drew | apply Ext.drewN)))).mono ?_; rintro e w1 ⟨rfl, X1, rfl⟩)
          go_ret3
          rw [HV.out]
          exact Gives.iib rfl rfl rfl (by (repeat (first | (with_reducible assumption) | (with_reducible exact Ext.refl _) | (with_reducible exact Ext.more _ _ _ _) | apply Ext.alloc | refine Ext.setCell ?_ (by first | exact Nat.le_refl _ | exact Nat.le_add_right _ _ | assumption) _ | apply Ext.patch | apply Ext.drew | apply Ext.drewN)))
        · have h4 : (refs.length : Int) ≤ k := by omega
          go_enter Tryz.func277, Tryz.ntmps277
          go_wp2_with (go_at_call 51; refine (HC.out _ (by (repeat (first | (with_reducible assumption) | (with_reducible exact Ext.refl _) | (with_reducible exact Ext.more _ _ _ _) | apply Ext.alloc | refine Ext.setCell ?_ (by first | exact Nat.le_refl _ | exact Nat.le_add_right _ _ | assumption) _ | apply Ext.patch | apply Ext.drew | apply Ext.drewN)))).mono ?_; rintro e w1 ⟨rfl, X1, rfl⟩)
          go_ret3
          rw [HV.out]
          exact Gives.iib rfl rfl rfl (by (repeat (first | (with_reducible assumption) | (with_reducible exact Ext.refl _) | (with_reducible exact Ext.more _ _ _ _) | apply Ext.alloc | refine Ext.setCell ?_ (by first | exact Nat.le_refl _ | exact Nat.le_add_right _ _ | assumption) _ | apply Ext.patch | apply Ext.drew | apply Ext.drewN)))
    · have HV := Lib.hid (show Shp.place ⟨true, A, cap, refs⟩ k = .tuple #[.int .i64 0, .int .i64 0, .bool false] by unfold Shp.place; rw [if_neg (by rw [Bool.not_eq_true]; simp [Shp.hasField])])
      go_enter Tryz.func277, Tryz.ntmps277
      go_wp2_with (go_at_call 51; refine (HC.out _ (by (repeat (first | (with_reducible assumption) | (with_reducible exact Ext.refl _) | (with_reducible exact Ext.more _ _ _ _) | apply Ext.alloc | refine Ext.setCell ?_ (by first | exact Nat.le_refl _ | exact Nat.le_add_right _ _ | assumption) _ | apply Ext.patch | apply Ext.drew | apply Ext.drewN)))).mono ?_; rintro e w1 ⟨rfl, X1, rfl⟩)
      go_ret3
      rw [HV.out]
      exact Gives.iib rfl rfl rfl (by (repeat (first | (with_reducible assumption) | (with_reducible exact Ext.refl _) | (with_reducible exact Ext.more _ _ _ _) | apply Ext.alloc | refine Ext.setCell ?_ (by first | exact Nat.le_refl _ | exact Nat.le_add_right _ _ | assumption) _ | apply Ext.patch | apply Ext.drew | apply Ext.drewN)))

theorem none_any (w : World) : Calls Tryz.prog 61 #[] w (Gives wNone w) := by
  go_enter Tryz.func61, Tryz.ntmps61
  go_wp2
  go_ret
  exact Gives.mk rfl (by (repeat (first | (with_reducible assumption) | (with_reducible exact Ext.refl _) | (with_reducible exact Ext.more _ _ _ _) | apply Ext.alloc | refine Ext.setCell ?_ (by first | exact Nat.le_refl _ | exact Nat.le_add_right _ _ | assumption) _ | apply Ext.patch | apply Ext.drew | apply Ext.drewN)))

theorem ref_any (i : Int) (w : World) : Calls Tryz.prog 153 #[.int .i64 i] w (Gives (wRef i) w) := by
  by_cases h : i < 0 ∨ 1099511627776 < i
  · rw [show wRef i = wNone by unfold wRef; rw [if_pos h]]
    by_cases h' : i < 0
    · go_enter Tryz.func153, Tryz.ntmps153
      go_wp2_with (go_at_call 61; refine (none_any _).mono ?_; rintro e w1 ⟨rfl, X1, rfl⟩)
      go_ret
      exact Gives.mk rfl (by (repeat (first | (with_reducible assumption) | (with_reducible exact Ext.refl _) | (with_reducible exact Ext.more _ _ _ _) | apply Ext.alloc | refine Ext.setCell ?_ (by first | exact Nat.le_refl _ | exact Nat.le_add_right _ _ | assumption) _ | apply Ext.patch | apply Ext.drew | apply Ext.drewN)))
    · have h'' : 1099511627776 < i := by omega
      clear h
      go_enter Tryz.func153, Tryz.ntmps153
      go_wp2_with (go_at_call 61; refine (none_any _).mono ?_; rintro e w1 ⟨rfl, X1, rfl⟩)
      go_ret
      exact Gives.mk rfl (by (repeat (first | (with_reducible assumption) | (with_reducible exact Ext.refl _) | (with_reducible exact Ext.more _ _ _ _) | apply Ext.alloc | refine Ext.setCell ?_ (by first | exact Nat.le_refl _ | exact Nat.le_add_right _ _ | assumption) _ | apply Ext.patch | apply Ext.drew | apply Ext.drewN)))
  · have HV := Lib.hid (show wRef i = .complex .f64 (floatOfInt .f64 (i + 1)) 4607182418800017408 by unfold wRef; rw [if_neg h])
    have h1 : 0 ≤ i := by omega
    have h2 : i ≤ 1099511627776 := by omega
    clear h
    go_enter Tryz.func153, Tryz.ntmps153
    go_wp2
    go_ret
    rw [HV.out]
    exact Gives.mk rfl (by (repeat (first | (with_reducible assumption) | (with_reducible exact Ext.refl _) | (with_reducible exact Ext.more _ _ _ _) | apply Ext.alloc | refine Ext.setCell ?_ (by first | exact Nat.le_refl _ | exact Nat.le_add_right _ _ | assumption) _ | apply Ext.patch | apply Ext.drew | apply Ext.drewN)))

theorem whole_any (n : Int) (w : World) : Calls Tryz.prog 191 #[.int .i64 n] w (Gives (wWhole n) w) := by
  by_cases h : n < -9007199254740992
  · have HV := Lib.hid (show wWhole n = wZero by unfold wWhole; rw [if_pos (by omega)])
    go_enter Tryz.func191, Tryz.ntmps191
    go_wp2
    go_ret
    rw [HV.out]
    exact Gives.mk rfl (by (repeat (first | (with_reducible assumption) | (with_reducible exact Ext.refl _) | (with_reducible exact Ext.more _ _ _ _) | apply Ext.alloc | refine Ext.setCell ?_ (by first | exact Nat.le_refl _ | exact Nat.le_add_right _ _ | assumption) _ | apply Ext.patch | apply Ext.drew | apply Ext.drewN)))
  · by_cases h' : 9007199254740992 < n
    · have HV := Lib.hid (show wWhole n = wZero by unfold wWhole; rw [if_pos (by omega)])
      go_enter Tryz.func191, Tryz.ntmps191
      go_wp2
      go_ret
      rw [HV.out]
      exact Gives.mk rfl (by (repeat (first | (with_reducible assumption) | (with_reducible exact Ext.refl _) | (with_reducible exact Ext.more _ _ _ _) | apply Ext.alloc | refine Ext.setCell ?_ (by first | exact Nat.le_refl _ | exact Nat.le_add_right _ _ | assumption) _ | apply Ext.patch | apply Ext.drew | apply Ext.drewN)))
    · have HV := Lib.hid (show wWhole n = .complex .f64 (floatOfInt .f64 n) 0 by unfold wWhole; rw [if_neg (by omega)])
      go_enter Tryz.func191, Tryz.ntmps191
      go_wp2
      go_ret
      rw [HV.out]
      exact Gives.mk rfl (by (repeat (first | (with_reducible assumption) | (with_reducible exact Ext.refl _) | (with_reducible exact Ext.more _ _ _ _) | apply Ext.alloc | refine Ext.setCell ?_ (by first | exact Nat.le_refl _ | exact Nat.le_add_right _ _ | assumption) _ | apply Ext.patch | apply Ext.drew | apply Ext.drewN)))

theorem blank_any (b : Bool) (w : World) : Calls Tryz.prog 245 #[.bool b] w (Gives (wBlank b) w) := by
  cases b
  · go_enter Tryz.func245, Tryz.ntmps245
    go_wp2_with (go_at_call 191; refine (whole_any _ _).mono ?_; rw [wWhole_zero]; rintro e w1 ⟨rfl, X1, rfl⟩)
    go_ret
    exact Gives.mk rfl (by (repeat (first | (with_reducible assumption) | (with_reducible exact Ext.refl _) | (with_reducible exact Ext.more _ _ _ _) | apply Ext.alloc | refine Ext.setCell ?_ (by first | exact Nat.le_refl _ | exact Nat.le_add_right _ _ | assumption) _ | apply Ext.patch | apply Ext.drew | apply Ext.drewN)))
  · go_enter Tryz.func245, Tryz.ntmps245
    go_wp2_with (go_at_call 61; refine (none_any _).mono ?_; rintro e w1 ⟨rfl, X1, rfl⟩)
    go_ret
    exact Gives.mk rfl (by (repeat (first | (with_reducible assumption) | (with_reducible exact Ext.refl _) | (with_reducible exact Ext.more _ _ _ _) | apply Ext.alloc | refine Ext.setCell ?_ (by first | exact Nat.le_refl _ | exact Nat.le_add_right _ _ | assumption) _ | apply Ext.patch | apply Ext.drew | apply Ext.drewN)))

theorem head_any (k m : Int) (w : World) : Calls Tryz.prog 238 #[.int .i64 k, .int .i64 m] w (Gives (wHead k m) w) := by
  by_cases h : k < 0 ∨ 1099511627776 < k ∨ m < 0 ∨ 1099511627776 < m
  · have HV := Lib.hid (show wHead k m = wZero by unfold wHead; rw [if_pos h])
    by_cases h1 : k < 0
    · clear h
      go_enter Tryz.func238, Tryz.ntmps238
      go_wp2
      go_ret
      rw [HV.out]
      exact Gives.mk rfl (by (repeat (first | (with_reducible assumption) | (with_reducible exact Ext.refl _) | (with_reducible exact Ext.more _ _ _ _) | apply Ext.alloc | refine Ext.setCell ?_ (by first | exact Nat.le_refl _ | exact Nat.le_add_right _ _ | assumption) _ | apply Ext.patch | apply Ext.drew | apply Ext.drewN)))
    · by_cases h2 : 1099511627776 < k
      · clear h
        go_enter Tryz.func238, Tryz.ntmps238
        go_wp2
        go_ret
        rw [HV.out]
        exact Gives.mk rfl (by (repeat (first | (with_reducible assumption) | (with_reducible exact Ext.refl _) | (with_reducible exact Ext.more _ _ _ _) | apply Ext.alloc | refine Ext.setCell ?_ (by first | exact Nat.le_refl _ | exact Nat.le_add_right _ _ | assumption) _ | apply Ext.patch | apply Ext.drew | apply Ext.drewN)))
      · by_cases h3 : m < 0
        · clear h
          go_enter Tryz.func238, Tryz.ntmps238
          go_wp2
          go_ret
          rw [HV.out]
          exact Gives.mk rfl (by (repeat (first | (with_reducible assumption) | (with_reducible exact Ext.refl _) | (with_reducible exact Ext.more _ _ _ _) | apply Ext.alloc | refine Ext.setCell ?_ (by first | exact Nat.le_refl _ | exact Nat.le_add_right _ _ | assumption) _ | apply Ext.patch | apply Ext.drew | apply Ext.drewN)))
        · have h4 : 1099511627776 < m := by omega
          clear h
          go_enter Tryz.func238, Tryz.ntmps238
          go_wp2
          go_ret
          rw [HV.out]
          exact Gives.mk rfl (by (repeat (first | (with_reducible assumption) | (with_reducible exact Ext.refl _) | (with_reducible exact Ext.more _ _ _ _) | apply Ext.alloc | refine Ext.setCell ?_ (by first | exact Nat.le_refl _ | exact Nat.le_add_right _ _ | assumption) _ | apply Ext.patch | apply Ext.drew | apply Ext.drewN)))
  · have HV := Lib.hid (show wHead k m = .complex .f64 (floatOfInt .f64 k) (floatOfInt .f64 m) by unfold wHead; rw [if_neg h])
    have h1 : 0 ≤ k := by omega
    have h2 : k ≤ 1099511627776 := by omega
    have h3 : 0 ≤ m := by omega
    have h4 : m ≤ 1099511627776 := by omega
    clear h
    go_enter Tryz.func238, Tryz.ntmps238
    go_wp2
    go_ret
    rw [HV.out]
    exact Gives.mk rfl (by (repeat (first | (with_reducible assumption) | (with_reducible exact Ext.refl _) | (with_reducible exact Ext.more _ _ _ _) | apply Ext.alloc | refine Ext.setCell ?_ (by first | exact Nat.le_refl _ | exact Nat.le_add_right _ _ | assumption) _ | apply Ext.patch | apply Ext.drew | apply Ext.drewN)))
end Go.Proofs.YtnebimabokgofaaGreat

