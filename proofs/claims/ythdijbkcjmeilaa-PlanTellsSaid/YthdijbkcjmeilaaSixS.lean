/-
  sporef1, sporef6: small functions of any arguments.
-/
import Derived.Test.YthdijbkcjmeilaaRefChk
import Derived.Test.YthdijbkcjmeilaaShape2
import Derived.Test.YthdijbkcjmeilaaMode
import Derived.Test.YthdijbkcjmeilaaDist
import Derived.Test.YthdijbkcjmeilaaPlan1
namespace Go.Proofs.Ythdijbkcjmeilaa
open Go Go.RowKit
set_option linter.unusedVariables false
set_option linter.unnecessarySimpa false
set_option linter.unusedSimpArgs false
set_option maxHeartbeats 4000000
theorem rref_all (i : Int) (w : World) : Calls Try.prog 20 #[.int .i64 i] w (Gives (wRef i) w) := by
  by_cases h : i < 0 ∨ 1099511627776 < i
  · rw [show wRef i = wNone by unfold wRef; rw [if_pos h]]
    by_cases h' : i < 0
    · go_enter Try.func20, Try.ntmps20
      go_wp2_with fail
      refine (rnone_any _).mono ?_
      rintro e w1 ⟨rfl, rfl⟩
      go_wp2_with fail
      go_ret
      exact Gives.mk rfl (by (repeat (first | (with_reducible assumption) | (with_reducible exact Ext.refl _) | (with_reducible exact Ext.more _ _ _ _) | apply Ext.alloc | refine Ext.setCell ?_ (by first | exact Nat.le_refl _ | exact Nat.le_add_right _ _ | assumption) _ | apply Ext.patch | apply Ext.drew | apply Ext.drewN)))
    · have h'' : 1099511627776 < i := by omega
      clear h
      go_enter Try.func20, Try.ntmps20
      go_wp2_with fail
      refine (rnone_any _).mono ?_
      rintro e w1 ⟨rfl, rfl⟩
      go_wp2_with fail
      go_ret
      exact Gives.mk rfl (by (repeat (first | (with_reducible assumption) | (with_reducible exact Ext.refl _) | (with_reducible exact Ext.more _ _ _ _) | apply Ext.alloc | refine Ext.setCell ?_ (by first | exact Nat.le_refl _ | exact Nat.le_add_right _ _ | assumption) _ | apply Ext.patch | apply Ext.drew | apply Ext.drewN)))
  · have HV := Lib.hid (show wRef i = .complex .f64 (floatOfInt .f64 (i + 1)) 4607182418800017408 by unfold wRef; rw [if_neg h])
    have h1 : 0 ≤ i := by omega
    have h2 : i ≤ 1099511627776 := by omega
    clear h
    go_enter Try.func20, Try.ntmps20
    go_wp2_with fail
    go_ret
    rw [HV.out]
    exact Gives.mk rfl (by (repeat (first | (with_reducible assumption) | (with_reducible exact Ext.refl _) | (with_reducible exact Ext.more _ _ _ _) | apply Ext.alloc | refine Ext.setCell ?_ (by first | exact Nat.le_refl _ | exact Nat.le_add_right _ _ | assumption) _ | apply Ext.patch | apply Ext.drew | apply Ext.drewN)))
theorem rwhole_all (n : Int) (w : World) : Calls Try.prog 57 #[.int .i64 n] w (Gives (wWhole n) w) := by
  by_cases h : n < -9007199254740992
  · have HV := Lib.hid (show wWhole n = wZero by unfold wWhole; rw [if_pos (by omega)])
    go_enter Try.func57, Try.ntmps57
    go_wp2_with fail
    go_ret
    rw [HV.out]
    exact Gives.mk rfl (by (repeat (first | (with_reducible assumption) | (with_reducible exact Ext.refl _) | (with_reducible exact Ext.more _ _ _ _) | apply Ext.alloc | refine Ext.setCell ?_ (by first | exact Nat.le_refl _ | exact Nat.le_add_right _ _ | assumption) _ | apply Ext.patch | apply Ext.drew | apply Ext.drewN)))
  · by_cases h' : 9007199254740992 < n
    · have HV := Lib.hid (show wWhole n = wZero by unfold wWhole; rw [if_pos (by omega)])
      go_enter Try.func57, Try.ntmps57
      go_wp2_with fail
      go_ret
      rw [HV.out]
      exact Gives.mk rfl (by (repeat (first | (with_reducible assumption) | (with_reducible exact Ext.refl _) | (with_reducible exact Ext.more _ _ _ _) | apply Ext.alloc | refine Ext.setCell ?_ (by first | exact Nat.le_refl _ | exact Nat.le_add_right _ _ | assumption) _ | apply Ext.patch | apply Ext.drew | apply Ext.drewN)))
    · have HV := Lib.hid (show wWhole n = .complex .f64 (floatOfInt .f64 n) 0 by unfold wWhole; rw [if_neg (by omega)])
      go_enter Try.func57, Try.ntmps57
      go_wp2_with fail
      go_ret
      rw [HV.out]
      exact Gives.mk rfl (by (repeat (first | (with_reducible assumption) | (with_reducible exact Ext.refl _) | (with_reducible exact Ext.more _ _ _ _) | apply Ext.alloc | refine Ext.setCell ?_ (by first | exact Nat.le_refl _ | exact Nat.le_add_right _ _ | assumption) _ | apply Ext.patch | apply Ext.drew | apply Ext.drewN)))
theorem rhead_all (k m : Int) (w : World) : Calls Try.prog 45 #[.int .i64 k, .int .i64 m] w (Gives (wHead k m) w) := by
  by_cases h1 : k < 0
  · have HV := Lib.hid (show wHead k m = wZero by unfold wHead; rw [if_pos (by omega)])
    go_enter Try.func45, Try.ntmps45
    go_wp2_with fail
    go_ret
    rw [HV.out]
    exact Gives.mk rfl (by (repeat (first | (with_reducible assumption) | (with_reducible exact Ext.refl _) | (with_reducible exact Ext.more _ _ _ _) | apply Ext.alloc | refine Ext.setCell ?_ (by first | exact Nat.le_refl _ | exact Nat.le_add_right _ _ | assumption) _ | apply Ext.patch | apply Ext.drew | apply Ext.drewN)))
  by_cases h2 : 1099511627776 < k
  · have HV := Lib.hid (show wHead k m = wZero by unfold wHead; rw [if_pos (by omega)])
    go_enter Try.func45, Try.ntmps45
    go_wp2_with fail
    go_ret
    rw [HV.out]
    exact Gives.mk rfl (by (repeat (first | (with_reducible assumption) | (with_reducible exact Ext.refl _) | (with_reducible exact Ext.more _ _ _ _) | apply Ext.alloc | refine Ext.setCell ?_ (by first | exact Nat.le_refl _ | exact Nat.le_add_right _ _ | assumption) _ | apply Ext.patch | apply Ext.drew | apply Ext.drewN)))
  by_cases h3 : m < 0
  · have HV := Lib.hid (show wHead k m = wZero by unfold wHead; rw [if_pos (by omega)])
    go_enter Try.func45, Try.ntmps45
    go_wp2_with fail
    go_ret
    rw [HV.out]
    exact Gives.mk rfl (by (repeat (first | (with_reducible assumption) | (with_reducible exact Ext.refl _) | (with_reducible exact Ext.more _ _ _ _) | apply Ext.alloc | refine Ext.setCell ?_ (by first | exact Nat.le_refl _ | exact Nat.le_add_right _ _ | assumption) _ | apply Ext.patch | apply Ext.drew | apply Ext.drewN)))
  by_cases h4 : 1099511627776 < m
  · have HV := Lib.hid (show wHead k m = wZero by unfold wHead; rw [if_pos (by omega)])
    go_enter Try.func45, Try.ntmps45
    go_wp2_with fail
    go_ret
    rw [HV.out]
    exact Gives.mk rfl (by (repeat (first | (with_reducible assumption) | (with_reducible exact Ext.refl _) | (with_reducible exact Ext.more _ _ _ _) | apply Ext.alloc | refine Ext.setCell ?_ (by first | exact Nat.le_refl _ | exact Nat.le_add_right _ _ | assumption) _ | apply Ext.patch | apply Ext.drew | apply Ext.drewN)))
  have HV := Lib.hid (show wHead k m = .complex .f64 (floatOfInt .f64 k) (floatOfInt .f64 m) by unfold wHead; rw [if_neg (by omega)])
  go_enter Try.func45, Try.ntmps45
  go_wp2_with fail
  go_ret
  rw [HV.out]
  exact Gives.mk rfl (by (repeat (first | (with_reducible assumption) | (with_reducible exact Ext.refl _) | (with_reducible exact Ext.more _ _ _ _) | apply Ext.alloc | refine Ext.setCell ?_ (by first | exact Nat.le_refl _ | exact Nat.le_add_right _ _ | assumption) _ | apply Ext.patch | apply Ext.drew | apply Ext.drewN)))
theorem rblank_any (b : Bool) (w : World) : Calls Try.prog 46 #[.bool b] w (Gives (wBlank b) w) := by
  cases b
  · go_enter Try.func46, Try.ntmps46
    go_wp2_with fail
    go_ret
    exact Gives.mk rfl (by (repeat (first | (with_reducible assumption) | (with_reducible exact Ext.refl _) | (with_reducible exact Ext.more _ _ _ _) | apply Ext.alloc | refine Ext.setCell ?_ (by first | exact Nat.le_refl _ | exact Nat.le_add_right _ _ | assumption) _ | apply Ext.patch | apply Ext.drew | apply Ext.drewN)))
  · go_enter Try.func46, Try.ntmps46
    go_wp2_with fail
    refine (rnone_any _).mono ?_
    rintro e w1 ⟨rfl, rfl⟩
    go_wp2_with fail
    go_ret
    exact Gives.mk rfl (by (repeat (first | (with_reducible assumption) | (with_reducible exact Ext.refl _) | (with_reducible exact Ext.more _ _ _ _) | apply Ext.alloc | refine Ext.setCell ?_ (by first | exact Nat.le_refl _ | exact Nat.le_add_right _ _ | assumption) _ | apply Ext.patch | apply Ext.drew | apply Ext.drewN)))
theorem rdata_any (n : Int) (w : World) : Calls Try.prog 78 #[.int .i64 n] w (fun e w' => e = .returned (.int .i64 (sData n)) ∧ w = w') := by
  by_cases h1 : n < 1
  · go_enter Try.func78, Try.ntmps78
    go_wp2_with fail
    go_ret
    exact ⟨by unfold sData; rw [if_pos (by omega)]; try rfl, rfl⟩
  · by_cases h2 : 512 < n
    · go_enter Try.func78, Try.ntmps78
      go_wp2_with fail
      go_ret
      exact ⟨by unfold sData; rw [if_pos (by omega)]; try rfl, rfl⟩
    · go_enter Try.func78, Try.ntmps78
      go_wp2_with fail
      go_ret
      exact ⟨by unfold sData; rw [if_neg (by omega)]; try rfl, rfl⟩
theorem rsize_any (s : Shp) (n : Int) (w : World) (hs : s.Ok w) : Calls Try.prog 41 #[s.val, .int .i64 n] w (Gives (.int .i64 (s.size n)) w) := by
  have hl : s.refs.length ≤ 140737488355328 := hs.max
  have hM : s.may = true → s.refs.length ≤ 40 := fun h => (of_decide_eq_true h).1
  have HC := Lib.hid (fun w' (he : Ext w w') => rmay_any s w' (hs.ext he))
  clear hs
  obtain ⟨arr, A, cap, refs⟩ := s
  unfold Shp.val at HC ⊢
  simp only at hl hM HC ⊢
  cases hm : Shp.may ⟨arr, A, cap, refs⟩
  · rw [hm] at HC
    clear hM
    have HV := Lib.hid (show Shp.size ⟨arr, A, cap, refs⟩ n = -1 by simp [Shp.size, hm])
    clear hm
    go_enter Try.func41, Try.ntmps41
    go_wp2_with fail
    refine (HC.out _ (by (repeat (first | (with_reducible assumption) | (with_reducible exact Ext.refl _) | (with_reducible exact Ext.more _ _ _ _) | apply Ext.alloc | refine Ext.setCell ?_ (by first | exact Nat.le_refl _ | exact Nat.le_add_right _ _ | assumption) _ | apply Ext.patch | apply Ext.drew | apply Ext.drewN)))).mono ?_
    rintro e w1 ⟨rfl, X1, rfl⟩
    go_wp2_with fail
    go_ret
    exact Gives.int HV.out.symm (by (repeat (first | (with_reducible assumption) | (with_reducible exact Ext.refl _) | (with_reducible exact Ext.more _ _ _ _) | apply Ext.alloc | refine Ext.setCell ?_ (by first | exact Nat.le_refl _ | exact Nat.le_add_right _ _ | assumption) _ | apply Ext.patch | apply Ext.drew | apply Ext.drewN)))
  rw [hm] at HC
  have hl40 := hM hm
  have HM := Lib.hid hm
  clear hM hm
  cases arr
  · by_cases h0 : n = 0
    · subst h0
      by_cases h6 : refs.length ≤ 6
      · have HV := Lib.hid (show Shp.size ⟨false, A, cap, refs⟩ 0 = 1 by unfold Shp.size; rw [if_neg (by simp [HM.out]), if_neg (by simp), if_pos (show Shp.len ⟨false, A, cap, refs⟩ ≤ 6 from by show (refs.length : Int) ≤ 6; omega)])
        go_enter Try.func41, Try.ntmps41
        go_wp2_with fail
        refine (HC.out _ (by (repeat (first | (with_reducible assumption) | (with_reducible exact Ext.refl _) | (with_reducible exact Ext.more _ _ _ _) | apply Ext.alloc | refine Ext.setCell ?_ (by first | exact Nat.le_refl _ | exact Nat.le_add_right _ _ | assumption) _ | apply Ext.patch | apply Ext.drew | apply Ext.drewN)))).mono ?_
        rintro e w1 ⟨rfl, X1, rfl⟩
        go_wp2_with fail
        go_ret
        exact Gives.int HV.out.symm (by (repeat (first | (with_reducible assumption) | (with_reducible exact Ext.refl _) | (with_reducible exact Ext.more _ _ _ _) | apply Ext.alloc | refine Ext.setCell ?_ (by first | exact Nat.le_refl _ | exact Nat.le_add_right _ _ | assumption) _ | apply Ext.patch | apply Ext.drew | apply Ext.drewN)))
      · have HV := Lib.hid (show Shp.size ⟨false, A, cap, refs⟩ 0 = 1 + (refs.length : Int) / 7 by unfold Shp.size; rw [if_neg (by simp [HM.out]), if_neg (by simp), if_neg (show ¬ Shp.len ⟨false, A, cap, refs⟩ ≤ 6 from by show ¬ (refs.length : Int) ≤ 6; omega)]; rfl)
        have h6' : decide ((refs.length : Int) ≤ 6) = false := decide_eq_false (by omega)
        go_enter Try.func41, Try.ntmps41
        go_wp2_with fail
        refine (HC.out _ (by (repeat (first | (with_reducible assumption) | (with_reducible exact Ext.refl _) | (with_reducible exact Ext.more _ _ _ _) | apply Ext.alloc | refine Ext.setCell ?_ (by first | exact Nat.le_refl _ | exact Nat.le_add_right _ _ | assumption) _ | apply Ext.patch | apply Ext.drew | apply Ext.drewN)))).mono ?_
        rintro e w1 ⟨rfl, X1, rfl⟩
        go_wp2_with fail
        go_ret
        exact Gives.int (by rw [HV.out]; try omega) (by (repeat (first | (with_reducible assumption) | (with_reducible exact Ext.refl _) | (with_reducible exact Ext.more _ _ _ _) | apply Ext.alloc | refine Ext.setCell ?_ (by first | exact Nat.le_refl _ | exact Nat.le_add_right _ _ | assumption) _ | apply Ext.patch | apply Ext.drew | apply Ext.drewN)))
    · have hn : (n != 0) = true := by simp [h0]
      have HV := Lib.hid (show Shp.size ⟨false, A, cap, refs⟩ n = -1 by unfold Shp.size; rw [if_pos (by by_cases hx : n < 0; exact Or.inr (Or.inl hx); exact Or.inr (Or.inr (Or.inr ⟨rfl, by omega⟩)))])
      go_enter Try.func41, Try.ntmps41
      go_wp2_with fail
      refine (HC.out _ (by (repeat (first | (with_reducible assumption) | (with_reducible exact Ext.refl _) | (with_reducible exact Ext.more _ _ _ _) | apply Ext.alloc | refine Ext.setCell ?_ (by first | exact Nat.le_refl _ | exact Nat.le_add_right _ _ | assumption) _ | apply Ext.patch | apply Ext.drew | apply Ext.drewN)))).mono ?_
      rintro e w1 ⟨rfl, X1, rfl⟩
      go_wp2_with fail
      go_ret
      exact Gives.int HV.out.symm (by (repeat (first | (with_reducible assumption) | (with_reducible exact Ext.refl _) | (with_reducible exact Ext.more _ _ _ _) | apply Ext.alloc | refine Ext.setCell ?_ (by first | exact Nat.le_refl _ | exact Nat.le_add_right _ _ | assumption) _ | apply Ext.patch | apply Ext.drew | apply Ext.drewN)))
  · by_cases h0 : n < 0
    · have HV := Lib.hid (show Shp.size ⟨true, A, cap, refs⟩ n = -1 by unfold Shp.size; rw [if_pos (by omega)])
      go_enter Try.func41, Try.ntmps41
      go_wp2_with fail
      refine (HC.out _ (by (repeat (first | (with_reducible assumption) | (with_reducible exact Ext.refl _) | (with_reducible exact Ext.more _ _ _ _) | apply Ext.alloc | refine Ext.setCell ?_ (by first | exact Nat.le_refl _ | exact Nat.le_add_right _ _ | assumption) _ | apply Ext.patch | apply Ext.drew | apply Ext.drewN)))).mono ?_
      rintro e w1 ⟨rfl, X1, rfl⟩
      go_wp2_with fail
      go_ret
      exact Gives.int HV.out.symm (by (repeat (first | (with_reducible assumption) | (with_reducible exact Ext.refl _) | (with_reducible exact Ext.more _ _ _ _) | apply Ext.alloc | refine Ext.setCell ?_ (by first | exact Nat.le_refl _ | exact Nat.le_add_right _ _ | assumption) _ | apply Ext.patch | apply Ext.drew | apply Ext.drewN)))
    · by_cases h1 : 512 < n
      · have HV := Lib.hid (show Shp.size ⟨true, A, cap, refs⟩ n = -1 by unfold Shp.size; rw [if_pos (by omega)])
        go_enter Try.func41, Try.ntmps41
        go_wp2_with fail
        refine (HC.out _ (by (repeat (first | (with_reducible assumption) | (with_reducible exact Ext.refl _) | (with_reducible exact Ext.more _ _ _ _) | apply Ext.alloc | refine Ext.setCell ?_ (by first | exact Nat.le_refl _ | exact Nat.le_add_right _ _ | assumption) _ | apply Ext.patch | apply Ext.drew | apply Ext.drewN)))).mono ?_
        rintro e w1 ⟨rfl, X1, rfl⟩
        go_wp2_with fail
        go_ret
        exact Gives.int HV.out.symm (by (repeat (first | (with_reducible assumption) | (with_reducible exact Ext.refl _) | (with_reducible exact Ext.more _ _ _ _) | apply Ext.alloc | refine Ext.setCell ?_ (by first | exact Nat.le_refl _ | exact Nat.le_add_right _ _ | assumption) _ | apply Ext.patch | apply Ext.drew | apply Ext.drewN)))
      · have HV := Lib.hid (show Shp.size ⟨true, A, cap, refs⟩ n = 1 + sData n by unfold Shp.size; rw [if_neg (by simp [HM.out]; omega), if_pos rfl])
        have hsd := sData_bd n
        go_enter Try.func41, Try.ntmps41
        go_wp2_with fail
        refine (HC.out _ (by (repeat (first | (with_reducible assumption) | (with_reducible exact Ext.refl _) | (with_reducible exact Ext.more _ _ _ _) | apply Ext.alloc | refine Ext.setCell ?_ (by first | exact Nat.le_refl _ | exact Nat.le_add_right _ _ | assumption) _ | apply Ext.patch | apply Ext.drew | apply Ext.drewN)))).mono ?_
        rintro e w1 ⟨rfl, X1, rfl⟩
        go_wp2_with fail
        refine (rdata_any _ _).mono ?_
        rintro e w1 ⟨rfl, rfl⟩
        go_wp2_with fail
        go_ret
        exact Gives.int HV.out.symm (by (repeat (first | (with_reducible assumption) | (with_reducible exact Ext.refl _) | (with_reducible exact Ext.more _ _ _ _) | apply Ext.alloc | refine Ext.setCell ?_ (by first | exact Nat.le_refl _ | exact Nat.le_add_right _ _ | assumption) _ | apply Ext.patch | apply Ext.drew | apply Ext.drewN)))
theorem rspine_any (s : Shp) (n : Int) (w : World) (hs : s.Ok w) : Calls Try.prog 55 #[s.val, .int .i64 n] w (Gives (.int .i64 (s.spine n)) w) := by
  have HC := Lib.hid (fun w' (he : Ext w w') => rmay_any s w' (hs.ext he))
  have hsd := sData_bd n
  clear hs
  obtain ⟨arr, A, cap, refs⟩ := s
  unfold Shp.val at HC ⊢
  simp only at HC ⊢
  cases hm : Shp.may ⟨arr, A, cap, refs⟩
  · rw [hm] at HC
    have HV := Lib.hid (show Shp.spine ⟨arr, A, cap, refs⟩ n = 0 by simp [Shp.spine, hm])
    clear hm
    go_enter Try.func55, Try.ntmps55
    go_wp2_with fail
    refine (HC.out _ (by (repeat (first | (with_reducible assumption) | (with_reducible exact Ext.refl _) | (with_reducible exact Ext.more _ _ _ _) | apply Ext.alloc | refine Ext.setCell ?_ (by first | exact Nat.le_refl _ | exact Nat.le_add_right _ _ | assumption) _ | apply Ext.patch | apply Ext.drew | apply Ext.drewN)))).mono ?_
    rintro e w1 ⟨rfl, X1, rfl⟩
    go_wp2_with fail
    go_ret
    exact Gives.int HV.out.symm (by (repeat (first | (with_reducible assumption) | (with_reducible exact Ext.refl _) | (with_reducible exact Ext.more _ _ _ _) | apply Ext.alloc | refine Ext.setCell ?_ (by first | exact Nat.le_refl _ | exact Nat.le_add_right _ _ | assumption) _ | apply Ext.patch | apply Ext.drew | apply Ext.drewN)))
  rw [hm] at HC
  have HM := Lib.hid hm
  clear hm
  cases arr
  · have HV := Lib.hid (show Shp.spine ⟨false, A, cap, refs⟩ n = 0 by simp [Shp.spine])
    go_enter Try.func55, Try.ntmps55
    go_wp2_with fail
    refine (HC.out _ (by (repeat (first | (with_reducible assumption) | (with_reducible exact Ext.refl _) | (with_reducible exact Ext.more _ _ _ _) | apply Ext.alloc | refine Ext.setCell ?_ (by first | exact Nat.le_refl _ | exact Nat.le_add_right _ _ | assumption) _ | apply Ext.patch | apply Ext.drew | apply Ext.drewN)))).mono ?_
    rintro e w1 ⟨rfl, X1, rfl⟩
    go_wp2_with fail
    go_ret
    exact Gives.int HV.out.symm (by (repeat (first | (with_reducible assumption) | (with_reducible exact Ext.refl _) | (with_reducible exact Ext.more _ _ _ _) | apply Ext.alloc | refine Ext.setCell ?_ (by first | exact Nat.le_refl _ | exact Nat.le_add_right _ _ | assumption) _ | apply Ext.patch | apply Ext.drew | apply Ext.drewN)))
  · by_cases h4 : sData n ≤ 4
    · have HV := Lib.hid (show Shp.spine ⟨true, A, cap, refs⟩ n = 0 by simp [Shp.spine, h4])
      go_enter Try.func55, Try.ntmps55
      go_wp2_with fail
      refine (HC.out _ (by (repeat (first | (with_reducible assumption) | (with_reducible exact Ext.refl _) | (with_reducible exact Ext.more _ _ _ _) | apply Ext.alloc | refine Ext.setCell ?_ (by first | exact Nat.le_refl _ | exact Nat.le_add_right _ _ | assumption) _ | apply Ext.patch | apply Ext.drew | apply Ext.drewN)))).mono ?_
      rintro e w1 ⟨rfl, X1, rfl⟩
      go_wp2_with fail
      refine (rdata_any _ _).mono ?_
      rintro e w1 ⟨rfl, rfl⟩
      go_wp2_with fail
      go_ret
      exact Gives.int HV.out.symm (by (repeat (first | (with_reducible assumption) | (with_reducible exact Ext.refl _) | (with_reducible exact Ext.more _ _ _ _) | apply Ext.alloc | refine Ext.setCell ?_ (by first | exact Nat.le_refl _ | exact Nat.le_add_right _ _ | assumption) _ | apply Ext.patch | apply Ext.drew | apply Ext.drewN)))
    · have HV := Lib.hid (show Shp.spine ⟨true, A, cap, refs⟩ n = sData n + 2 by unfold Shp.spine; rw [if_neg (by simp [HM.out, h4])])
      have h4' : decide (sData n ≤ 4) = false := decide_eq_false h4
      go_enter Try.func55, Try.ntmps55
      go_wp2_with fail
      refine (HC.out _ (by (repeat (first | (with_reducible assumption) | (with_reducible exact Ext.refl _) | (with_reducible exact Ext.more _ _ _ _) | apply Ext.alloc | refine Ext.setCell ?_ (by first | exact Nat.le_refl _ | exact Nat.le_add_right _ _ | assumption) _ | apply Ext.patch | apply Ext.drew | apply Ext.drewN)))).mono ?_
      rintro e w1 ⟨rfl, X1, rfl⟩
      go_wp2_with fail
      refine (rdata_any _ _).mono ?_
      rintro e w1 ⟨rfl, rfl⟩
      go_wp2_with fail
      refine (rdata_any _ _).mono ?_
      rintro e w1 ⟨rfl, rfl⟩
      go_wp2_with fail
      go_ret
      exact Gives.int HV.out.symm (by (repeat (first | (with_reducible assumption) | (with_reducible exact Ext.refl _) | (with_reducible exact Ext.more _ _ _ _) | apply Ext.alloc | refine Ext.setCell ?_ (by first | exact Nat.le_refl _ | exact Nat.le_add_right _ _ | assumption) _ | apply Ext.patch | apply Ext.drew | apply Ext.drewN)))
/-- A shape by its number, as it lies. -/
def RShapeGot (c : Cnf) (k : Int) (w : World) (e : Ending) (w' : World) : Prop :=
  ∃ s' : Shp, e = .returned (.tuple #[s'.val, .bool (c.shapeAt k).isSome]) ∧ (s'.arr, s'.refs) = (c.shapeAt k).getD (false, []) ∧ s'.Ok w ∧ Ext w w'
theorem rshape_any (c : Cnf) (k : Int) (w : World) (hc : c.Ok w) : Calls Try.prog 40 #[c.val, .int .i64 k] w (RShapeGot c k w) := by
  have hl := hc.max
  unfold Cnf.val
  by_cases h0 : k < 0
  · go_enter Try.func40, Try.ntmps40
    go_wp2_with fail
    refine bodyPost_ret (v := .tuple #[.agg #[.bool false, .slice none 0 0], .bool false]) (by simp [results, Try.results40, go_sem]) rfl ?_
    exact ⟨⟨false, none, 0, []⟩, by rw [Cnf.shapeAt_neg h0]; rfl, by rw [Cnf.shapeAt_neg h0]; rfl, ⟨CellsAt.nil _ _, by simp, by simp⟩, by (repeat (first | (with_reducible assumption) | (with_reducible exact Ext.refl _) | (with_reducible exact Ext.more _ _ _ _) | apply Ext.alloc | refine Ext.setCell ?_ (by first | exact Nat.le_refl _ | exact Nat.le_add_right _ _ | assumption) _ | apply Ext.patch | apply Ext.drew | apply Ext.drewN))⟩
  · by_cases h1 : k < c.shapes.length
    · obtain ⟨n, rfl⟩ := Int.eq_ofNat_of_zero_le (show 0 ≤ k by omega)
      have h2 : n < c.shapes.length := by omega
      obtain ⟨b, o, hA, hb, g0, g1⟩ := shapes_at hc.cells h2
      rw [hA]
      have HS := Lib.hid (Cnf.shapeAt_in (List.getElem?_eq_getElem h2))
      have HK := Lib.hid (hc.shapes _ (List.getElem_mem h2))
      generalize c.shapes[n] = s at *
      clear hc hA
      go_enter Try.func40, Try.ntmps40
      go_wp2_with fail
      refine bodyPost_ret (v := .tuple #[.agg #[.bool s.arr, .slice s.A s.refs.length s.cap], .bool true]) (by simp [results, Try.results40, go_sem]) rfl ?_
      exact ⟨s, by rw [HS.out]; rfl, by rw [HS.out]; rfl, HK.out, by (repeat (first | (with_reducible assumption) | (with_reducible exact Ext.refl _) | (with_reducible exact Ext.more _ _ _ _) | apply Ext.alloc | refine Ext.setCell ?_ (by first | exact Nat.le_refl _ | exact Nat.le_add_right _ _ | assumption) _ | apply Ext.patch | apply Ext.drew | apply Ext.drewN))⟩
    · have h2 : (c.shapes.length : Int) ≤ k := by omega
      clear h1
      go_enter Try.func40, Try.ntmps40
      go_wp2_with fail
      refine bodyPost_ret (v := .tuple #[.agg #[.bool false, .slice none 0 0], .bool false]) (by simp [results, Try.results40, go_sem]) rfl ?_
      exact ⟨⟨false, none, 0, []⟩, by rw [Cnf.shapeAt_big h2]; rfl, by rw [Cnf.shapeAt_big h2]; rfl, ⟨CellsAt.nil _ _, by simp, by simp⟩, by (repeat (first | (with_reducible assumption) | (with_reducible exact Ext.refl _) | (with_reducible exact Ext.more _ _ _ _) | apply Ext.alloc | refine Ext.setCell ?_ (by first | exact Nat.le_refl _ | exact Nat.le_add_right _ _ | assumption) _ | apply Ext.patch | apply Ext.drew | apply Ext.drewN))⟩
end Go.Proofs.Ythdijbkcjmeilaa
