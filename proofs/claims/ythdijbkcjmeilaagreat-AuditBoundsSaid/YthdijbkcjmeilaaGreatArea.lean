/-
  area: where things stand.
-/
import Derived.Test.YthdijbkcjmeilaaGreatConf
import Derived.Test.YthdijbkcjmeilaaGreatMem
namespace Go.Proofs.YthdijbkcjmeilaaGreat
open Go Go.RowKit

/-- The regions' sizes. -/
def cSizes (c : Cnf) : Value := if c.check = 0 then .agg #[.int .i64 (c.frags * 8), .int .i64 c.spine, .int .i64 c.spine, .int .i64 c.globals] else .agg #[.int .i64 0, .int .i64 0, .int .i64 0, .int .i64 0]
theorem Cnf.check_zero {c : Cnf} (h : c.check = 0) : c.rangedTo 8 = true ∧ c.threads * c.cache ≤ c.frags ∧ within c.shapes.length 1 8 = true ∧ badIn c.shapes = false := by
  unfold Cnf.check at h
  split at h
  · rename_i h1
    split at h
    · rename_i h2
      simp only [Bool.and_eq_true, decide_eq_true_eq, Bool.not_eq_true'] at h1 h2
      exact ⟨h1.1, h1.2, h2.1, h2.2⟩
    · cases h
  · cases h

theorem sizes_any (c : Cnf) (w : World) (hc : c.Ok w) : Calls Tryz.prog 192 #[c.val] w (Gives (cSizes c) w) := by
  have HC := Lib.hid (fun w' (he : Ext w w') => check_any c w' (hc.ext he))
  by_cases h0 : c.check = 0
  · obtain ⟨⟨_, _⟩, ⟨_, _⟩, _⟩ := Cnf.ranged (Cnf.check_zero h0).1
    have HV := Lib.hid (show cSizes c = .agg #[.int .i64 (c.frags * 8), .int .i64 c.spine, .int .i64 c.spine, .int .i64 c.globals] by unfold cSizes; rw [if_pos h0])
    have H0 := Lib.hid h0
    clear h0
    unfold Cnf.val at HC ⊢
    go_enter Tryz.func192, Tryz.ntmps192
    go_wp2_with fail
    refine (HC.out _ (by (repeat (first | (with_reducible assumption) | (with_reducible exact Ext.refl _) | (with_reducible exact Ext.more _ _ _ _) | apply Ext.alloc | refine Ext.setCell ?_ (by first | exact Nat.le_refl _ | exact Nat.le_add_right _ _ | assumption) _ | apply Ext.patch | apply Ext.drew | apply Ext.drewN)))).mono ?_
    rw [H0.out]
    rintro e w1 ⟨rfl, X1, rfl⟩
    go_wp2_with fail
    refine bodyPost_ret (v := .agg #[.int .i64 (c.frags * 8), .int .i64 c.spine, .int .i64 c.spine, .int .i64 c.globals]) (by simp [results, Tryz.results192, go_sem]) rfl ?_
    rw [HV.out]
    exact Gives.mk rfl (by (repeat (first | (with_reducible assumption) | (with_reducible exact Ext.refl _) | (with_reducible exact Ext.more _ _ _ _) | apply Ext.alloc | refine Ext.setCell ?_ (by first | exact Nat.le_refl _ | exact Nat.le_add_right _ _ | assumption) _ | apply Ext.patch | apply Ext.drew | apply Ext.drewN)))
  · have HV := Lib.hid (show cSizes c = .agg #[.int .i64 0, .int .i64 0, .int .i64 0, .int .i64 0] by unfold cSizes; rw [if_neg h0])
    have hb : (c.check != 0) = true := by simp [h0]
    clear h0
    unfold Cnf.val at HC ⊢
    go_enter Tryz.func192, Tryz.ntmps192
    go_wp2_with fail
    refine (HC.out _ (by (repeat (first | (with_reducible assumption) | (with_reducible exact Ext.refl _) | (with_reducible exact Ext.more _ _ _ _) | apply Ext.alloc | refine Ext.setCell ?_ (by first | exact Nat.le_refl _ | exact Nat.le_add_right _ _ | assumption) _ | apply Ext.patch | apply Ext.drew | apply Ext.drewN)))).mono ?_
    rintro e w1 ⟨rfl, X1, rfl⟩
    go_wp2_with fail
    refine bodyPost_ret (v := .agg #[.int .i64 0, .int .i64 0, .int .i64 0, .int .i64 0]) (by simp [results, Tryz.results192, go_sem]) rfl ?_
    rw [HV.out]
    exact Gives.mk rfl (by (repeat (first | (with_reducible assumption) | (with_reducible exact Ext.refl _) | (with_reducible exact Ext.more _ _ _ _) | apply Ext.alloc | refine Ext.setCell ?_ (by first | exact Nat.le_refl _ | exact Nat.le_add_right _ _ | assumption) _ | apply Ext.patch | apply Ext.drew | apply Ext.drewN)))

/-- The address of a word of the region r + 1, and the errno. -/
def cSize (c : Cnf) (r : Nat) : Int := if c.check = 0 then ([c.frags * 8, c.spine, c.spine, c.globals][r]?).getD 0 else 0
def cAhead (c : Cnf) (r : Nat) : Int := if c.check = 0 then ([c.frags * 8, c.spine, c.spine, c.globals].take r).sum else 0
def cAt (c : Cnf) (r : Nat) (k : Int) : Value := if 0 ≤ k ∧ k < cSize c r then .tuple #[.int .i64 (k + cAhead c r), .int .i64 0] else .tuple #[.int .i64 0, .int .i64 1]

set_option maxHeartbeats 2000000 in
theorem at_any (c : Cnf) (r : Nat) (k : Int) (w : World) (hc : c.Ok w) (hr : r < 4) : Calls Tryz.prog 194 #[c.val, .int .i64 (r + 1 : Nat), .int .i64 k] w (Gives (cAt c r k) w) := by
  have HC := Lib.hid (fun w' (he : Ext w w') => sizes_any c w' (hc.ext he))
  obtain ⟨a0, a1, a2, a3, hS, hz, ha, h0, h1, h2, h3⟩ : ∃ a0 a1 a2 a3 : Int, cSizes c = .agg #[.int .i64 a0, .int .i64 a1, .int .i64 a2, .int .i64 a3] ∧ cSize c r = ([a0, a1, a2, a3][r]?).getD 0 ∧ cAhead c r = ([a0, a1, a2, a3].take r).sum ∧ (0 ≤ a0 ∧ a0 ≤ 8192) ∧ (0 ≤ a1 ∧ a1 ≤ 2048) ∧ (0 ≤ a2 ∧ a2 ≤ 2048) ∧ (0 ≤ a3 ∧ a3 ≤ 8) := by
    by_cases h0 : c.check = 0
    · obtain ⟨⟨_, _⟩, ⟨_, _⟩, ⟨_, _⟩, _⟩ := Cnf.ranged (Cnf.check_zero h0).1
      exact ⟨_, _, _, _, by unfold cSizes; rw [if_pos h0], by unfold cSize; rw [if_pos h0], by unfold cAhead; rw [if_pos h0], by omega, by omega, by omega, by omega⟩
    · refine ⟨0, 0, 0, 0, by unfold cSizes; rw [if_neg h0], ?_, ?_, by omega, by omega, by omega, by omega⟩
      · unfold cSize; rw [if_neg h0]; rcases (show r = 0 ∨ r = 1 ∨ r = 2 ∨ r = 3 by omega) with rfl | rfl | rfl | rfl <;> rfl
      · unfold cAhead; rw [if_neg h0]; rcases (show r = 0 ∨ r = 1 ∨ r = 2 ∨ r = 3 by omega) with rfl | rfl | rfl | rfl <;> rfl
  rw [hS] at HC
  have HV := Lib.hid (show cAt c r k = if 0 ≤ k ∧ k < ([a0, a1, a2, a3][r]?).getD 0 then .tuple #[.int .i64 (k + ([a0, a1, a2, a3].take r).sum), .int .i64 0] else .tuple #[.int .i64 0, .int .i64 1] by unfold cAt; rw [hz, ha])
  clear hS hz ha
  unfold Cnf.val at HC ⊢
  rcases (show r = 0 ∨ r = 1 ∨ r = 2 ∨ r = 3 by omega) with rfl | rfl | rfl | rfl
  · replace HV := Lib.hid (show cAt c 0 k = if 0 ≤ k ∧ k < a0 then .tuple #[.int .i64 (k + ([a0, a1, a2, a3].take 0).sum), .int .i64 0] else .tuple #[.int .i64 0, .int .i64 1] from HV.out)
    rw [show ([a0, a1, a2, a3].take 0).sum = 0 by simp] at HV
    rw [show ((0 + 1 : Nat) : Int) = 1 from rfl]
    clear hr
    by_cases hk0 : k < 0
    · rw [if_neg (by omega)] at HV
      go_enter Tryz.func194, Tryz.ntmps194
      go_wp2_with (go_at_call 192; refine (HC.out _ (by (repeat (first | (with_reducible assumption) | (with_reducible exact Ext.refl _) | (with_reducible exact Ext.more _ _ _ _) | apply Ext.alloc | refine Ext.setCell ?_ (by first | exact Nat.le_refl _ | exact Nat.le_add_right _ _ | assumption) _ | apply Ext.patch | apply Ext.drew | apply Ext.drewN)))).mono ?_; rintro e w1 ⟨rfl, X1, rfl⟩)
      go_ret2
      rw [HV.out]
      exact Gives.mk rfl (by (repeat (first | (with_reducible assumption) | (with_reducible exact Ext.refl _) | (with_reducible exact Ext.more _ _ _ _) | apply Ext.alloc | refine Ext.setCell ?_ (by first | exact Nat.le_refl _ | exact Nat.le_add_right _ _ | assumption) _ | apply Ext.patch | apply Ext.drew | apply Ext.drewN)))
    · by_cases hk1 : k < a0
      · rw [if_pos (by omega)] at HV
        go_enter Tryz.func194, Tryz.ntmps194
        go_wp2_with (go_at_call 192; refine (HC.out _ (by (repeat (first | (with_reducible assumption) | (with_reducible exact Ext.refl _) | (with_reducible exact Ext.more _ _ _ _) | apply Ext.alloc | refine Ext.setCell ?_ (by first | exact Nat.le_refl _ | exact Nat.le_add_right _ _ | assumption) _ | apply Ext.patch | apply Ext.drew | apply Ext.drewN)))).mono ?_; rintro e w1 ⟨rfl, X1, rfl⟩)
        go_loop [2, 27] (fun q i => ∃ n : Nat, n ≤ 0 ∧ i = .int .i64 n ∧ q = .int .i64 (k + ([a0, a1, a2, a3].take n).sum)) (fun _ i => 0 - (intOf i).toNat)
        case atStart => exact ⟨0, by omega, rfl, by simp⟩
        case round =>
          obtain ⟨n, hn, rfl, rfl⟩ := hrel
          obtain rfl : n = 0 := by omega
          rw [show ([a0, a1, a2, a3].take 0).sum = 0 by simp]
          go_wp2_with fail
          go_ret2
          rw [HV.out]
          exact Gives.ii (by omega) rfl (by (repeat (first | (with_reducible assumption) | (with_reducible exact Ext.refl _) | (with_reducible exact Ext.more _ _ _ _) | apply Ext.alloc | refine Ext.setCell ?_ (by first | exact Nat.le_refl _ | exact Nat.le_add_right _ _ | assumption) _ | apply Ext.patch | apply Ext.drew | apply Ext.drewN)))
      · rw [if_neg (by omega)] at HV
        go_enter Tryz.func194, Tryz.ntmps194
        go_wp2_with (go_at_call 192; refine (HC.out _ (by (repeat (first | (with_reducible assumption) | (with_reducible exact Ext.refl _) | (with_reducible exact Ext.more _ _ _ _) | apply Ext.alloc | refine Ext.setCell ?_ (by first | exact Nat.le_refl _ | exact Nat.le_add_right _ _ | assumption) _ | apply Ext.patch | apply Ext.drew | apply Ext.drewN)))).mono ?_; rintro e w1 ⟨rfl, X1, rfl⟩)
        go_ret2
        rw [HV.out]
        exact Gives.mk rfl (by (repeat (first | (with_reducible assumption) | (with_reducible exact Ext.refl _) | (with_reducible exact Ext.more _ _ _ _) | apply Ext.alloc | refine Ext.setCell ?_ (by first | exact Nat.le_refl _ | exact Nat.le_add_right _ _ | assumption) _ | apply Ext.patch | apply Ext.drew | apply Ext.drewN)))
  · replace HV := Lib.hid (show cAt c 1 k = if 0 ≤ k ∧ k < a1 then .tuple #[.int .i64 (k + ([a0, a1, a2, a3].take 1).sum), .int .i64 0] else .tuple #[.int .i64 0, .int .i64 1] from HV.out)
    rw [show ([a0, a1, a2, a3].take 1).sum = a0 by simp] at HV
    rw [show ((1 + 1 : Nat) : Int) = 2 from rfl]
    clear hr
    by_cases hk0 : k < 0
    · rw [if_neg (by omega)] at HV
      go_enter Tryz.func194, Tryz.ntmps194
      go_wp2_with (go_at_call 192; refine (HC.out _ (by (repeat (first | (with_reducible assumption) | (with_reducible exact Ext.refl _) | (with_reducible exact Ext.more _ _ _ _) | apply Ext.alloc | refine Ext.setCell ?_ (by first | exact Nat.le_refl _ | exact Nat.le_add_right _ _ | assumption) _ | apply Ext.patch | apply Ext.drew | apply Ext.drewN)))).mono ?_; rintro e w1 ⟨rfl, X1, rfl⟩)
      go_ret2
      rw [HV.out]
      exact Gives.mk rfl (by (repeat (first | (with_reducible assumption) | (with_reducible exact Ext.refl _) | (with_reducible exact Ext.more _ _ _ _) | apply Ext.alloc | refine Ext.setCell ?_ (by first | exact Nat.le_refl _ | exact Nat.le_add_right _ _ | assumption) _ | apply Ext.patch | apply Ext.drew | apply Ext.drewN)))
    · by_cases hk1 : k < a1
      · rw [if_pos (by omega)] at HV
        go_enter Tryz.func194, Tryz.ntmps194
        go_wp2_with (go_at_call 192; refine (HC.out _ (by (repeat (first | (with_reducible assumption) | (with_reducible exact Ext.refl _) | (with_reducible exact Ext.more _ _ _ _) | apply Ext.alloc | refine Ext.setCell ?_ (by first | exact Nat.le_refl _ | exact Nat.le_add_right _ _ | assumption) _ | apply Ext.patch | apply Ext.drew | apply Ext.drewN)))).mono ?_; rintro e w1 ⟨rfl, X1, rfl⟩)
        go_loop [2, 27] (fun q i => ∃ n : Nat, n ≤ 1 ∧ i = .int .i64 n ∧ q = .int .i64 (k + ([a0, a1, a2, a3].take n).sum)) (fun _ i => 1 - (intOf i).toNat)
        case atStart => exact ⟨0, by omega, rfl, by simp⟩
        case round =>
          obtain ⟨n, hn, rfl, rfl⟩ := hrel
          by_cases hn0 : n = 0
          · subst hn0
            rw [show ([a0, a1, a2, a3].take 0).sum = 0 by simp]
            go_wp2_with fail
            exact ⟨⟨1, by omega, rfl, congrArg (Value.int .i64) (by first | (simp; done) | (simp; omega))⟩, by simp [intOf]⟩
          obtain rfl : n = 1 := by omega
          rw [show ([a0, a1, a2, a3].take 1).sum = a0 by simp]
          go_wp2_with fail
          go_ret2
          rw [HV.out]
          exact Gives.ii (by omega) rfl (by (repeat (first | (with_reducible assumption) | (with_reducible exact Ext.refl _) | (with_reducible exact Ext.more _ _ _ _) | apply Ext.alloc | refine Ext.setCell ?_ (by first | exact Nat.le_refl _ | exact Nat.le_add_right _ _ | assumption) _ | apply Ext.patch | apply Ext.drew | apply Ext.drewN)))
      · rw [if_neg (by omega)] at HV
        go_enter Tryz.func194, Tryz.ntmps194
        go_wp2_with (go_at_call 192; refine (HC.out _ (by (repeat (first | (with_reducible assumption) | (with_reducible exact Ext.refl _) | (with_reducible exact Ext.more _ _ _ _) | apply Ext.alloc | refine Ext.setCell ?_ (by first | exact Nat.le_refl _ | exact Nat.le_add_right _ _ | assumption) _ | apply Ext.patch | apply Ext.drew | apply Ext.drewN)))).mono ?_; rintro e w1 ⟨rfl, X1, rfl⟩)
        go_ret2
        rw [HV.out]
        exact Gives.mk rfl (by (repeat (first | (with_reducible assumption) | (with_reducible exact Ext.refl _) | (with_reducible exact Ext.more _ _ _ _) | apply Ext.alloc | refine Ext.setCell ?_ (by first | exact Nat.le_refl _ | exact Nat.le_add_right _ _ | assumption) _ | apply Ext.patch | apply Ext.drew | apply Ext.drewN)))
  · replace HV := Lib.hid (show cAt c 2 k = if 0 ≤ k ∧ k < a2 then .tuple #[.int .i64 (k + ([a0, a1, a2, a3].take 2).sum), .int .i64 0] else .tuple #[.int .i64 0, .int .i64 1] from HV.out)
    rw [show ([a0, a1, a2, a3].take 2).sum = a0 + a1 by first | (simp; done) | (simp; omega)] at HV
    rw [show ((2 + 1 : Nat) : Int) = 3 from rfl]
    clear hr
    by_cases hk0 : k < 0
    · rw [if_neg (by omega)] at HV
      go_enter Tryz.func194, Tryz.ntmps194
      go_wp2_with (go_at_call 192; refine (HC.out _ (by (repeat (first | (with_reducible assumption) | (with_reducible exact Ext.refl _) | (with_reducible exact Ext.more _ _ _ _) | apply Ext.alloc | refine Ext.setCell ?_ (by first | exact Nat.le_refl _ | exact Nat.le_add_right _ _ | assumption) _ | apply Ext.patch | apply Ext.drew | apply Ext.drewN)))).mono ?_; rintro e w1 ⟨rfl, X1, rfl⟩)
      go_ret2
      rw [HV.out]
      exact Gives.mk rfl (by (repeat (first | (with_reducible assumption) | (with_reducible exact Ext.refl _) | (with_reducible exact Ext.more _ _ _ _) | apply Ext.alloc | refine Ext.setCell ?_ (by first | exact Nat.le_refl _ | exact Nat.le_add_right _ _ | assumption) _ | apply Ext.patch | apply Ext.drew | apply Ext.drewN)))
    · by_cases hk1 : k < a2
      · rw [if_pos (by omega)] at HV
        go_enter Tryz.func194, Tryz.ntmps194
        go_wp2_with (go_at_call 192; refine (HC.out _ (by (repeat (first | (with_reducible assumption) | (with_reducible exact Ext.refl _) | (with_reducible exact Ext.more _ _ _ _) | apply Ext.alloc | refine Ext.setCell ?_ (by first | exact Nat.le_refl _ | exact Nat.le_add_right _ _ | assumption) _ | apply Ext.patch | apply Ext.drew | apply Ext.drewN)))).mono ?_; rintro e w1 ⟨rfl, X1, rfl⟩)
        go_loop [2, 27] (fun q i => ∃ n : Nat, n ≤ 2 ∧ i = .int .i64 n ∧ q = .int .i64 (k + ([a0, a1, a2, a3].take n).sum)) (fun _ i => 2 - (intOf i).toNat)
        case atStart => exact ⟨0, by omega, rfl, by simp⟩
        case round =>
          obtain ⟨n, hn, rfl, rfl⟩ := hrel
          by_cases hn0 : n = 0
          · subst hn0
            rw [show ([a0, a1, a2, a3].take 0).sum = 0 by simp]
            go_wp2_with fail
            exact ⟨⟨1, by omega, rfl, congrArg (Value.int .i64) (by first | (simp; done) | (simp; omega))⟩, by simp [intOf]⟩
          by_cases hn1 : n = 1
          · subst hn1
            rw [show ([a0, a1, a2, a3].take 1).sum = a0 by simp]
            go_wp2_with fail
            exact ⟨⟨2, by omega, rfl, congrArg (Value.int .i64) (by first | (simp; done) | (simp; omega))⟩, by simp [intOf]⟩
          obtain rfl : n = 2 := by omega
          rw [show ([a0, a1, a2, a3].take 2).sum = a0 + a1 by first | (simp; done) | (simp; omega)]
          go_wp2_with fail
          go_ret2
          rw [HV.out]
          exact Gives.ii (by omega) rfl (by (repeat (first | (with_reducible assumption) | (with_reducible exact Ext.refl _) | (with_reducible exact Ext.more _ _ _ _) | apply Ext.alloc | refine Ext.setCell ?_ (by first | exact Nat.le_refl _ | exact Nat.le_add_right _ _ | assumption) _ | apply Ext.patch | apply Ext.drew | apply Ext.drewN)))
      · rw [if_neg (by omega)] at HV
        go_enter Tryz.func194, Tryz.ntmps194
        go_wp2_with (go_at_call 192; refine (HC.out _ (by (repeat (first | (with_reducible assumption) | (with_reducible exact Ext.refl _) | (with_reducible exact Ext.more _ _ _ _) | apply Ext.alloc | refine Ext.setCell ?_ (by first | exact Nat.le_refl _ | exact Nat.le_add_right _ _ | assumption) _ | apply Ext.patch | apply Ext.drew | apply Ext.drewN)))).mono ?_; rintro e w1 ⟨rfl, X1, rfl⟩)
        go_ret2
        rw [HV.out]
        exact Gives.mk rfl (by (repeat (first | (with_reducible assumption) | (with_reducible exact Ext.refl _) | (with_reducible exact Ext.more _ _ _ _) | apply Ext.alloc | refine Ext.setCell ?_ (by first | exact Nat.le_refl _ | exact Nat.le_add_right _ _ | assumption) _ | apply Ext.patch | apply Ext.drew | apply Ext.drewN)))
  · replace HV := Lib.hid (show cAt c 3 k = if 0 ≤ k ∧ k < a3 then .tuple #[.int .i64 (k + ([a0, a1, a2, a3].take 3).sum), .int .i64 0] else .tuple #[.int .i64 0, .int .i64 1] from HV.out)
    rw [show ([a0, a1, a2, a3].take 3).sum = a0 + a1 + a2 by first | (simp; done) | (simp; omega)] at HV
    rw [show ((3 + 1 : Nat) : Int) = 4 from rfl]
    clear hr
    by_cases hk0 : k < 0
    · rw [if_neg (by omega)] at HV
      go_enter Tryz.func194, Tryz.ntmps194
      go_wp2_with (go_at_call 192; refine (HC.out _ (by (repeat (first | (with_reducible assumption) | (with_reducible exact Ext.refl _) | (with_reducible exact Ext.more _ _ _ _) | apply Ext.alloc | refine Ext.setCell ?_ (by first | exact Nat.le_refl _ | exact Nat.le_add_right _ _ | assumption) _ | apply Ext.patch | apply Ext.drew | apply Ext.drewN)))).mono ?_; rintro e w1 ⟨rfl, X1, rfl⟩)
      go_ret2
      rw [HV.out]
      exact Gives.mk rfl (by (repeat (first | (with_reducible assumption) | (with_reducible exact Ext.refl _) | (with_reducible exact Ext.more _ _ _ _) | apply Ext.alloc | refine Ext.setCell ?_ (by first | exact Nat.le_refl _ | exact Nat.le_add_right _ _ | assumption) _ | apply Ext.patch | apply Ext.drew | apply Ext.drewN)))
    · by_cases hk1 : k < a3
      · rw [if_pos (by omega)] at HV
        go_enter Tryz.func194, Tryz.ntmps194
        go_wp2_with (go_at_call 192; refine (HC.out _ (by (repeat (first | (with_reducible assumption) | (with_reducible exact Ext.refl _) | (with_reducible exact Ext.more _ _ _ _) | apply Ext.alloc | refine Ext.setCell ?_ (by first | exact Nat.le_refl _ | exact Nat.le_add_right _ _ | assumption) _ | apply Ext.patch | apply Ext.drew | apply Ext.drewN)))).mono ?_; rintro e w1 ⟨rfl, X1, rfl⟩)
        go_loop [2, 27] (fun q i => ∃ n : Nat, n ≤ 3 ∧ i = .int .i64 n ∧ q = .int .i64 (k + ([a0, a1, a2, a3].take n).sum)) (fun _ i => 3 - (intOf i).toNat)
        case atStart => exact ⟨0, by omega, rfl, by simp⟩
        case round =>
          obtain ⟨n, hn, rfl, rfl⟩ := hrel
          by_cases hn0 : n = 0
          · subst hn0
            rw [show ([a0, a1, a2, a3].take 0).sum = 0 by simp]
            go_wp2_with fail
            exact ⟨⟨1, by omega, rfl, congrArg (Value.int .i64) (by first | (simp; done) | (simp; omega))⟩, by simp [intOf]⟩
          by_cases hn1 : n = 1
          · subst hn1
            rw [show ([a0, a1, a2, a3].take 1).sum = a0 by simp]
            go_wp2_with fail
            exact ⟨⟨2, by omega, rfl, congrArg (Value.int .i64) (by first | (simp; done) | (simp; omega))⟩, by simp [intOf]⟩
          by_cases hn2 : n = 2
          · subst hn2
            rw [show ([a0, a1, a2, a3].take 2).sum = a0 + a1 by first | (simp; done) | (simp; omega)]
            go_wp2_with fail
            exact ⟨⟨3, by omega, rfl, congrArg (Value.int .i64) (by first | (simp; done) | (simp; omega))⟩, by simp [intOf]⟩
          obtain rfl : n = 3 := by omega
          rw [show ([a0, a1, a2, a3].take 3).sum = a0 + a1 + a2 by first | (simp; done) | (simp; omega)]
          go_wp2_with fail
          go_ret2
          rw [HV.out]
          exact Gives.ii (by omega) rfl (by (repeat (first | (with_reducible assumption) | (with_reducible exact Ext.refl _) | (with_reducible exact Ext.more _ _ _ _) | apply Ext.alloc | refine Ext.setCell ?_ (by first | exact Nat.le_refl _ | exact Nat.le_add_right _ _ | assumption) _ | apply Ext.patch | apply Ext.drew | apply Ext.drewN)))
      · rw [if_neg (by omega)] at HV
        go_enter Tryz.func194, Tryz.ntmps194
        go_wp2_with (go_at_call 192; refine (HC.out _ (by (repeat (first | (with_reducible assumption) | (with_reducible exact Ext.refl _) | (with_reducible exact Ext.more _ _ _ _) | apply Ext.alloc | refine Ext.setCell ?_ (by first | exact Nat.le_refl _ | exact Nat.le_add_right _ _ | assumption) _ | apply Ext.patch | apply Ext.drew | apply Ext.drewN)))).mono ?_; rintro e w1 ⟨rfl, X1, rfl⟩)
        go_ret2
        rw [HV.out]
        exact Gives.mk rfl (by (repeat (first | (with_reducible assumption) | (with_reducible exact Ext.refl _) | (with_reducible exact Ext.more _ _ _ _) | apply Ext.alloc | refine Ext.setCell ?_ (by first | exact Nat.le_refl _ | exact Nat.le_add_right _ _ | assumption) _ | apply Ext.patch | apply Ext.drew | apply Ext.drewN)))

/-- The address of a word of a fragment, and the errno. -/
def cFrag (c : Cnf) (i k : Int) : Value := if c.check = 0 ∧ 0 ≤ i ∧ i < c.frags ∧ 0 ≤ k ∧ k < 8 then .tuple #[.int .i64 (i * 8 + k), .int .i64 0] else .tuple #[.int .i64 0, .int .i64 1]
set_option maxHeartbeats 2000000 in
theorem frag_any (c : Cnf) (i k : Int) (w : World) (hc : c.Ok w) : Calls Tryz.prog 197 #[c.val, .int .i64 i, .int .i64 k] w (Gives (cFrag c i k) w) := by
  have HC := Lib.hid (fun w' (he : Ext w w') => check_any c w' (hc.ext he))
  by_cases h1 : i < 0
  · have HV := Lib.hid (show cFrag c i k = .tuple #[.int .i64 0, .int .i64 1] by unfold cFrag; rw [if_neg (by omega)])
    unfold Cnf.val at HC ⊢
    go_enter Tryz.func197, Tryz.ntmps197
    go_wp2_with fail
    go_ret2
    rw [HV.out]
    exact Gives.mk rfl (by (repeat (first | (with_reducible assumption) | (with_reducible exact Ext.refl _) | (with_reducible exact Ext.more _ _ _ _) | apply Ext.alloc | refine Ext.setCell ?_ (by first | exact Nat.le_refl _ | exact Nat.le_add_right _ _ | assumption) _ | apply Ext.patch | apply Ext.drew | apply Ext.drewN)))
  · by_cases h2 : c.frags ≤ i
    · have HV := Lib.hid (show cFrag c i k = .tuple #[.int .i64 0, .int .i64 1] by unfold cFrag; rw [if_neg (by omega)])
      unfold Cnf.val at HC ⊢
      go_enter Tryz.func197, Tryz.ntmps197
      go_wp2_with fail
      go_ret2
      rw [HV.out]
      exact Gives.mk rfl (by (repeat (first | (with_reducible assumption) | (with_reducible exact Ext.refl _) | (with_reducible exact Ext.more _ _ _ _) | apply Ext.alloc | refine Ext.setCell ?_ (by first | exact Nat.le_refl _ | exact Nat.le_add_right _ _ | assumption) _ | apply Ext.patch | apply Ext.drew | apply Ext.drewN)))
    · by_cases h3 : k < 0
      · have HV := Lib.hid (show cFrag c i k = .tuple #[.int .i64 0, .int .i64 1] by unfold cFrag; rw [if_neg (by omega)])
        unfold Cnf.val at HC ⊢
        go_enter Tryz.func197, Tryz.ntmps197
        go_wp2_with fail
        go_ret2
        rw [HV.out]
        exact Gives.mk rfl (by (repeat (first | (with_reducible assumption) | (with_reducible exact Ext.refl _) | (with_reducible exact Ext.more _ _ _ _) | apply Ext.alloc | refine Ext.setCell ?_ (by first | exact Nat.le_refl _ | exact Nat.le_add_right _ _ | assumption) _ | apply Ext.patch | apply Ext.drew | apply Ext.drewN)))
      · by_cases h4 : 8 ≤ k
        · have HV := Lib.hid (show cFrag c i k = .tuple #[.int .i64 0, .int .i64 1] by unfold cFrag; rw [if_neg (by omega)])
          unfold Cnf.val at HC ⊢
          go_enter Tryz.func197, Tryz.ntmps197
          go_wp2_with fail
          go_ret2
          rw [HV.out]
          exact Gives.mk rfl (by (repeat (first | (with_reducible assumption) | (with_reducible exact Ext.refl _) | (with_reducible exact Ext.more _ _ _ _) | apply Ext.alloc | refine Ext.setCell ?_ (by first | exact Nat.le_refl _ | exact Nat.le_add_right _ _ | assumption) _ | apply Ext.patch | apply Ext.drew | apply Ext.drewN)))
        · by_cases h5 : c.check = 0
          · obtain ⟨⟨_, _⟩, _⟩ := Cnf.ranged (Cnf.check_zero h5).1
            have HV := Lib.hid (show cFrag c i k = .tuple #[.int .i64 (i * 8 + k), .int .i64 0] by unfold cFrag; rw [if_pos (by omega)])
            have HA := Lib.hid (fun w' (he : Ext w w') => at_any c 0 (i * 8 + k) w' (hc.ext he) (by omega))
            rw [show cAt c 0 (i * 8 + k) = .tuple #[.int .i64 (i * 8 + k), .int .i64 0] by unfold cAt cSize cAhead; rw [if_pos h5, if_pos h5, if_pos (by simp; omega)]; simp] at HA
            rw [h5] at HC
            clear h5
            unfold Cnf.val at HC HA ⊢
            go_enter Tryz.func197, Tryz.ntmps197
            go_wp2_with (first | (go_at_call 7; refine (HC.out _ (by (repeat (first | (with_reducible assumption) | (with_reducible exact Ext.refl _) | (with_reducible exact Ext.more _ _ _ _) | apply Ext.alloc | refine Ext.setCell ?_ (by first | exact Nat.le_refl _ | exact Nat.le_add_right _ _ | assumption) _ | apply Ext.patch | apply Ext.drew | apply Ext.drewN)))).mono ?_; rintro e w1 ⟨rfl, X1, rfl⟩) | (go_at_call 194; refine (HA.out _ (by (repeat (first | (with_reducible assumption) | (with_reducible exact Ext.refl _) | (with_reducible exact Ext.more _ _ _ _) | apply Ext.alloc | refine Ext.setCell ?_ (by first | exact Nat.le_refl _ | exact Nat.le_add_right _ _ | assumption) _ | apply Ext.patch | apply Ext.drew | apply Ext.drewN)))).mono ?_; rintro e w1 ⟨rfl, X1, rfl⟩))
            go_ret2
            rw [HV.out]
            exact Gives.mk rfl (by (repeat (first | (with_reducible assumption) | (with_reducible exact Ext.refl _) | (with_reducible exact Ext.more _ _ _ _) | apply Ext.alloc | refine Ext.setCell ?_ (by first | exact Nat.le_refl _ | exact Nat.le_add_right _ _ | assumption) _ | apply Ext.patch | apply Ext.drew | apply Ext.drewN)))
          · have HV := Lib.hid (show cFrag c i k = .tuple #[.int .i64 0, .int .i64 1] by unfold cFrag; rw [if_neg (by omega)])
            have hb : (c.check != 0) = true := by simp [h5]
            clear h5
            unfold Cnf.val at HC ⊢
            go_enter Tryz.func197, Tryz.ntmps197
            go_wp2_with (go_at_call 7; refine (HC.out _ (by (repeat (first | (with_reducible assumption) | (with_reducible exact Ext.refl _) | (with_reducible exact Ext.more _ _ _ _) | apply Ext.alloc | refine Ext.setCell ?_ (by first | exact Nat.le_refl _ | exact Nat.le_add_right _ _ | assumption) _ | apply Ext.patch | apply Ext.drew | apply Ext.drewN)))).mono ?_; rintro e w1 ⟨rfl, X1, rfl⟩)
            go_ret2
            rw [HV.out]
            exact Gives.mk rfl (by (repeat (first | (with_reducible assumption) | (with_reducible exact Ext.refl _) | (with_reducible exact Ext.more _ _ _ _) | apply Ext.alloc | refine Ext.setCell ?_ (by first | exact Nat.le_refl _ | exact Nat.le_add_right _ _ | assumption) _ | apply Ext.patch | apply Ext.drew | apply Ext.drewN)))
end Go.Proofs.YthdijbkcjmeilaaGreat
