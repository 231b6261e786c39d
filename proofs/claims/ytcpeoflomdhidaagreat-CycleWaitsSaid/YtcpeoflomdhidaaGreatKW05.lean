import Derived.Test.YtcpeoflomdhidaaGreatKW04
/-
  Packed: Area, Area2, Side, SpaceS, SpaceA.
-/
open Go.Ext renaming alloc → zA, patch → zP, drew → zD, drewN → zN, more → zM, refl → zR, setCell → zS
open Nat renaming le_refl → zL, le_add_right → zK
/-
  area: where things stand.
-/
namespace Go.Proofs.YtcpeoflomdhidaaGreat
open Go Go.RowKit

def cSizes (c : Cnf) : Value := if c.check = 0 then .agg #[.int .i64 (c.frags * 8), .int .i64 c.spine, .int .i64 c.spine, .int .i64 c.globals] else .agg #[.int .i64 0, .int .i64 0, .int .i64 0, .int .i64 0]
theorem Cnf.check_zero {c : Cnf} (h : c.check = 0) : c.rangedTo 8 = true ∧ c.threads * c.cache ≤ c.frags ∧ within c.shapes.length 1 8 = true ∧ badIn c.shapes = false := by
  unfold Cnf.check at h
  split at h
  · rename_i h1
    split at h
    · rename_i h2
      simp only [Bool.and_eq_true, decide_eq_true_eq, Bool.not_eq_true'] at h1 h2
      exact ⟨h1.1, h1.2, h2.1, h2.2⟩
    · cases h
  · cases h

theorem sizes_any (c : Cnf) (w : World) (hc : c.Ok w) : Calls Tryz.prog 219 #[c.val] w (Gives (cSizes c) w) := by
  have HC := Lib.hid (fun w' (he : Ext w w') => check_any c w' (hc.ext he))
  by_cases h0 : c.check = 0
  · obtain ⟨⟨_, _⟩, ⟨_, _⟩, _⟩ := Cnf.ranged (Cnf.check_zero h0).1
    have HV := Lib.hid (show cSizes c = .agg #[.int .i64 (c.frags * 8), .int .i64 c.spine, .int .i64 c.spine, .int .i64 c.globals] by unfold cSizes; rw [if_pos h0])
    have H0 := Lib.hid h0
    clear h0
    unfold Cnf.val at HC ⊢
    go_enter Tryz.func219, Tryz.ntmps219
    go_wp2_with fail
    refine (HC.out _ (by (repeat (first | (with_reducible (first | assumption | exact zR _ | exact zM _ _ _ _)) | apply zA | refine zS ?_ (by first | exact zL _ | exact zK _ _ | assumption) _ | apply zP | apply zD | apply zN)))).mono ?_
    rw [H0.out]
    rintro e w1 ⟨rfl, X1, rfl⟩
    go_wp2_with fail
    refine bodyPost_ret (v := .agg #[.int .i64 (c.frags * 8), .int .i64 c.spine, .int .i64 c.spine, .int .i64 c.globals]) (by simp [results, Tryz.results219, go_sem]) rfl ?_
    rw [HV.out]
    exact Gives.mk rfl (by (repeat (first | (with_reducible (first | assumption | exact zR _ | exact zM _ _ _ _)) | apply zA | refine zS ?_ (by first | exact zL _ | exact zK _ _ | assumption) _ | apply zP | apply zD | apply zN)))
  · have HV := Lib.hid (show cSizes c = .agg #[.int .i64 0, .int .i64 0, .int .i64 0, .int .i64 0] by unfold cSizes; rw [if_neg h0])
    have hb : (c.check != 0) = true := by simp [h0]
    clear h0
    unfold Cnf.val at HC ⊢
    go_enter Tryz.func219, Tryz.ntmps219
    go_wp2_with fail
    refine (HC.out _ (by (repeat (first | (with_reducible (first | assumption | exact zR _ | exact zM _ _ _ _)) | apply zA | refine zS ?_ (by first | exact zL _ | exact zK _ _ | assumption) _ | apply zP | apply zD | apply zN)))).mono ?_
    rintro e w1 ⟨rfl, X1, rfl⟩
    go_wp2_with fail
    refine bodyPost_ret (v := .agg #[.int .i64 0, .int .i64 0, .int .i64 0, .int .i64 0]) (by simp [results, Tryz.results219, go_sem]) rfl ?_
    rw [HV.out]
    exact Gives.mk rfl (by (repeat (first | (with_reducible (first | assumption | exact zR _ | exact zM _ _ _ _)) | apply zA | refine zS ?_ (by first | exact zL _ | exact zK _ _ | assumption) _ | apply zP | apply zD | apply zN)))

def cSize (c : Cnf) (r : Nat) : Int := if c.check = 0 then ([c.frags * 8, c.spine, c.spine, c.globals][r]?).getD 0 else 0
def cAhead (c : Cnf) (r : Nat) : Int := if c.check = 0 then ([c.frags * 8, c.spine, c.spine, c.globals].take r).sum else 0
def cAt (c : Cnf) (r : Nat) (k : Int) : Value := if 0 ≤ k ∧ k < cSize c r then .tuple #[.int .i64 (k + cAhead c r), .int .i64 0] else .tuple #[.int .i64 0, .int .i64 1]

set_option maxHeartbeats 2000000 in
theorem at_any (c : Cnf) (r : Nat) (k : Int) (w : World) (hc : c.Ok w) (hr : r < 4) : Calls Tryz.prog 221 #[c.val, .int .i64 (r + 1 : Nat), .int .i64 k] w (Gives (cAt c r k) w) := by
  have HC := Lib.hid (fun w' (he : Ext w w') => sizes_any c w' (hc.ext he))
  obtain ⟨a0, a1, a2, a3, hS, hz, ha, h0, h1, h2, h3⟩ : ∃ a0 a1 a2 a3 : Int, cSizes c = .agg #[.int .i64 a0, .int .i64 a1, .int .i64 a2, .int .i64 a3] ∧ cSize c r = ([a0, a1, a2, a3][r]?).getD 0 ∧ cAhead c r = ([a0, a1, a2, a3].take r).sum ∧ (0 ≤ a0 ∧ a0 ≤ 8192) ∧ (0 ≤ a1 ∧ a1 ≤ 2048) ∧ (0 ≤ a2 ∧ a2 ≤ 2048) ∧ (0 ≤ a3 ∧ a3 ≤ 8) := by
    by_cases h0 : c.check = 0
    · obtain ⟨⟨_, _⟩, ⟨_, _⟩, ⟨_, _⟩, _⟩ := Cnf.ranged (Cnf.check_zero h0).1
      exact ⟨_, _, _, _, by unfold cSizes; rw [if_pos h0], by unfold cSize; rw [if_pos h0], by unfold cAhead; rw [if_pos h0], by omega, by omega, by omega, by omega⟩
    · refine ⟨0, 0, 0, 0, by unfold cSizes; rw [if_neg h0], ?_, ?_, by omega, by omega, by omega, by omega⟩
      · unfold cSize; rw [if_neg h0]; rcases (show r = 0 ∨ r = 1 ∨ r = 2 ∨ r = 3 by omega) with rfl | rfl | rfl | rfl <;> rfl
      · unfold cAhead; rw [if_neg h0]; rcases (show r = 0 ∨ r = 1 ∨ r = 2 ∨ r = 3 by omega) with rfl | rfl | rfl | rfl <;> rfl
  rw [hS] at HC
  have HV := Lib.hid (show cAt c r k = if 0 ≤ k ∧ k < ([a0, a1, a2, a3][r]?).getD 0 then .tuple #[.int .i64 (k + ([a0, a1, a2, a3].take r).sum), .int .i64 0] else .tuple #[.int .i64 0, .int .i64 1] by unfold cAt; rw [hz, ha])
  clear hS hz ha
  unfold Cnf.val at HC ⊢
  rcases (show r = 0 ∨ r = 1 ∨ r = 2 ∨ r = 3 by omega) with rfl | rfl | rfl | rfl
  · replace HV := Lib.hid (show cAt c 0 k = if 0 ≤ k ∧ k < a0 then .tuple #[.int .i64 (k + ([a0, a1, a2, a3].take 0).sum), .int .i64 0] else .tuple #[.int .i64 0, .int .i64 1] from HV.out)
    rw [show ([a0, a1, a2, a3].take 0).sum = 0 by simp] at HV
    rw [show ((0 + 1 : Nat) : Int) = 1 from rfl]
    clear hr
    by_cases hk0 : k < 0
    · rw [if_neg (by omega)] at HV
      go_enter Tryz.func221, Tryz.ntmps221
      go_wp2_with (go_at_call 219; refine (HC.out _ (by (repeat (first | (with_reducible (first | assumption | exact zR _ | exact zM _ _ _ _)) | apply zA | refine zS ?_ (by first | exact zL _ | exact zK _ _ | assumption) _ | apply zP | apply zD | apply zN)))).mono ?_; rintro e w1 ⟨rfl, X1, rfl⟩)
      go_ret2
      rw [HV.out]
      exact Gives.mk rfl (by (repeat (first | (with_reducible (first | assumption | exact zR _ | exact zM _ _ _ _)) | apply zA | refine zS ?_ (by first | exact zL _ | exact zK _ _ | assumption) _ | apply zP | apply zD | apply zN)))
    · by_cases hk1 : k < a0
      · rw [if_pos (by omega)] at HV
        go_enter Tryz.func221, Tryz.ntmps221
        go_wp2_with (go_at_call 219; refine (HC.out _ (by (repeat (first | (with_reducible (first | assumption | exact zR _ | exact zM _ _ _ _)) | apply zA | refine zS ?_ (by first | exact zL _ | exact zK _ _ | assumption) _ | apply zP | apply zD | apply zN)))).mono ?_; rintro e w1 ⟨rfl, X1, rfl⟩)
        go_loop [2, 27] (fun q i => ∃ n : Nat, n ≤ 0 ∧ i = .int .i64 n ∧ q = .int .i64 (k + ([a0, a1, a2, a3].take n).sum)) (fun _ i => 0 - (intOf i).toNat)
        case atStart => exact ⟨0, by omega, rfl, by simp⟩
        case round =>
          obtain ⟨n, hn, rfl, rfl⟩ := hrel
          obtain rfl : n = 0 := by omega
          rw [show ([a0, a1, a2, a3].take 0).sum = 0 by simp]
          go_wp2_with fail
          go_ret2
          rw [HV.out]
          exact Gives.ii (by omega) rfl (by (repeat (first | (with_reducible (first | assumption | exact zR _ | exact zM _ _ _ _)) | apply zA | refine zS ?_ (by first | exact zL _ | exact zK _ _ | assumption) _ | apply zP | apply zD | apply zN)))
      · rw [if_neg (by omega)] at HV
        go_enter Tryz.func221, Tryz.ntmps221
        go_wp2_with (go_at_call 219; refine (HC.out _ (by (repeat (first | (with_reducible (first | assumption | exact zR _ | exact zM _ _ _ _)) | apply zA | refine zS ?_ (by first | exact zL _ | exact zK _ _ | assumption) _ | apply zP | apply zD | apply zN)))).mono ?_; rintro e w1 ⟨rfl, X1, rfl⟩)
        go_ret2
        rw [HV.out]
        exact Gives.mk rfl (by (repeat (first | (with_reducible (first | assumption | exact zR _ | exact zM _ _ _ _)) | apply zA | refine zS ?_ (by first | exact zL _ | exact zK _ _ | assumption) _ | apply zP | apply zD | apply zN)))
  · replace HV := Lib.hid (show cAt c 1 k = if 0 ≤ k ∧ k < a1 then .tuple #[.int .i64 (k + ([a0, a1, a2, a3].take 1).sum), .int .i64 0] else .tuple #[.int .i64 0, .int .i64 1] from HV.out)
    rw [show ([a0, a1, a2, a3].take 1).sum = a0 by simp] at HV
    rw [show ((1 + 1 : Nat) : Int) = 2 from rfl]
    clear hr
    by_cases hk0 : k < 0
    · rw [if_neg (by omega)] at HV
      go_enter Tryz.func221, Tryz.ntmps221
      go_wp2_with (go_at_call 219; refine (HC.out _ (by (repeat (first | (with_reducible (first | assumption | exact zR _ | exact zM _ _ _ _)) | apply zA | refine zS ?_ (by first | exact zL _ | exact zK _ _ | assumption) _ | apply zP | apply zD | apply zN)))).mono ?_; rintro e w1 ⟨rfl, X1, rfl⟩)
      go_ret2
      rw [HV.out]
      exact Gives.mk rfl (by (repeat (first | (with_reducible (first | assumption | exact zR _ | exact zM _ _ _ _)) | apply zA | refine zS ?_ (by first | exact zL _ | exact zK _ _ | assumption) _ | apply zP | apply zD | apply zN)))
    · by_cases hk1 : k < a1
      · rw [if_pos (by omega)] at HV
        go_enter Tryz.func221, Tryz.ntmps221
        go_wp2_with (go_at_call 219; refine (HC.out _ (by (repeat (first | (with_reducible (first | assumption | exact zR _ | exact zM _ _ _ _)) | apply zA | refine zS ?_ (by first | exact zL _ | exact zK _ _ | assumption) _ | apply zP | apply zD | apply zN)))).mono ?_; rintro e w1 ⟨rfl, X1, rfl⟩)
        go_loop [2, 27] (fun q i => ∃ n : Nat, n ≤ 1 ∧ i = .int .i64 n ∧ q = .int .i64 (k + ([a0, a1, a2, a3].take n).sum)) (fun _ i => 1 - (intOf i).toNat)
        case atStart => exact ⟨0, by omega, rfl, by simp⟩
        case round =>
          obtain ⟨n, hn, rfl, rfl⟩ := hrel
          by_cases hn0 : n = 0
          · subst hn0
            rw [show ([a0, a1, a2, a3].take 0).sum = 0 by simp]
            go_wp2_with fail
            exact ⟨⟨1, by omega, rfl, congrArg (Value.int .i64) (by first | (simp; done) | (simp; omega))⟩, by simp [intOf]⟩
          obtain rfl : n = 1 := by omega
          rw [show ([a0, a1, a2, a3].take 1).sum = a0 by simp]
          go_wp2_with fail
          go_ret2
          rw [HV.out]
          exact Gives.ii (by omega) rfl (by (repeat (first | (with_reducible (first | assumption | exact zR _ | exact zM _ _ _ _)) | apply zA | refine zS ?_ (by first | exact zL _ | exact zK _ _ | assumption) _ | apply zP | apply zD | apply zN)))
      · rw [if_neg (by omega)] at HV
        go_enter Tryz.func221, Tryz.ntmps221
        go_wp2_with (go_at_call 219; refine (HC.out _ (by (repeat (first | (with_reducible (first | assumption | exact zR _ | exact zM _ _ _ _)) | apply zA | refine zS ?_ (by first | exact zL _ | exact zK _ _ | assumption) _ | apply zP | apply zD | apply zN)))).mono ?_; rintro e w1 ⟨rfl, X1, rfl⟩)
        go_ret2
        rw [HV.out]
        exact Gives.mk rfl (by (repeat (first | (with_reducible (first | assumption | exact zR _ | exact zM _ _ _ _)) | apply zA | refine zS ?_ (by first | exact zL _ | exact zK _ _ | assumption) _ | apply zP | apply zD | apply zN)))
  · replace HV := Lib.hid (show cAt c 2 k = if 0 ≤ k ∧ k < a2 then .tuple #[.int .i64 (k + ([a0, a1, a2, a3].take 2).sum), .int .i64 0] else .tuple #[.int .i64 0, .int .i64 1] from HV.out)
    rw [show ([a0, a1, a2, a3].take 2).sum = a0 + a1 by first | (simp; done) | (simp; omega)] at HV
    rw [show ((2 + 1 : Nat) : Int) = 3 from rfl]
    clear hr
    by_cases hk0 : k < 0
    · rw [if_neg (by omega)] at HV
      go_enter Tryz.func221, Tryz.ntmps221
      go_wp2_with (go_at_call 219; refine (HC.out _ (by (repeat (first | (with_reducible (first | assumption | exact zR _ | exact zM _ _ _ _)) | apply zA | refine zS ?_ (by first | exact zL _ | exact zK _ _ | assumption) _ | apply zP | apply zD | apply zN)))).mono ?_; rintro e w1 ⟨rfl, X1, rfl⟩)
      go_ret2
      rw [HV.out]
      exact Gives.mk rfl (by (repeat (first | (with_reducible (first | assumption | exact zR _ | exact zM _ _ _ _)) | apply zA | refine zS ?_ (by first | exact zL _ | exact zK _ _ | assumption) _ | apply zP | apply zD | apply zN)))
    · by_cases hk1 : k < a2
      · rw [if_pos (by omega)] at HV
        go_enter Tryz.func221, Tryz.ntmps221
        go_wp2_with (go_at_call 219; refine (HC.out _ (by (repeat (first | (with_reducible (first | assumption | exact zR _ | exact zM _ _ _ _)) | apply zA | refine zS ?_ (by first | exact zL _ | exact zK _ _ | assumption) _ | apply zP | apply zD | apply zN)))).mono ?_; rintro e w1 ⟨rfl, X1, rfl⟩)
        go_loop [2, 27] (fun q i => ∃ n : Nat, n ≤ 2 ∧ i = .int .i64 n ∧ q = .int .i64 (k + ([a0, a1, a2, a3].take n).sum)) (fun _ i => 2 - (intOf i).toNat)
        case atStart => exact ⟨0, by omega, rfl, by simp⟩
        case round =>
          obtain ⟨n, hn, rfl, rfl⟩ := hrel
          by_cases hn0 : n = 0
          · subst hn0
            rw [show ([a0, a1, a2, a3].take 0).sum = 0 by simp]
            go_wp2_with fail
            exact ⟨⟨1, by omega, rfl, congrArg (Value.int .i64) (by first | (simp; done) | (simp; omega))⟩, by simp [intOf]⟩
          by_cases hn1 : n = 1
          · subst hn1
            rw [show ([a0, a1, a2, a3].take 1).sum = a0 by simp]
            go_wp2_with fail
            exact ⟨⟨2, by omega, rfl, congrArg (Value.int .i64) (by first | (simp; done) | (simp; omega))⟩, by simp [intOf]⟩
          obtain rfl : n = 2 := by omega
          rw [show ([a0, a1, a2, a3].take 2).sum = a0 + a1 by first | (simp; done) | (simp; omega)]
          go_wp2_with fail
          go_ret2
          rw [HV.out]
          exact Gives.ii (by omega) rfl (by (repeat (first | (with_reducible (first | assumption | exact zR _ | exact zM _ _ _ _)) | apply zA | refine zS ?_ (by first | exact zL _ | exact zK _ _ | assumption) _ | apply zP | apply zD | apply zN)))
      · rw [if_neg (by omega)] at HV
        go_enter Tryz.func221, Tryz.ntmps221
        go_wp2_with (go_at_call 219; refine (HC.out _ (by (repeat (first | (with_reducible (first | assumption | exact zR _ | exact zM _ _ _ _)) | apply zA | refine zS ?_ (by first | exact zL _ | exact zK _ _ | assumption) _ | apply zP | apply zD | apply zN)))).mono ?_; rintro e w1 ⟨rfl, X1, rfl⟩)
        go_ret2
        rw [HV.out]
        exact Gives.mk rfl (by (repeat (first | (with_reducible (first | assumption | exact zR _ | exact zM _ _ _ _)) | apply zA | refine zS ?_ (by first | exact zL _ | exact zK _ _ | assumption) _ | apply zP | apply zD | apply zN)))
  · replace HV := Lib.hid (show cAt c 3 k = if 0 ≤ k ∧ k < a3 then .tuple #[.int .i64 (k + ([a0, a1, a2, a3].take 3).sum), .int .i64 0] else .tuple #[.int .i64 0, .int .i64 1] from HV.out)
    rw [show ([a0, a1, a2, a3].take 3).sum = a0 + a1 + a2 by first | (simp; done) | (simp; omega)] at HV
    rw [show ((3 + 1 : Nat) : Int) = 4 from rfl]
    clear hr
    by_cases hk0 : k < 0
    · rw [if_neg (by omega)] at HV
      go_enter Tryz.func221, Tryz.ntmps221
      go_wp2_with (go_at_call 219; refine (HC.out _ (by (repeat (first | (with_reducible (first | assumption | exact zR _ | exact zM _ _ _ _)) | apply zA | refine zS ?_ (by first | exact zL _ | exact zK _ _ | assumption) _ | apply zP | apply zD | apply zN)))).mono ?_; rintro e w1 ⟨rfl, X1, rfl⟩)
      go_ret2
      rw [HV.out]
      exact Gives.mk rfl (by (repeat (first | (with_reducible (first | assumption | exact zR _ | exact zM _ _ _ _)) | apply zA | refine zS ?_ (by first | exact zL _ | exact zK _ _ | assumption) _ | apply zP | apply zD | apply zN)))
    · by_cases hk1 : k < a3
      · rw [if_pos (by omega)] at HV
        go_enter Tryz.func221, Tryz.ntmps221
        go_wp2_with (go_at_call 219; refine (HC.out _ (by (repeat (first | (with_reducible (first | assumption | exact zR _ | exact zM _ _ _ _)) | apply zA | refine zS ?_ (by first | exact zL _ | exact zK _ _ | assumption) _ | apply zP | apply zD | apply zN)))).mono ?_; rintro e w1 ⟨rfl, X1, rfl⟩)
        go_loop [2, 27] (fun q i => ∃ n : Nat, n ≤ 3 ∧ i = .int .i64 n ∧ q = .int .i64 (k + ([a0, a1, a2, a3].take n).sum)) (fun _ i => 3 - (intOf i).toNat)
        case atStart => exact ⟨0, by omega, rfl, by simp⟩
        case round =>
          obtain ⟨n, hn, rfl, rfl⟩ := hrel
          by_cases hn0 : n = 0
          · subst hn0
            rw [show ([a0, a1, a2, a3].take 0).sum = 0 by simp]
            go_wp2_with fail
            exact ⟨⟨1, by omega, rfl, congrArg (Value.int .i64) (by first | (simp; done) | (simp; omega))⟩, by simp [intOf]⟩
          by_cases hn1 : n = 1
          · subst hn1
            rw [show ([a0, a1, a2, a3].take 1).sum = a0 by simp]
            go_wp2_with fail
            exact ⟨⟨2, by omega, rfl, congrArg (Value.int .i64) (by first | (simp; done) | (simp; omega))⟩, by simp [intOf]⟩
          by_cases hn2 : n = 2
          · subst hn2
            rw [show ([a0, a1, a2, a3].take 2).sum = a0 + a1 by first | (simp; done) | (simp; omega)]
            go_wp2_with fail
            exact ⟨⟨3, by omega, rfl, congrArg (Value.int .i64) (by first | (simp; done) | (simp; omega))⟩, by simp [intOf]⟩
          obtain rfl : n = 3 := by omega
          rw [show ([a0, a1, a2, a3].take 3).sum = a0 + a1 + a2 by first | (simp; done) | (simp; omega)]
          go_wp2_with fail
          go_ret2
          rw [HV.out]
          exact Gives.ii (by omega) rfl (by (repeat (first | (with_reducible (first | assumption | exact zR _ | exact zM _ _ _ _)) | apply zA | refine zS ?_ (by first | exact zL _ | exact zK _ _ | assumption) _ | apply zP | apply zD | apply zN)))
      · rw [if_neg (by omega)] at HV
        go_enter Tryz.func221, Tryz.ntmps221
        go_wp2_with (go_at_call 219; refine (HC.out _ (by (repeat (first | (with_reducible (first | assumption | exact zR _ | exact zM _ _ _ _)) | apply zA | refine zS ?_ (by first | exact zL _ | exact zK _ _ | assumption) _ | apply zP | apply zD | apply zN)))).mono ?_; rintro e w1 ⟨rfl, X1, rfl⟩)
        go_ret2
        rw [HV.out]
        exact Gives.mk rfl (by (repeat (first | (with_reducible (first | assumption | exact zR _ | exact zM _ _ _ _)) | apply zA | refine zS ?_ (by first | exact zL _ | exact zK _ _ | assumption) _ | apply zP | apply zD | apply zN)))

def cFrag (c : Cnf) (i k : Int) : Value := if c.check = 0 ∧ 0 ≤ i ∧ i < c.frags ∧ 0 ≤ k ∧ k < 8 then .tuple #[.int .i64 (i * 8 + k), .int .i64 0] else .tuple #[.int .i64 0, .int .i64 1]
end Go.Proofs.YtcpeoflomdhidaaGreat

/-
  area: Words, Spine, Global.
-/
namespace Go.Proofs.YtcpeoflomdhidaaGreat
open Go Go.RowKit
set_option linter.unusedVariables false
set_option maxHeartbeats 2000000
theorem index4b (x0 x1 x2 x3 : Value) (w : World) :
    (Instr.index 235 (.agg #[x0, x1, x2, x3]) (.int .i64 0)).run Tryz.prog w = .ok x0 w ∧
    (Instr.index 235 (.agg #[x0, x1, x2, x3]) (.int .i64 1)).run Tryz.prog w = .ok x1 w ∧
    (Instr.index 235 (.agg #[x0, x1, x2, x3]) (.int .i64 2)).run Tryz.prog w = .ok x2 w ∧
    (Instr.index 235 (.agg #[x0, x1, x2, x3]) (.int .i64 3)).run Tryz.prog w = .ok x3 w :=
  ⟨by kernel_rfl, by kernel_rfl, by kernel_rfl, by kernel_rfl⟩
def cWords (c : Cnf) : Int := if c.check = 0 then c.frags * 8 + c.spine + c.spine + c.globals else 0
theorem words_any (c : Cnf) (w : World) (hc : c.Ok w) : Calls Tryz.prog 160 #[c.val] w (Gives (.int .i64 (cWords c)) w) := by
  have HC := Lib.hid (fun w' (he : Ext w w') => sizes_any c w' (hc.ext he))
  obtain ⟨a0, a1, a2, a3, hS, hz, h0, h1, h2, h3⟩ : ∃ a0 a1 a2 a3 : Int, cSizes c = .agg #[.int .i64 a0, .int .i64 a1, .int .i64 a2, .int .i64 a3] ∧ cWords c = a0 + a1 + a2 + a3 ∧ (0 ≤ a0 ∧ a0 ≤ 8192) ∧ (0 ≤ a1 ∧ a1 ≤ 2048) ∧ (0 ≤ a2 ∧ a2 ≤ 2048) ∧ (0 ≤ a3 ∧ a3 ≤ 8) := by
    by_cases h0 : c.check = 0
    · obtain ⟨⟨_, _⟩, ⟨_, _⟩, ⟨_, _⟩, _⟩ := Cnf.ranged (Cnf.check_zero h0).1
      exact ⟨_, _, _, _, by unfold cSizes; rw [if_pos h0], by unfold cWords; rw [if_pos h0], by omega, by omega, by omega, by omega⟩
    · exact ⟨0, 0, 0, 0, by unfold cSizes; rw [if_neg h0], by unfold cWords; rw [if_neg h0]; rfl, by omega, by omega, by omega, by omega⟩
  rw [hS] at HC
  have HZ := Lib.hid hz
  clear hS hz
  have q0 := fun w => (index4b (.int .i64 a0) (.int .i64 a1) (.int .i64 a2) (.int .i64 a3) w).1
  have q1 := fun w => (index4b (.int .i64 a0) (.int .i64 a1) (.int .i64 a2) (.int .i64 a3) w).2.1
  have q2 := fun w => (index4b (.int .i64 a0) (.int .i64 a1) (.int .i64 a2) (.int .i64 a3) w).2.2.1
  have q3 := fun w => (index4b (.int .i64 a0) (.int .i64 a1) (.int .i64 a2) (.int .i64 a3) w).2.2.2
  unfold Cnf.val at HC ⊢
  go_enter Tryz.func160, Tryz.ntmps160
  go_wp2_with fail
  refine (HC.out _ (by (repeat (first | (with_reducible (first | assumption | exact zR _ | exact zM _ _ _ _)) | apply zA | refine zS ?_ (by first | exact zL _ | exact zK _ _ | assumption) _ | apply zP | apply zD | apply zN)))).mono ?_
  rintro e w1 ⟨rfl, X1, rfl⟩
  go_wp2_with fail
  refine wp_loop_rounds 5 ?_
  rw [rounds_succ]
  go_wp2_with fail
  rw [rounds_succ]
  go_wp2_with fail
  rw [rounds_succ]
  go_wp2_with fail
  rw [rounds_succ]
  go_wp2_with fail
  rw [rounds_succ]
  go_wp2_with fail
  go_ret
  exact Gives.int (by rw [HZ.out]; try simp) (by (repeat (first | (with_reducible (first | assumption | exact zR _ | exact zM _ _ _ _)) | apply zA | refine zS ?_ (by first | exact zL _ | exact zK _ _ | assumption) _ | apply zP | apply zD | apply zN)))
theorem global_any (c : Cnf) (k : Int) (w : World) (hc : c.Ok w) : Calls Tryz.prog 163 #[c.val, .int .i64 k] w (Gives (cAt c 3 k) w) := by
  have HC := Lib.hid (fun w' (he : Ext w w') => at_any c 3 k w' (hc.ext he) (by omega))
  have HV : ∃ x y : Int, cAt c 3 k = .tuple #[.int .i64 x, .int .i64 y] := by unfold cAt; split <;> exact ⟨_, _, rfl⟩
  obtain ⟨x, y, hv⟩ := HV
  rw [hv] at HC ⊢
  clear hv
  unfold Cnf.val at HC ⊢
  go_enter Tryz.func163, Tryz.ntmps163
  go_wp2_with fail
  refine (HC.out _ (by (repeat (first | (with_reducible (first | assumption | exact zR _ | exact zM _ _ _ _)) | apply zA | refine zS ?_ (by first | exact zL _ | exact zK _ _ | assumption) _ | apply zP | apply zD | apply zN)))).mono ?_
  rintro e w1 ⟨rfl, X1, rfl⟩
  go_wp2_with fail
  go_ret2
  exact Gives.ii rfl rfl (by (repeat (first | (with_reducible (first | assumption | exact zR _ | exact zM _ _ _ _)) | apply zA | refine zS ?_ (by first | exact zL _ | exact zK _ _ | assumption) _ | apply zP | apply zD | apply zN)))
theorem spine_any (c : Cnf) (s : Nat) (k : Int) (w : World) (hc : c.Ok w) (hs : s < 2) : Calls Tryz.prog 204 #[c.val, .int .i64 s, .int .i64 k] w (Gives (cAt c (s + 1) k) w) := by
  have HC := Lib.hid (fun w' (he : Ext w w') => at_any c (s + 1) k w' (hc.ext he) (by omega))
  have HV : ∃ x y : Int, cAt c (s + 1) k = .tuple #[.int .i64 x, .int .i64 y] := by unfold cAt; split <;> exact ⟨_, _, rfl⟩
  obtain ⟨x, y, hv⟩ := HV
  rw [hv] at HC ⊢
  clear hv
  unfold Cnf.val at HC ⊢
  rcases (show s = 0 ∨ s = 1 by omega) with rfl | rfl
  · go_enter Tryz.func204, Tryz.ntmps204
    go_wp2_with fail
    refine (HC.out _ (by (repeat (first | (with_reducible (first | assumption | exact zR _ | exact zM _ _ _ _)) | apply zA | refine zS ?_ (by first | exact zL _ | exact zK _ _ | assumption) _ | apply zP | apply zD | apply zN)))).mono ?_
    rintro e w1 ⟨rfl, X1, rfl⟩
    go_wp2_with fail
    go_ret2
    exact Gives.ii rfl rfl (by (repeat (first | (with_reducible (first | assumption | exact zR _ | exact zM _ _ _ _)) | apply zA | refine zS ?_ (by first | exact zL _ | exact zK _ _ | assumption) _ | apply zP | apply zD | apply zN)))
  · go_enter Tryz.func204, Tryz.ntmps204
    go_wp2_with fail
    refine (HC.out _ (by (repeat (first | (with_reducible (first | assumption | exact zR _ | exact zM _ _ _ _)) | apply zA | refine zS ?_ (by first | exact zL _ | exact zK _ _ | assumption) _ | apply zP | apply zD | apply zN)))).mono ?_
    rintro e w1 ⟨rfl, X1, rfl⟩
    go_wp2_with fail
    go_ret2
    exact Gives.ii rfl rfl (by (repeat (first | (with_reducible (first | assumption | exact zR _ | exact zM _ _ _ _)) | apply zA | refine zS ?_ (by first | exact zL _ | exact zK _ _ | assumption) _ | apply zP | apply zD | apply zN)))
end Go.Proofs.YtcpeoflomdhidaaGreat

/-
  stock.Side, sporef6.Side, spolaw4.Few.
-/
namespace Go
def sideTo (l : List Int) (k : Nat) : Bool := (List.range k).all fun i => decide (l.getD i 0 ≠ 9223372036854775807 ∧ l.getD (i + 1) 0 = l.getD i 0 + 1)
def isSide (l : List Int) : Bool := sideTo l (l.length - 1)
theorem sideTo_succ (l : List Int) (k : Nat) : sideTo l (k + 1) = (sideTo l k && decide (l.getD k 0 ≠ 9223372036854775807 ∧ l.getD (k + 1) 0 = l.getD k 0 + 1)) := by
  simp [sideTo, List.range_succ, List.all_append]
theorem isSide_no {l : List Int} {k : Nat} (hk : k + 1 < l.length) (h : ¬ (l.getD k 0 ≠ 9223372036854775807 ∧ l.getD (k + 1) 0 = l.getD k 0 + 1)) : isSide l = false := by
  unfold isSide sideTo
  rw [List.all_eq_false]
  exact ⟨k, List.mem_range.2 (by omega), by simpa using h⟩
end Go
namespace Go.Proofs.YtcpeoflomdhidaaGreat
open Go Go.RowKit

theorem ints_at {w : World} {A : Option Addr} {l : List Int} (h : CellsAt w A (l.map (Value.int .i64))) {k : Nat} (hk : k < l.length) : ∃ b o, A = some ⟨b, o, none⟩ ∧ b < w.heap.size ∧ ∀ j, j < l.length → w.cell? ⟨b, o + j, none⟩ = some (.int .i64 (l.getD j 0)) := by
  obtain ⟨b, o, hA, hb, hc⟩ := h.cases (by simp; omega)
  refine ⟨b, o, hA, hb, fun j hj => hc j _ ?_⟩
  rw [List.getElem?_map, List.getElem?_eq_getElem hj]
  simp [List.getD, List.getElem?_eq_getElem hj]

set_option maxHeartbeats 1000000 in
theorem side_any (A : Option Addr) (cap : Nat) (l : List Int) (w : World) (hc : CellsAt w A (l.map (Value.int .i64))) (hl : l.length ≤ 140737488355328) (hw : ∀ x ∈ l, -9223372036854775808 ≤ x ∧ x ≤ 9223372036854775807) :
    Calls Tryz.prog 202 #[.slice A l.length cap] w (Gives (.bool (isSide l)) w) := by
  go_enter Tryz.func202, Tryz.ntmps202
  go_wp2_with fail
  go_loopw [3] (fun i wr => ∃ k : Nat, (k + 1 ≤ l.length ∨ k = 0) ∧ i = .int .i64 (k + 1 : Nat) ∧ sideTo l k = true ∧ Ext w wr) (fun i _ => l.length + 1 - (intOf i).toNat)
  case atStart => exact ⟨0, .inr rfl, rfl, rfl, Ext.refl _⟩
  case round =>
    obtain ⟨k, hk, rfl, hs, X, rfl⟩ := hrel
    have HS := Lib.hid hs
    clear hs
    by_cases hlt : k + 1 < l.length
    · obtain ⟨b, o, rfl, hb, hcell⟩ := ints_at hc hlt
      have g0 := hcell k (by omega)
      have g1 := hcell (k + 1) hlt
      have w0 := hw (l.getD k 0) (by simp [List.getD, List.getElem?_eq_getElem (show k < l.length by omega)])
      have HT := Lib.hid (sideTo_succ l k)
      have HN := Lib.hid (fun h => isSide_no (l := l) hlt h)
      clear hcell hc hw
      generalize l.getD k 0 = x at *
      generalize l.getD (k + 1) 0 = y at *
      have hk' : ((k + 1 : Nat) : Int) = (k : Int) + 1 := rfl
      rw [hk']
      clear hk'
      go_wp2_with fail
      have hk2 : k < l.length := by omega
      have hi1 : IntKind.i64.wrap ((k : Int) + 1 - 1) = k := by rw [IntWalk.i64_in _ (by omega)]; omega
      obtain ⟨w0a, w0b⟩ := w0
      cases hb : (x == 9223372036854775807)
      · have hx : x ≤ 9223372036854775806 := by have := beq_eq_false_iff_ne.1 hb; omega
        clear w0b
        go_quiet (fail)
        cases hy : (y != x + 1)
        · have HY := Lib.hid (HT.out.trans (by rw [HS.out, decide_eq_true (⟨by omega, by simpa using hy⟩ : x ≠ 9223372036854775807 ∧ y = x + 1)]))
          go_wp2_with fail
          go_roundw
          case rel => exact ⟨k + 1, by omega, by go_num, HY.out, by (repeat (first | (with_reducible (first | assumption | exact zR _ | exact zM _ _ _ _)) | apply zA | refine zS ?_ (by first | exact zL _ | exact zK _ _ | assumption) _ | apply zP | apply zD | apply zN))⟩
          case measure => simp [intOf]; omega
        · have HF := Lib.hid (HN.out (fun h => by rw [bne_iff_ne] at hy; exact hy h.2))
          go_wp2_with fail
          go_ret
          exact Gives.bool HF.out.symm (by (repeat (first | (with_reducible (first | assumption | exact zR _ | exact zM _ _ _ _)) | apply zA | refine zS ?_ (by first | exact zL _ | exact zK _ _ | assumption) _ | apply zP | apply zD | apply zN)))
      · have HF := Lib.hid (HN.out (fun h => h.1 (beq_iff_eq.1 hb)))
        clear HN
        go_quiet (fail)
        go_wp2_with fail
        go_ret
        exact Gives.bool HF.out.symm (by (repeat (first | (with_reducible (first | assumption | exact zR _ | exact zM _ _ _ _)) | apply zA | refine zS ?_ (by first | exact zL _ | exact zK _ _ | assumption) _ | apply zP | apply zD | apply zN)))
    · have HV := Lib.hid (show isSide l = true by unfold isSide; rw [show l.length - 1 = k by omega]; exact HS.out)
      go_wp2_with fail
      go_ret
      exact Gives.bool HV.out.symm (by (repeat (first | (with_reducible (first | assumption | exact zR _ | exact zM _ _ _ _)) | apply zA | refine zS ?_ (by first | exact zL _ | exact zK _ _ | assumption) _ | apply zP | apply zD | apply zN)))
end Go.Proofs.YtcpeoflomdhidaaGreat

/-
  space: its state as plain data, and in memory.
-/
namespace Go
open Go.RowKit
set_option linter.unusedVariables false
structure SpaceS where
  tab : TabS
  stocks : List StockS
  forced : Bool
  count : Int
  c : Cnf
  pool : PoolS
  coil : CoilS
  line : List Ent
theorem Cnf.Same.bad {c d : Cnf} (h : c.Same d) : badIn c.shapes = badIn d.shapes := by
  have e : ∀ l : List Shp, badIn l = (l.map Shp.data).any fun p => !decide (p.2.length ≤ 40 ∧ (p.1 = true → p.2.length = 1)) := fun l => by
    unfold badIn
    rw [List.any_map]
    rfl
  rw [e, e, h.shapes]
theorem Cnf.Same.check {c d : Cnf} (h : c.Same d) : c.check = d.check := by
  have hl : c.shapes.length = d.shapes.length := by have := congrArg List.length h.shapes; simpa using this
  have hb := h.bad
  obtain ⟨h1, h2, h3, h4, h5, h6, h7, h8, _⟩ := h
  unfold Cnf.check Cnf.rangedTo Cnf.ranges
  rw [h1, h2, h3, h4, h5, h6, h7, h8, hl, hb]
def inst (B : Nat) (x : Nat) : Prop := B ≤ x ∧ x < B + 60
end Go
namespace Go.Proofs.YtcpeoflomdhidaaGreat
open Go Go.RowKit
set_option linter.unusedVariables false
structure SpaceIn (g : GW) (B b bt : Nat) (S : SpaceS) (bp bk bl : Nat) (A : Option Addr) (cs : Nat) (cm : Cnf) (bs : List Nat) : Prop where
  blk : Blk g B b 49 [.pointer (some ⟨bt, 0, none⟩), .slice A S.stocks.length cs, .bool S.forced, .int .i64 S.count, .int .i64 cm.frags, .int .i64 cm.spine, .int .i64 cm.globals, .int .i64 cm.threads, .int .i64 cm.locals, .int .i64 cm.cache, .int .i64 cm.stack, .int .i64 cm.low, .slice cm.A cm.shapes.length cm.cap, .pointer (some ⟨bp, 0, none⟩), .pointer (some ⟨bk, 0, none⟩), .pointer (some ⟨bl, 0, none⟩)]
  row : Row g B 118 1 (.slice A S.stocks.length cs) S.stocks.length (bs.map fun x => Value.pointer (some ⟨x, 0, none⟩))
  tab : TabAt g (B + 50) bt S.tab
  pool : PoolAt g (B + 1) bp S.pool
  coil : CoilAt g (B + 2) bk S.coil
  line : LineAt g (B + 3) bl S.line
  cnf : CnfAt g (B + 5) cm
  same : cm.Same S.c
  blen : bs.length = S.stocks.length
  stock : ∀ j x s, bs[j]? = some x → S.stocks[j]? = some s → StockAt g (B + 10 + j) x s
  check : S.c.check = 0
  few : S.stocks.length ≤ 16
def SpaceAt (g : GW) (B b bt : Nat) (S : SpaceS) : Prop := ∃ bp bk bl A cs cm bs, SpaceIn g B b bt S bp bk bl A cs cm bs
namespace SpaceIn
variable {g g' : GW} {B b bt bp bk bl cs : Nat} {S : SpaceS} {A : Option Addr} {cm : Cnf} {bs : List Nat}
theorem keep {T : Nat → Prop} (h : SpaceIn g B b bt S bp bk bl A cs cm bs) (m : Mod T g g') (hT : ∀ x, T x → x < B ∨ B + 60 ≤ x) : SpaceIn g' B b bt S bp bk bl A cs cm bs := by
  have q : ∀ k, k < 60 → ¬ T (B + k) := fun k hk ht => by have := hT _ ht; omega
  refine ⟨h.blk.keep m (q 0 (by omega)), h.row.keep m (q 0 (by omega)), h.tab.keep m (q 50 (by omega)), h.pool.keep m (q 1 (by omega)), h.coil.keep m (q 2 (by omega)), h.line.keep m (q 3 (by omega)) (q 4 (by omega)), h.cnf.keep m (q 5 (by omega)), h.same, h.blen, fun j x s hx hs => (h.stock j x s hx hs).keep m (fun e => ?_), h.check, h.few⟩
  have := (List.getElem?_eq_some_iff.1 hs).1
  have := h.few
  exact q (10 + j) (by omega) (by rw [← Nat.add_assoc]; exact e)
theorem withTab (h : SpaceIn g B b bt S bp bk bl A cs cm bs) {T : TabS} (m : Mod (fun x => x = B + 50) g g') (ht : TabAt g' (B + 50) bt T) : SpaceIn g' B b bt { S with tab := T } bp bk bl A cs cm bs :=
  ⟨h.blk.keep m (by omega), h.row.keep m (by omega), ht, h.pool.keep m (by omega), h.coil.keep m (by omega), h.line.keep m (by omega) (by omega), h.cnf.keep m (by omega), h.same, h.blen, fun j x s hx hs => (h.stock j x s hx hs).keep m (by have h1 : j < S.stocks.length := (List.getElem?_eq_some_iff.1 hs).1; have := h.few; omega), h.check, h.few⟩
theorem withPool (h : SpaceIn g B b bt S bp bk bl A cs cm bs) {T : PoolS} (m : Mod (fun x => x = B + 1) g g') (ht : PoolAt g' (B + 1) bp T) : SpaceIn g' B b bt { S with pool := T } bp bk bl A cs cm bs :=
  ⟨h.blk.keep m (by omega), h.row.keep m (by omega), h.tab.keep m (by omega), ht, h.coil.keep m (by omega), h.line.keep m (by omega) (by omega), h.cnf.keep m (by omega), h.same, h.blen, fun j x s hx hs => (h.stock j x s hx hs).keep m (by omega), h.check, h.few⟩
theorem withCoil (h : SpaceIn g B b bt S bp bk bl A cs cm bs) {T : CoilS} (m : Mod (fun x => x = B + 2) g g') (ht : CoilAt g' (B + 2) bk T) : SpaceIn g' B b bt { S with coil := T } bp bk bl A cs cm bs :=
  ⟨h.blk.keep m (by omega), h.row.keep m (by omega), h.tab.keep m (by omega), h.pool.keep m (by omega), ht, h.line.keep m (by omega) (by omega), h.cnf.keep m (by omega), h.same, h.blen, fun j x s hx hs => (h.stock j x s hx hs).keep m (by omega), h.check, h.few⟩
theorem withLine (h : SpaceIn g B b bt S bp bk bl A cs cm bs) {T : List Ent} (m : Mod (fun x => x = B + 3 ∨ x = B + 4) g g') (ht : LineAt g' (B + 3) bl T) : SpaceIn g' B b bt { S with line := T } bp bk bl A cs cm bs :=
  ⟨h.blk.keep m (by omega), h.row.keep m (by omega), h.tab.keep m (by omega), h.pool.keep m (by omega), h.coil.keep m (by omega), ht, h.cnf.keep m (by omega), h.same, h.blen, fun j x s hx hs => (h.stock j x s hx hs).keep m (by omega), h.check, h.few⟩
theorem withStock (h : SpaceIn g B b bt S bp bk bl A cs cm bs) {k y : Nat} {s' : StockS} (hk : k < S.stocks.length) (hy : bs[k]? = some y) (m : Mod (fun x => x = B + 10 + k) g g') (ht : StockAt g' (B + 10 + k) y s') : SpaceIn g' B b bt { S with stocks := S.stocks.set k s' } bp bk bl A cs cm bs := by
  have hf := h.few
  refine ⟨?_, ?_, h.tab.keep m (by omega), h.pool.keep m (by omega), h.coil.keep m (by omega), h.line.keep m (by omega) (by omega), h.cnf.keep m (by omega), h.same, by simpa using h.blen, fun j x s hx hs => ?_, h.check, by simpa using h.few⟩
  · simp only [List.length_set]; exact h.blk.keep m (by omega)
  · simp only [List.length_set]; exact h.row.keep m (by omega)
  · by_cases hj : k = j
    · subst hj
      rw [hy] at hx
      injection hx with hx
      simp only at hs
      rw [List.getElem?_set_self hk] at hs
      injection hs with hs
      rw [← hx, ← hs]
      exact ht
    · simp only at hs
      rw [List.getElem?_set_ne hj] at hs
      exact (h.stock j x s hx hs).keep m (by omega)
theorem tick (h : SpaceIn g B b bt S bp bk bl A cs cm bs) : SpaceIn ⟨g.own, g.w.setCell ⟨b, 3, none⟩ (.int .i64 (S.count + 1))⟩ B b bt { S with count := S.count + 1 } bp bk bl A cs cm bs := by
  have m : Mod (fun x => x = B) g ⟨g.own, g.w.setCell ⟨b, 3, none⟩ (.int .i64 (S.count + 1))⟩ := Mod.set h.blk.own
  exact ⟨h.blk.set 3 _, h.row.setOther 3 _ (fun x hx => h.row.ne_type h.blk (by decide) hx), h.tab.keep m (by omega), h.pool.keep m (by omega), h.coil.keep m (by omega), h.line.keep m (by omega) (by omega), h.cnf.keep m (by omega), h.same, h.blen, fun j x s hx hs => (h.stock j x s hx hs).keep m (by omega), h.check, h.few⟩
end SpaceIn
end Go.Proofs.YtcpeoflomdhidaaGreat

/-
  space: stock, set, frees, none; Waits, Free, Coil, fits.
-/
namespace Go
def TabS.setAll (t : TabS) (l : List Int) (s : Int) (sense : Bool) : TabS := l.foldl (fun t i => t.set i s false sense) t
def SpaceS.fits (S : SpaceS) (fr sp : Int) : Bool := decide (fr ≤ (S.pool.free : Int)) && (sp == 0 || (S.pool.run fr).isSome || decide (sp ≤ S.coil.room))
end Go
namespace Go.Proofs.YtcpeoflomdhidaaGreat
open Go Go.RowKit
set_option linter.unusedVariables false
set_option linter.unnecessarySimpa false
set_option linter.unusedSimpArgs false
set_option maxHeartbeats 2000000

theorem space_stock (t : Int) {g : GW} {B b bt bp bk bl cs : Nat} {S : SpaceS} {A : Option Addr} {cm : Cnf} {bs : List Nat} (h : SpaceIn g B b bt S bp bk bl A cs cm bs) :
    Calls Tryz.prog 107 #[.pointer (some ⟨b, 0, none⟩), .int .i64 t] g.w (fun e w' => e = .returned (.pointer (if inB t S.stocks.length then some ⟨bs.getD t.toNat 0, 0, none⟩ else none)) ∧ g.w = w') := by
  have c1 := h.blk.cell (i := 1) rfl
  have hlen := h.few
  cases hin : inB t S.stocks.length
  · have hc := inB_false hin
    have HI := Lib.hid hin
    clear h hin
    by_cases h0 : t < 0
    · clear hc
      go_enter Tryz.func107, Tryz.ntmps107
      go_wp2_with fail
      go_ret
      exact ⟨rfl, rfl⟩
    · have h1 : (S.stocks.length : Int) ≤ t := by omega
      clear hc
      go_enter Tryz.func107, Tryz.ntmps107
      go_wp2_with fail
      go_ret
      exact ⟨rfl, rfl⟩
  · obtain ⟨k, rfl, hk⟩ := inB_true hin
    obtain ⟨r, rfl, hrl, ho, hcell, hfr⟩ := h.row.block (by omega)
    have hbl := h.blen
    have k0 := hcell k (.pointer (some ⟨bs.getD k 0, 0, none⟩)) (by rw [List.getElem?_map, List.getElem?_eq_getElem (by omega : k < bs.length)]; simp [List.getD_eq_getElem?_getD, (by omega : k < bs.length)])
    rw [Int.toNat_natCast]
    generalize bs.getD k 0 = x at *
    generalize S.stocks.length = n at *
    clear h hcell hfr hin ho hbl
    go_enter Tryz.func107, Tryz.ntmps107
    go_wp2_with fail
    go_ret
    exact ⟨rfl, rfl⟩
def shelves (cm : Cnf) (bp bk bl : Nat) : Value := .agg #[.int .i64 cm.frags, .int .i64 cm.spine, .int .i64 cm.globals, .int .i64 cm.threads, .int .i64 cm.locals, .int .i64 cm.cache, .int .i64 cm.stack, .int .i64 cm.low, .slice cm.A cm.shapes.length cm.cap, .pointer (some ⟨bp, 0, none⟩), .pointer (some ⟨bk, 0, none⟩), .pointer (some ⟨bl, 0, none⟩)]
theorem sh_waits (g : GW) (t : Nat) (cm : Cnf) (bp bk bl : Nat) (L : List Ent) (h : LineAt g t bl L) : Calls Tryz.prog 22 #[shelves cm bp bk bl] g.w (Gives (.int .i64 (Ent.wait L)) g.w) := by
  have H := Lib.hid (fun w' (he : Ext g.w w') => line_waits (g.to 9 w') t bl L (h.keep (Mod.ext (T := fun _ => False) he 9) id id))
  unfold shelves
  clear h
  go_enter Tryz.func22, Tryz.ntmps22
  go_wp2_with fail
  refine (H.out _ (by (repeat (first | (with_reducible (first | assumption | exact zR _ | exact zM _ _ _ _)) | apply zA | refine zS ?_ (by first | exact zL _ | exact zK _ _ | assumption) _ | apply zP | apply zD | apply zN)))).mono ?_
  rintro e w1 ⟨rfl, hX⟩
  have HE := Lib.hid ((show Ext g.w _ by (repeat (first | (with_reducible (first | assumption | exact zR _ | exact zM _ _ _ _)) | apply zA | refine zS ?_ (by first | exact zL _ | exact zK _ _ | assumption) _ | apply zP | apply zD | apply zN))).trans (show Ext _ w1 from hX))
  clear hX
  go_wp2_with fail
  go_ret
  exact Gives.int rfl HE.out
theorem sh_free (g : GW) (t : Nat) (cm : Cnf) (bp bk bl : Nat) (p : PoolS) (h : PoolAt g t bp p) : Calls Tryz.prog 24 #[shelves cm bp bk bl] g.w (Gives (.int .i64 p.free) g.w) := by
  have H := Lib.hid (fun w' (he : Ext g.w w') => pool_free (g.to 9 w') t bp p (h.keep (Mod.ext (T := fun _ => False) he 9) id))
  unfold shelves
  clear h
  go_enter Tryz.func24, Tryz.ntmps24
  go_wp2_with fail
  refine (H.out _ (by (repeat (first | (with_reducible (first | assumption | exact zR _ | exact zM _ _ _ _)) | apply zA | refine zS ?_ (by first | exact zL _ | exact zK _ _ | assumption) _ | apply zP | apply zD | apply zN)))).mono ?_
  rintro e w1 ⟨rfl, rfl⟩
  go_wp2_with fail
  go_ret
  exact Gives.int rfl (by simp only [GW.to]; (repeat (first | (with_reducible (first | assumption | exact zR _ | exact zM _ _ _ _)) | apply zA | refine zS ?_ (by first | exact zL _ | exact zK _ _ | assumption) _ | apply zP | apply zD | apply zN)))
theorem sh_coil (w : World) (cm : Cnf) (bp bk bl : Nat) : Calls Tryz.prog 11 #[shelves cm bp bk bl] w (Gives (.pointer (some ⟨bk, 0, none⟩)) w) := by
  unfold shelves
  go_enter Tryz.func11, Tryz.ntmps11
  go_wp2_with fail
  go_ret
  exact Gives.of_ext (by (repeat (first | (with_reducible (first | assumption | exact zR _ | exact zM _ _ _ _)) | apply zA | refine zS ?_ (by first | exact zL _ | exact zK _ _ | assumption) _ | apply zP | apply zD | apply zN)))

theorem space_set (s : Int) (sense : Bool) (Al : Option Addr) (cl : Nat) (l : List Int) {g : GW} {B b bt bp bk bl cs : Nat} {S : SpaceS} {A : Option Addr} {cm : Cnf} {bs : List Nat} (h : SpaceIn g B b bt S bp bk bl A cs cm bs) (hl : Seg g 0 Al (l.map (Value.int .i64))) (hB : 100 ≤ B) (hn : l.length ≤ 1000000) :
    Calls Tryz.prog 111 #[.pointer (some ⟨b, 0, none⟩), .slice Al l.length cl, .int .i64 s, .bool sense] g.w (Does (.tuple #[]) g (fun x => x = B + 50) (fun g' => SpaceIn g' B b bt { S with tab := S.tab.setAll l s sense } bp bk bl A cs cm bs)) := by
  have H := Lib.hid h
  have HL := Lib.hid hl
  clear h hl
  go_enter Tryz.func111, Tryz.ntmps111
  go_wp2_with fail
  go_loopw [12] (fun i wr => ∃ (k : Nat) (own : Nat → Nat), k ≤ l.length ∧ i = .int .i64 k ∧ Hid (Mod (fun x => x = B + 50) g ⟨own, wr⟩) ∧ Hid (TabAt ⟨own, wr⟩ (B + 50) bt (S.tab.setAll (l.take k) s sense))) (fun i _ => l.length - (intOf i).toNat)
  case atStart => exact ⟨0, g.own, Nat.zero_le _, rfl, Lib.hid (Mod.refl _ _), Lib.hid H.out.tab⟩
  case round =>
    obtain ⟨k, own, hk, rfl, M, T⟩ := hrel
    have H1 := Lib.hid (H.out.withTab M.out T.out)
    have c0 := H1.out.blk.cell (i := 0) rfl
    simp only at c0
    by_cases hlt : k < l.length
    · obtain ⟨q, o, hA, hq, hcell⟩ := words_at (HL.out.keep M.out (by omega)).cells hlt
      have k0 := hcell k hlt
      simp only at k0 hq
      have HS := Lib.hid (show S.tab.setAll (l.take (k + 1)) s sense = (S.tab.setAll (l.take k) s sense).set (l.getD k 0) s false sense by
        unfold TabS.setAll
        rw [List.take_add_one, List.getElem?_eq_getElem hlt, List.getD_eq_getElem?_getD, List.getElem?_eq_getElem hlt, List.foldl_append]
        rfl)
      generalize l.getD k 0 = x at *
      subst hA
      clear hcell
      go_wp2_with fail
      refine (tab_set ⟨own, wr⟩ (B + 50) bt x s false sense _ T.out).mono ?_
      rintro e w1 ⟨rfl, own1, m1, t1⟩
      have M1 := Lib.hid (Mod.trans M.out m1)
      have T1 := Lib.hid t1
      clear m1 t1
      go_wp2_with fail
      go_roundw
      case rel => exact ⟨k + 1, own1, by omega, by go_num, M1, by rw [HS.out]; exact T1⟩
      case measure => simp [intOf]; omega
    · obtain rfl : k = l.length := by omega
      have HS := Lib.hid (show l.take l.length = l from List.take_of_length_le (Nat.le_refl _))
      go_wp2_with fail
      refine bodyPost_end (results_none rfl _ _ _) rfl (Does.of ⟨own, _⟩ rfl rfl M.out ?_)
      rw [HS.out] at H1
      exact H1.out
theorem space_frees (i : Int) {g : GW} {B b bt bp bk bl cs : Nat} {S : SpaceS} {A : Option Addr} {cm : Cnf} {bs : List Nat} (h : SpaceIn g B b bt S bp bk bl A cs cm bs) (hB : 100 ≤ B) :
    Calls Tryz.prog 141 #[.pointer (some ⟨b, 0, none⟩), .int .i64 i] g.w (Does (.tuple #[]) g (fun x => x = B + 50 ∨ x = B + 1) (fun g' => SpaceIn g' B b bt { S with tab := S.tab.set i 0 false false, pool := S.pool.give i } bp bk bl A cs cm bs)) := by
  have c0 := h.blk.cell (i := 0) rfl
  have H := Lib.hid h
  clear h
  go_enter Tryz.func141, Tryz.ntmps141
  go_wp2_with fail
  refine (tab_set g (B + 50) bt i 0 false false _ H.out.tab).mono ?_
  rintro e w1 ⟨rfl, own1, m1, t1⟩
  have M1 := Lib.hid m1
  have H1 := Lib.hid (H.out.withTab m1 t1)
  have c13 := H1.out.blk.cell (i := 13) rfl
  simp only at c13
  clear m1 t1 c0
  go_wp2_with fail
  refine (pool_give ⟨own1, w1⟩ (B + 1) bp i _ H1.out.pool).mono ?_
  rintro e w2 ⟨rfl, own2, m2, t2⟩
  have M2 := Lib.hid m2
  have H2 := Lib.hid (H1.out.withPool m2 t2)
  clear m2 t2 c13
  go_wp2_with fail
  refine bodyPost_end (results_none rfl _ _ _) rfl (Does.of ⟨own2, _⟩ rfl rfl ((M1.out.mono (fun x hx => Or.inl hx)).trans (M2.out.mono (fun x hx => Or.inr hx))) H2.out)
end Go.Proofs.YtcpeoflomdhidaaGreat

