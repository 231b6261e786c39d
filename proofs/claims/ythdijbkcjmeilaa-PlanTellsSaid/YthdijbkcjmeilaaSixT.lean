/-
  sporef1.Of, sporef6: spot, wrong, twice, put; sporef.Has.
-/
import Derived.Test.YthdijbkcjmeilaaSixS
import Derived.Test.YthdijbkcjmeilaaAreaOf
import Derived.Test.YthdijbkcjmeilaaWhole
import Derived.Test.YthdijbkcjmeilaaCut
namespace Go.Proofs.Ythdijbkcjmeilaa
open Go Go.RowKit
set_option linter.unusedVariables false
set_option linter.unnecessarySimpa false
set_option linter.unusedSimpArgs false
set_option maxHeartbeats 4000000
theorem rof_any (c : Cnf) (a : Int) (w : World) (hc : c.Ok w) : Calls Try.prog 83 #[c.val, .int .i64 a] w (Gives (tri (cOf c a)) w) := by
  have HW := Lib.hid (fun w' (he : Ext w w') => rwords_any c w' (hc.ext he))
  unfold Cnf.val at HW ⊢
  unfold tri
  clear hc
  by_cases hn : a < 0
  · have HV := Lib.hid (show cOf c a = (0, 0, 0) by unfold cOf; rw [if_pos (Or.inl hn)])
    go_enter Try.func83, Try.ntmps83
    go_wp2_with fail
    go_ret3
    rw [HV.out]
    exact Gives.mk rfl (by (repeat (first | (with_reducible assumption) | (with_reducible exact Ext.refl _) | (with_reducible exact Ext.more _ _ _ _) | apply Ext.alloc | refine Ext.setCell ?_ (by first | exact Nat.le_refl _ | exact Nat.le_add_right _ _ | assumption) _ | apply Ext.patch | apply Ext.drew | apply Ext.drewN)))
  by_cases hck : c.check = 0
  case neg =>
    have HV := Lib.hid (show cOf c a = (0, 0, 0) by unfold cOf; rw [if_pos (Or.inr hck)])
    rw [show cWords c = 0 by unfold cWords; rw [if_neg hck]] at HW
    go_enter Try.func83, Try.ntmps83
    go_wp2_with fail
    refine (HW.out _ (by (repeat (first | (with_reducible assumption) | (with_reducible exact Ext.refl _) | (with_reducible exact Ext.more _ _ _ _) | apply Ext.alloc | refine Ext.setCell ?_ (by first | exact Nat.le_refl _ | exact Nat.le_add_right _ _ | assumption) _ | apply Ext.patch | apply Ext.drew | apply Ext.drewN)))).mono ?_
    rintro e w1 ⟨rfl, X1, rfl⟩
    go_wp2_with fail
    go_ret3
    rw [HV.out]
    exact Gives.mk rfl (by (repeat (first | (with_reducible assumption) | (with_reducible exact Ext.refl _) | (with_reducible exact Ext.more _ _ _ _) | apply Ext.alloc | refine Ext.setCell ?_ (by first | exact Nat.le_refl _ | exact Nat.le_add_right _ _ | assumption) _ | apply Ext.patch | apply Ext.drew | apply Ext.drewN)))
  obtain ⟨⟨r0, r1⟩, ⟨r2, r3⟩, ⟨r4, r5⟩, -⟩ := Cnf.ranged (Cnf.check_zero hck).1
  have hcw : cWords c = 8 * c.frags + 2 * c.spine + c.globals := by unfold cWords; rw [if_pos hck]; omega
  rw [hcw] at HW
  clear hcw
  by_cases h4 : 8 * c.frags + 2 * c.spine + c.globals ≤ a
  · have HV := Lib.hid (show cOf c a = (0, 0, 0) by unfold cOf; rw [if_neg (by omega), if_neg (by omega), if_neg (by omega), if_neg (by omega), if_neg (by omega)])
    clear hck
    go_enter Try.func83, Try.ntmps83
    go_wp2_with fail
    refine (HW.out _ (by (repeat (first | (with_reducible assumption) | (with_reducible exact Ext.refl _) | (with_reducible exact Ext.more _ _ _ _) | apply Ext.alloc | refine Ext.setCell ?_ (by first | exact Nat.le_refl _ | exact Nat.le_add_right _ _ | assumption) _ | apply Ext.patch | apply Ext.drew | apply Ext.drewN)))).mono ?_
    rintro e w1 ⟨rfl, X1, rfl⟩
    go_wp2_with fail
    go_ret3
    rw [HV.out]
    exact Gives.mk rfl (by (repeat (first | (with_reducible assumption) | (with_reducible exact Ext.refl _) | (with_reducible exact Ext.more _ _ _ _) | apply Ext.alloc | refine Ext.setCell ?_ (by first | exact Nat.le_refl _ | exact Nat.le_add_right _ _ | assumption) _ | apply Ext.patch | apply Ext.drew | apply Ext.drewN)))
  have hd4 : decide (8 * c.frags + 2 * c.spine + c.globals ≤ a) = false := decide_eq_false h4
  have e1 := IntWalk.i64_in (8 * c.frags) (by omega)
  have e2 := IntWalk.i64_in (8 * c.frags + c.spine) (by omega)
  have e3 := IntWalk.i64_in (2 * c.spine) (by omega)
  have e4 := IntWalk.i64_in (8 * c.frags + 2 * c.spine) (by omega)
  by_cases h1 : a < 8 * c.frags
  · have HV := Lib.hid (show cOf c a = (1, a / 8, a % 8) by unfold cOf; rw [if_neg (by omega), if_pos (by omega)])
    have hd1 : decide (a < 8 * c.frags) = true := decide_eq_true h1
    clear hck
    go_enter Try.func83, Try.ntmps83
    go_wp2_with fail
    refine (HW.out _ (by (repeat (first | (with_reducible assumption) | (with_reducible exact Ext.refl _) | (with_reducible exact Ext.more _ _ _ _) | apply Ext.alloc | refine Ext.setCell ?_ (by first | exact Nat.le_refl _ | exact Nat.le_add_right _ _ | assumption) _ | apply Ext.patch | apply Ext.drew | apply Ext.drewN)))).mono ?_
    rintro e w1 ⟨rfl, X1, rfl⟩
    go_wp2_with fail
    go_ret3
    rw [HV.out]
    exact Gives.mk (by first | rfl | (simp; omega)) (by (repeat (first | (with_reducible assumption) | (with_reducible exact Ext.refl _) | (with_reducible exact Ext.more _ _ _ _) | apply Ext.alloc | refine Ext.setCell ?_ (by first | exact Nat.le_refl _ | exact Nat.le_add_right _ _ | assumption) _ | apply Ext.patch | apply Ext.drew | apply Ext.drewN)))
  have hd1 : decide (a < 8 * c.frags) = false := decide_eq_false h1
  have e5 := IntWalk.i64_in (a - 8 * c.frags) (by omega)
  by_cases h2 : a < 8 * c.frags + c.spine
  · have HV := Lib.hid (show cOf c a = (2, 0, a - 8 * c.frags) by unfold cOf; rw [if_neg (by omega), if_neg (by omega), if_pos (by omega), show c.frags * 8 = 8 * c.frags by omega])
    have hd2 : decide (a < 8 * c.frags + c.spine) = true := decide_eq_true h2
    clear hck
    go_enter Try.func83, Try.ntmps83
    go_wp2_with fail
    refine (HW.out _ (by (repeat (first | (with_reducible assumption) | (with_reducible exact Ext.refl _) | (with_reducible exact Ext.more _ _ _ _) | apply Ext.alloc | refine Ext.setCell ?_ (by first | exact Nat.le_refl _ | exact Nat.le_add_right _ _ | assumption) _ | apply Ext.patch | apply Ext.drew | apply Ext.drewN)))).mono ?_
    rintro e w1 ⟨rfl, X1, rfl⟩
    go_wp2_with fail
    go_quiet (fail)
    go_wp2_with fail
    go_ret3
    rw [HV.out]
    exact Gives.mk rfl (by (repeat (first | (with_reducible assumption) | (with_reducible exact Ext.refl _) | (with_reducible exact Ext.more _ _ _ _) | apply Ext.alloc | refine Ext.setCell ?_ (by first | exact Nat.le_refl _ | exact Nat.le_add_right _ _ | assumption) _ | apply Ext.patch | apply Ext.drew | apply Ext.drewN)))
  have hd2 : decide (a < 8 * c.frags + c.spine) = false := decide_eq_false h2
  have e6 := IntWalk.i64_in (a - 8 * c.frags - c.spine) (by omega)
  have e7 := IntWalk.i64_in (a - 8 * c.frags - 2 * c.spine) (by omega)
  by_cases h3 : a < 8 * c.frags + 2 * c.spine
  · have HV := Lib.hid (show cOf c a = (3, 0, a - 8 * c.frags - c.spine) by unfold cOf; rw [if_neg (by omega), if_neg (by omega), if_neg (by omega), if_pos (by omega), show c.frags * 8 = 8 * c.frags by omega])
    have hd3 : decide (a < 8 * c.frags + 2 * c.spine) = true := decide_eq_true h3
    clear hck
    go_enter Try.func83, Try.ntmps83
    go_wp2_with fail
    refine (HW.out _ (by (repeat (first | (with_reducible assumption) | (with_reducible exact Ext.refl _) | (with_reducible exact Ext.more _ _ _ _) | apply Ext.alloc | refine Ext.setCell ?_ (by first | exact Nat.le_refl _ | exact Nat.le_add_right _ _ | assumption) _ | apply Ext.patch | apply Ext.drew | apply Ext.drewN)))).mono ?_
    rintro e w1 ⟨rfl, X1, rfl⟩
    go_wp2_with fail
    go_quiet (fail)
    go_wp2_with fail
    go_ret3
    rw [HV.out]
    exact Gives.mk rfl (by (repeat (first | (with_reducible assumption) | (with_reducible exact Ext.refl _) | (with_reducible exact Ext.more _ _ _ _) | apply Ext.alloc | refine Ext.setCell ?_ (by first | exact Nat.le_refl _ | exact Nat.le_add_right _ _ | assumption) _ | apply Ext.patch | apply Ext.drew | apply Ext.drewN)))
  have hd3 : decide (a < 8 * c.frags + 2 * c.spine) = false := decide_eq_false h3
  have HV := Lib.hid (show cOf c a = (4, 0, a - 8 * c.frags - 2 * c.spine) by unfold cOf; rw [if_neg (by omega), if_neg (by omega), if_neg (by omega), if_neg (by omega), if_pos (by omega), show a - c.frags * 8 - c.spine - c.spine = a - 8 * c.frags - 2 * c.spine by omega])
  clear hck
  go_enter Try.func83, Try.ntmps83
  go_wp2_with fail
  refine (HW.out _ (by (repeat (first | (with_reducible assumption) | (with_reducible exact Ext.refl _) | (with_reducible exact Ext.more _ _ _ _) | apply Ext.alloc | refine Ext.setCell ?_ (by first | exact Nat.le_refl _ | exact Nat.le_add_right _ _ | assumption) _ | apply Ext.patch | apply Ext.drew | apply Ext.drewN)))).mono ?_
  rintro e w1 ⟨rfl, X1, rfl⟩
  go_wp2_with fail
  go_quiet (fail)
  go_wp2_with fail
  go_ret3
  rw [HV.out]
  exact Gives.mk rfl (by (repeat (first | (with_reducible assumption) | (with_reducible exact Ext.refl _) | (with_reducible exact Ext.more _ _ _ _) | apply Ext.alloc | refine Ext.setCell ?_ (by first | exact Nat.le_refl _ | exact Nat.le_add_right _ _ | assumption) _ | apply Ext.patch | apply Ext.drew | apply Ext.drewN)))
theorem rspot_any (c : Cnf) (a n : Int) (w : World) (hc : c.Ok w) (hn : 0 ≤ n ∧ n ≤ 1000) :
    Calls Try.prog 56 #[c.val, .int .i64 a, .int .i64 n] w (Gives (.bool (beginsAt c a n)) w) := by
  have HO := Lib.hid (fun w' (he : Ext w w') => rof_any c a w' (hc.ext he))
  have hb := cOf_bd c a
  have HCB := Lib.hid (show (cOf c a).1 = 2 ∨ (cOf c a).1 = 3 → 0 ≤ c.spine ∧ c.spine ≤ 2048 from fun h => by
    by_cases hck : c.check = 0
    · obtain ⟨⟨_, _⟩, ⟨_, _⟩, -⟩ := Cnf.ranged (Cnf.check_zero hck).1
      omega
    · have hz : cOf c a = (0, 0, 0) := by unfold cOf; rw [if_pos (Or.inr hck)]
      rw [hz] at h
      rcases h with h | h <;> exact absurd h (by decide))
  have HV := Lib.hid (show beginsAt c a n = (((cOf c a).1 == 2 || (cOf c a).1 == 3) && decide ((cOf c a).2.2 + n ≤ c.spine)) from rfl)
  unfold tri at HO
  generalize cOf c a = p at *
  obtain ⟨r, i, k⟩ := p
  simp only at HO HV hb HCB
  unfold Cnf.val at HO ⊢
  clear hc
  by_cases h2 : r = 2
  · subst h2
    have hs := HCB.out (Or.inl rfl)
    have e1 := IntWalk.i64_in (c.spine - k) (by omega)
    have HD := Lib.hid (show decide (k + n ≤ c.spine) = decide (n ≤ c.spine - k) from decide_eq_decide.2 (by omega))
    clear hs
    go_enter Try.func56, Try.ntmps56
    go_wp2_with fail
    refine (HO.out _ (by (repeat (first | (with_reducible assumption) | (with_reducible exact Ext.refl _) | (with_reducible exact Ext.more _ _ _ _) | apply Ext.alloc | refine Ext.setCell ?_ (by first | exact Nat.le_refl _ | exact Nat.le_add_right _ _ | assumption) _ | apply Ext.patch | apply Ext.drew | apply Ext.drewN)))).mono ?_
    rintro e w1 ⟨rfl, X1, rfl⟩
    go_wp2_with fail
    go_ret
    exact Gives.bool (by rw [HV.out, HD.out]; simp) (by (repeat (first | (with_reducible assumption) | (with_reducible exact Ext.refl _) | (with_reducible exact Ext.more _ _ _ _) | apply Ext.alloc | refine Ext.setCell ?_ (by first | exact Nat.le_refl _ | exact Nat.le_add_right _ _ | assumption) _ | apply Ext.patch | apply Ext.drew | apply Ext.drewN)))
  · have hb2 : (r == 2) = false := by simp [h2]
    by_cases h3 : r = 3
    · subst h3
      have hs := HCB.out (Or.inr rfl)
      have e1 := IntWalk.i64_in (c.spine - k) (by omega)
      have HD := Lib.hid (show decide (k + n ≤ c.spine) = decide (n ≤ c.spine - k) from decide_eq_decide.2 (by omega))
      clear hs
      go_enter Try.func56, Try.ntmps56
      go_wp2_with fail
      refine (HO.out _ (by (repeat (first | (with_reducible assumption) | (with_reducible exact Ext.refl _) | (with_reducible exact Ext.more _ _ _ _) | apply Ext.alloc | refine Ext.setCell ?_ (by first | exact Nat.le_refl _ | exact Nat.le_add_right _ _ | assumption) _ | apply Ext.patch | apply Ext.drew | apply Ext.drewN)))).mono ?_
      rintro e w1 ⟨rfl, X1, rfl⟩
      go_wp2_with fail
      go_ret
      exact Gives.bool (by rw [HV.out, HD.out]; simp) (by (repeat (first | (with_reducible assumption) | (with_reducible exact Ext.refl _) | (with_reducible exact Ext.more _ _ _ _) | apply Ext.alloc | refine Ext.setCell ?_ (by first | exact Nat.le_refl _ | exact Nat.le_add_right _ _ | assumption) _ | apply Ext.patch | apply Ext.drew | apply Ext.drewN)))
    · have hb3 : (r == 3) = false := by simp [h3]
      go_enter Try.func56, Try.ntmps56
      go_wp2_with fail
      refine (HO.out _ (by (repeat (first | (with_reducible assumption) | (with_reducible exact Ext.refl _) | (with_reducible exact Ext.more _ _ _ _) | apply Ext.alloc | refine Ext.setCell ?_ (by first | exact Nat.le_refl _ | exact Nat.le_add_right _ _ | assumption) _ | apply Ext.patch | apply Ext.drew | apply Ext.drewN)))).mono ?_
      rintro e w1 ⟨rfl, X1, rfl⟩
      go_wp2_with fail
      go_ret
      exact Gives.bool (by rw [HV.out, hb2, hb3]; simp) (by (repeat (first | (with_reducible assumption) | (with_reducible exact Ext.refl _) | (with_reducible exact Ext.more _ _ _ _) | apply Ext.alloc | refine Ext.setCell ?_ (by first | exact Nat.le_refl _ | exact Nat.le_add_right _ _ | assumption) _ | apply Ext.patch | apply Ext.drew | apply Ext.drewN)))
def fragIn (c : Cnf) (i : Int) : Bool := decide (0 ≤ i ∧ i < c.frags)
theorem rwrong_any (c : Cnf) (A : Option Addr) (cap : Nat) (got : List Int) (w : World) (hg : CellsAt w A (got.map (Value.int .i64))) (hl : got.length ≤ 140737488355328) (hw : ∀ x ∈ got, -9223372036854775808 ≤ x ∧ x ≤ 9223372036854775807) :
    Calls Try.prog 39 #[c.val, .slice A got.length cap] w (Gives (.bool (!got.all (fragIn c))) w) := by
  unfold Cnf.val
  go_enter Try.func39, Try.ntmps39
  go_wp2_with fail
  go_loopw [5] (fun i wr => ∃ k : Nat, k ≤ got.length ∧ i = .int .i64 k ∧ (got.take k).all (fragIn c) = true ∧ Ext (w.alloc (.cells #[.int .i64 c.frags, .int .i64 c.spine, .int .i64 c.globals, .int .i64 c.threads, .int .i64 c.locals, .int .i64 c.cache, .int .i64 c.stack, .int .i64 c.low, .slice c.A c.shapes.length c.cap] 24)) wr) (fun i _ => got.length - (intOf i).toNat)
  case atStart => exact ⟨0, Nat.zero_le _, rfl, rfl, Ext.refl _⟩
  case round =>
    obtain ⟨k, hk, rfl, hs, X, rfl⟩ := hrel
    have HS := Lib.hid hs
    clear hs
    by_cases hlt : k < got.length
    · obtain ⟨b, o, rfl, hb, hcell⟩ := ints_at hg hlt
      have g0 := hcell k hlt
      have HT := Lib.hid (getD_take hlt)
      have HN := Lib.hid (show fragIn c (got.getD k 0) = false → got.all (fragIn c) = false from fun h => List.all_eq_false.2 ⟨got.getD k 0, getD_mem hlt, by rw [h]; decide⟩)
      clear hcell hg hw
      generalize got.getD k 0 = x at *
      by_cases hx : x < 0
      · have hd : decide (x < 0) = true := decide_eq_true hx
        have HF := Lib.hid (HN.out (decide_eq_false (by omega)))
        clear hx
        go_wp2_with fail
        go_quiet (fail)
        go_wp2_with fail
        go_ret
        exact Gives.bool (by rw [HF.out]; rfl) (by (repeat (first | (with_reducible assumption) | (with_reducible exact Ext.refl _) | (with_reducible exact Ext.more _ _ _ _) | apply Ext.alloc | refine Ext.setCell ?_ (by first | exact Nat.le_refl _ | exact Nat.le_add_right _ _ | assumption) _ | apply Ext.patch | apply Ext.drew | apply Ext.drewN)))
      · have hd : decide (x < 0) = false := decide_eq_false hx
        by_cases hy : c.frags ≤ x
        · have hd2 : decide (c.frags ≤ x) = true := decide_eq_true hy
          have HF := Lib.hid (HN.out (decide_eq_false (by omega)))
          clear hx hy
          go_wp2_with fail
          go_quiet (fail)
          go_wp2_with fail
          go_ret
          exact Gives.bool (by rw [HF.out]; rfl) (by (repeat (first | (with_reducible assumption) | (with_reducible exact Ext.refl _) | (with_reducible exact Ext.more _ _ _ _) | apply Ext.alloc | refine Ext.setCell ?_ (by first | exact Nat.le_refl _ | exact Nat.le_add_right _ _ | assumption) _ | apply Ext.patch | apply Ext.drew | apply Ext.drewN)))
        · have hd2 : decide (c.frags ≤ x) = false := decide_eq_false hy
          have HY := Lib.hid (show (got.take (k + 1)).all (fragIn c) = true by rw [HT.out, List.all_append, HS.out]; simp [fragIn]; omega)
          clear hx hy
          go_wp2_with fail
          go_quiet (fail)
          go_wp2_with fail
          go_roundw
          case rel => exact ⟨k + 1, by omega, by go_num, HY.out, by (repeat (first | (with_reducible assumption) | (with_reducible exact Ext.refl _) | (with_reducible exact Ext.more _ _ _ _) | apply Ext.alloc | refine Ext.setCell ?_ (by first | exact Nat.le_refl _ | exact Nat.le_add_right _ _ | assumption) _ | apply Ext.patch | apply Ext.drew | apply Ext.drewN))⟩
          case measure => simp [intOf]; omega
    · obtain rfl : k = got.length := by omega
      rw [List.take_of_length_le (Nat.le_refl _)] at HS
      go_wp2_with fail
      go_ret
      exact Gives.bool (by rw [HS.out]; rfl) (by (repeat (first | (with_reducible assumption) | (with_reducible exact Ext.refl _) | (with_reducible exact Ext.more _ _ _ _) | apply Ext.alloc | refine Ext.setCell ?_ (by first | exact Nat.le_refl _ | exact Nat.le_add_right _ _ | assumption) _ | apply Ext.patch | apply Ext.drew | apply Ext.drewN)))
theorem rhas_any (A : Option Addr) (cap : Nat) (l : List Int) (x : Int) (w : World) (hg : CellsAt w A (l.map (Value.int .i64))) (hl : l.length ≤ 140737488355328) :
    Calls Try.prog 79 #[.slice A l.length cap, .int .i64 x] w (Gives (.bool (decide (x ∈ l))) w) := by
  go_enter Try.func79, Try.ntmps79
  go_wp2_with fail
  go_loopw [5] (fun i wr => ∃ k : Nat, k ≤ l.length ∧ i = .int .i64 k ∧ (x ∉ l.take k) ∧ Ext w wr) (fun i _ => l.length - (intOf i).toNat)
  case atStart => exact ⟨0, Nat.zero_le _, rfl, by simp, Ext.refl _⟩
  case round =>
    obtain ⟨k, hk, rfl, hs, X, rfl⟩ := hrel
    have HS := Lib.hid hs
    clear hs
    by_cases hlt : k < l.length
    · obtain ⟨b, o, rfl, hb, hcell⟩ := ints_at hg hlt
      have g0 := hcell k hlt
      have HT := Lib.hid (getD_take hlt)
      have HM := Lib.hid (getD_mem hlt)
      clear hcell hg
      generalize l.getD k 0 = y at *
      cases hyx : (y == x)
      · have HY := Lib.hid (show x ∉ l.take (k + 1) by rw [HT.out]; simp only [List.mem_append, List.mem_singleton, not_or]; exact ⟨HS.out, fun h => by rw [beq_eq_false_iff_ne] at hyx; exact hyx h.symm⟩)
        go_wp2_with fail
        go_roundw
        case rel => exact ⟨k + 1, by omega, by go_num, HY.out, by (repeat (first | (with_reducible assumption) | (with_reducible exact Ext.refl _) | (with_reducible exact Ext.more _ _ _ _) | apply Ext.alloc | refine Ext.setCell ?_ (by first | exact Nat.le_refl _ | exact Nat.le_add_right _ _ | assumption) _ | apply Ext.patch | apply Ext.drew | apply Ext.drewN))⟩
        case measure => simp [intOf]; omega
      · have HF := Lib.hid (show decide (x ∈ l) = true from decide_eq_true (by rw [← beq_iff_eq.1 hyx]; exact HM.out))
        go_wp2_with fail
        go_ret
        exact Gives.bool (by rw [HF.out]) (by (repeat (first | (with_reducible assumption) | (with_reducible exact Ext.refl _) | (with_reducible exact Ext.more _ _ _ _) | apply Ext.alloc | refine Ext.setCell ?_ (by first | exact Nat.le_refl _ | exact Nat.le_add_right _ _ | assumption) _ | apply Ext.patch | apply Ext.drew | apply Ext.drewN)))
    · obtain rfl : k = l.length := by omega
      rw [List.take_of_length_le (Nat.le_refl _)] at HS
      have HF := Lib.hid (decide_eq_false HS.out)
      go_wp2_with fail
      go_ret
      exact Gives.bool (by rw [HF.out]) (by (repeat (first | (with_reducible assumption) | (with_reducible exact Ext.refl _) | (with_reducible exact Ext.more _ _ _ _) | apply Ext.alloc | refine Ext.setCell ?_ (by first | exact Nat.le_refl _ | exact Nat.le_add_right _ _ | assumption) _ | apply Ext.patch | apply Ext.drew | apply Ext.drewN)))
theorem rtwice_any (A : Option Addr) (cap : Nat) (l : List Int) (w : World) (hg : CellsAt w A (l.map (Value.int .i64))) (hl : l.length ≤ 140737488355328) (hcap : l.length ≤ cap) (hcm : cap ≤ 9223372036854775807) :
    Calls Try.prog 42 #[.slice A l.length cap] w (Gives (.bool (twiceIn l)) w) := by
  have HG := Lib.hid hg
  have HH := Lib.hid (fun (k : Nat) (hk : k ≤ l.length) (x : Int) w' (he : Ext w w') => show Calls Try.prog 79 #[.slice A k cap, .int .i64 x] w' (Gives (.bool (decide (x ∈ l.take k))) w') from by
    have h := rhas_any A cap (l.take k) x w' (by rw [List.map_take]; exact (hg.take k).ext he) (by simp; omega)
    rw [List.length_take, Nat.min_eq_left hk] at h
    exact h)
  clear hg
  go_enter Try.func42, Try.ntmps42
  go_wp2_with fail
  go_loopw [3] (fun i wr => ∃ k : Nat, k ≤ l.length ∧ i = .int .i64 k ∧ (l.take k).Nodup ∧ Ext w wr) (fun i _ => l.length - (intOf i).toNat)
  case atStart => exact ⟨0, Nat.zero_le _, rfl, by simp, Ext.refl _⟩
  case round =>
    obtain ⟨k, hk, rfl, hs, hX⟩ := hrel
    obtain ⟨wx, rfl⟩ : ∃ wx : World, wx = wr := ⟨_, rfl⟩
    have HS := Lib.hid hs
    clear hs
    by_cases hlt : k < l.length
    · obtain ⟨b, o, rfl, hb, hcell⟩ := ints_at (HG.out.ext hX) hlt
      have g0 := hcell k hlt
      have HT := Lib.hid (getD_take hlt)
      have hkc : k ≤ cap := by omega
      have HN := Lib.hid (show (l.getD k 0) ∈ l.take k → twiceIn l = true from fun h => decide_eq_true fun hn => by
        have h2 := (List.take_sublist (k + 1) l).nodup hn
        rw [HT.out, List.nodup_append] at h2
        exact h2.2.2 _ h _ (List.mem_singleton.2 rfl) rfl)
      have HY := Lib.hid (show (l.getD k 0) ∉ l.take k → (l.take (k + 1)).Nodup from fun h => by
        rw [HT.out, List.nodup_append]
        exact ⟨HS.out, by simp, fun a ha b hb e => by rw [List.mem_singleton] at hb; subst hb; subst e; exact h ha⟩)
      have HX := Lib.hid (fun w' he => HH.out k (by omega) (l.getD k 0) w' he)
      clear hcell
      generalize l.getD k 0 = y at *
      by_cases hm : y ∈ l.take k
      · have HF := Lib.hid (HN.out hm)
        rw [decide_eq_true hm] at HX
        clear hm
        go_wp2_with fail
        refine wp_region_mixed [true, true, true, true, true, true, true, true] 0 8 (by kernel_rfl) (by kernel_rfl) (by kernel_rfl) ?_ (by decide) (by decide) (by decide) (by kernel_rfl) ?_
        · intro c a d v w h; cases d <;> exact h
        intro X00
        simp only [pickOps]
        repeat (go_big_quiet_step ((go_at_call 79; exact Calls.added (HX.out _ (by (repeat (first | (with_reducible assumption) | (with_reducible exact Ext.refl _) | (with_reducible exact Ext.more _ _ _ _) | apply Ext.alloc | refine Ext.setCell ?_ (by first | exact Nat.le_refl _ | exact Nat.le_add_right _ _ | assumption) _ | apply Ext.patch | apply Ext.drew | apply Ext.drewN)))))))
        refine wpQuiet_nil (fun X0 => ?_)
        clear X00
        refine wpAnyM_done (by kernel_rfl) (fun X0' => ?_) _
        (try go_simp)
        go_wp2_with fail
        go_ret
        exact Gives.bool (by rw [HF.out]) (by (repeat (first | (with_reducible assumption) | (with_reducible exact Ext.refl _) | (with_reducible exact Ext.more _ _ _ _) | apply Ext.alloc | refine Ext.setCell ?_ (by first | exact Nat.le_refl _ | exact Nat.le_add_right _ _ | assumption) _ | apply Ext.patch | apply Ext.drew | apply Ext.drewN)))
      · have HF := Lib.hid (HY.out hm)
        rw [decide_eq_false hm] at HX
        clear hm
        go_wp2_with fail
        refine wp_region_mixed [true, true, true, true, true, true, true, true] 0 8 (by kernel_rfl) (by kernel_rfl) (by kernel_rfl) ?_ (by decide) (by decide) (by decide) (by kernel_rfl) ?_
        · intro c a d v w h; cases d <;> exact h
        intro X00
        simp only [pickOps]
        repeat (go_big_quiet_step ((go_at_call 79; exact Calls.added (HX.out _ (by (repeat (first | (with_reducible assumption) | (with_reducible exact Ext.refl _) | (with_reducible exact Ext.more _ _ _ _) | apply Ext.alloc | refine Ext.setCell ?_ (by first | exact Nat.le_refl _ | exact Nat.le_add_right _ _ | assumption) _ | apply Ext.patch | apply Ext.drew | apply Ext.drewN)))))))
        refine wpQuiet_nil (fun X0 => ?_)
        clear X00
        refine wpAnyM_done (by kernel_rfl) (fun X0' => ?_) _
        (try go_simp)
        go_wp2_with fail
        go_roundw
        case rel => exact ⟨k + 1, by omega, by go_num, HF.out, by (repeat (first | (with_reducible assumption) | (with_reducible exact Ext.refl _) | (with_reducible exact Ext.more _ _ _ _) | apply Ext.alloc | refine Ext.setCell ?_ (by first | exact Nat.le_refl _ | exact Nat.le_add_right _ _ | assumption) _ | apply Ext.patch | apply Ext.drew | apply Ext.drewN))⟩
        case measure => simp [intOf]; omega
    · obtain rfl : k = l.length := by omega
      rw [List.take_of_length_le (Nat.le_refl _)] at HS
      have HF := Lib.hid (show twiceIn l = false from decide_eq_false (fun h => h HS.out))
      go_wp2_with fail
      go_ret
      exact Gives.bool (by rw [HF.out]) (by (repeat (first | (with_reducible assumption) | (with_reducible exact Ext.refl _) | (with_reducible exact Ext.more _ _ _ _) | apply Ext.alloc | refine Ext.setCell ?_ (by first | exact Nat.le_refl _ | exact Nat.le_add_right _ _ | assumption) _ | apply Ext.patch | apply Ext.drew | apply Ext.drewN)))
set_option maxRecDepth 20000 in
theorem rput_any (v : Value) (n : Nat) (xs : List Value) (i : Int) (f : Nat → Nat × Nat) (w w0 : World) (base : Nat) (hi1 : 0 ≤ i) (hi2 : i ≤ 1099511627776) (he : Ext w0 w) (hb0 : w0.heap.size ≤ base) (hbase : base ≤ w.heap.size) (hown : w.ownsRow base 48 2 v n xs) (hn : n ≤ 1000000) :
    Calls Try.prog 47 #[v, .int .i64 i, .agg (cxs f).toArray] w (WholeGot w0 base n xs i f w) := by
  obtain ⟨i0, hi0, hz0, hz1, hz2⟩ := info_parts infoWrite
  have HE := Lib.hid he
  have HO := Lib.hid hown
  clear hown he
  rw [show (cxs f).toArray = #[cx (f 0), cx (f 1), cx (f 2), cx (f 3), cx (f 4), cx (f 5), cx (f 6), cx (f 7)] from rfl]
  unfold cx
  go_enter Try.func47, Try.ntmps47
  go_wp2_with fail
  go_loopw [0, 7] (fun l j wr => ∃ k : Nat, k ≤ 8 ∧ j = .int .i64 k ∧ wr.ownsRow base 48 2 l (n + k) (xs ++ writes i f k) ∧ Ext w0 wr ∧ wr.heap[w.heap.size]? = some (.cells #[cx (f 0), cx (f 1), cx (f 2), cx (f 3), cx (f 4), cx (f 5), cx (f 6), cx (f 7)] 74) ∧ l.ownBlock ≠ some w.heap.size ∧ w.heap.size ≤ wr.heap.size) (fun _ i _ => 8 - (intOf i).toNat)
  case atStart => exact ⟨0, Nat.zero_le _, rfl, by simpa [writes] using own_ext HO.out (show Ext w _ by (repeat (first | (with_reducible assumption) | (with_reducible exact Ext.refl _) | (with_reducible exact Ext.more _ _ _ _) | apply Ext.alloc | refine Ext.setCell ?_ (by first | exact Nat.le_refl _ | exact Nat.le_add_right _ _ | assumption) _ | apply Ext.patch | apply Ext.drew | apply Ext.drewN))), HE.out.trans (by (repeat (first | (with_reducible assumption) | (with_reducible exact Ext.refl _) | (with_reducible exact Ext.more _ _ _ _) | apply Ext.alloc | refine Ext.setCell ?_ (by first | exact Nat.le_refl _ | exact Nat.le_add_right _ _ | assumption) _ | apply Ext.patch | apply Ext.drew | apply Ext.drewN))), World.row_alloc_new _, fun h => by have := (HO.out.lt _ h).2; omega, Ext.size (by (repeat (first | (with_reducible assumption) | (with_reducible exact Ext.refl _) | (with_reducible exact Ext.more _ _ _ _) | apply Ext.alloc | refine Ext.setCell ?_ (by first | exact Nat.le_refl _ | exact Nat.le_add_right _ _ | assumption) _ | apply Ext.patch | apply Ext.drew | apply Ext.drewN)))⟩
  case round =>
    obtain ⟨k, hk, rfl, hrow, hext, hbox, hdis, hsz⟩ := hrel
    have HR := Lib.hid hrow
    have HX := Lib.hid hext
    have HB := Lib.hid hbox
    have HD := Lib.hid hdis
    by_cases hlt : k < 8
    · have hbb : w.heap.size < wr.heap.size := (Array.getElem?_eq_some_iff.1 hbox).1
      have g0 : wr.cell? ⟨w.heap.size, k, none⟩ = some (.complex .f64 (f k).1 (f k).2) := by
        simp only [World.cell?, hbox]
        rcases (show k = 0 ∨ k = 1 ∨ k = 2 ∨ k = 3 ∨ k = 4 ∨ k = 5 ∨ k = 6 ∨ k = 7 by omega) with rfl | rfl | rfl | rfl | rfl | rfl | rfl | rfl <;> rfl
      have HS := Lib.hid hsz
      have HBA := Lib.hid (Nat.le_trans hbase hsz)
      have HW8 := Lib.hid (show writes i f (k + 1) = writes i f k ++ [.int .i64 (8 * i + k), .complex .f64 (f k).1 (f k).2] by rw [writes, show 8 * i + (k : Int) = i * 8 + k by omega]; rfl)
      clear hbase
      clear hrow hext hbox hdis hsz
      generalize w.heap.size = bb at *
      generalize f k = fk at g0 HW8
      have e1 := IntWalk.i64_in (8 * i) (by omega)
      have e2 := IntWalk.i64_in (8 * i + k) (by omega)
      go_wp2_with (at_builtin; refine wpList_append_own_at _ rfl (.tmp 12) (.tmp 21) 28 rfl base 48 i0 (.agg #[.int .i64 0, .complex .f64 0 0]) 2 24 Try.underlying28 hi0 hz0 hz1 hz2 rfl (by decide) _ (n + k) _ rfl (own_ext HR.out (show Ext wr _ by (repeat (first | (with_reducible assumption) | (with_reducible exact Ext.refl _) | (with_reducible exact Ext.more _ _ _ _) | apply Ext.alloc | refine Ext.setCell ?_ (by first | exact Nat.le_refl _ | exact Nat.le_add_right _ _ | assumption) _ | apply Ext.patch | apply Ext.drew | apply Ext.drewN)))) _ 1 1 [.int .i64 (8 * i + k), .complex .f64 fk.1 fk.2] rfl rfl (news_new _ _ _) (by intro u hu; simp at hu; rcases hu with rfl | rfl <;> rfl) (by unfold maxLen; omega) (by omega) (Nat.le_trans (HBA.out) (Ext.size (show Ext wr _ by (repeat (first | (with_reducible assumption) | (with_reducible exact Ext.refl _) | (with_reducible exact Ext.more _ _ _ _) | apply Ext.alloc | refine Ext.setCell ?_ (by first | exact Nat.le_refl _ | exact Nat.le_add_right _ _ | assumption) _ | apply Ext.patch | apply Ext.drew | apply Ext.drewN))))) ?_; intro v' w3 hown3 hgrow3 _ hblk3)
      obtain ⟨r1, r2, r3, r4⟩ := row_round HR.out HX.out HB.out HD.out hgrow3 (show Ext wr _ by (repeat (first | (with_reducible assumption) | (with_reducible exact Ext.refl _) | (with_reducible exact Ext.more _ _ _ _) | apply Ext.alloc | refine Ext.setCell ?_ (by first | exact Nat.le_refl _ | exact Nat.le_add_right _ _ | assumption) _ | apply Ext.patch | apply Ext.drew | apply Ext.drewN))) hb0 hblk3
      refine ⟨⟨k + 1, by omega, by go_num, ?_, r1, r2, r3, Nat.le_trans HS.out r4⟩, by simp [intOf]; omega⟩
      rw [HW8.out, ← List.append_assoc]
      exact hown3
    · obtain rfl : k = 8 := by omega
      go_wp2_with fail
      go_ret
      exact ⟨_, rfl, HR.out, HX.out, hsz⟩
end Go.Proofs.Ythdijbkcjmeilaa
