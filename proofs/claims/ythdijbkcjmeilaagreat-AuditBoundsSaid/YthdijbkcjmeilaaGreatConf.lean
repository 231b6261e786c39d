/-
  conf: which configurations may be.
-/
import Derived.Test.YthdijbkcjmeilaaGreatChecked
import Derived.Test.YthdijbkcjmeilaaGreatData
namespace Go.Proofs.YthdijbkcjmeilaaGreat
open Go Go.RowKit

theorem within_any (a b c : Int) (w : World) :
    Calls Tryz.prog 37 #[.int .i64 a, .int .i64 b, .int .i64 c] w (Gives (.bool (within a b c)) w) := by
  by_cases h : b ≤ a
  · go_enter Tryz.func37, Tryz.ntmps37
    go_wp2
    go_ret
    exact Gives.bool (by simp [within, h]) (.refl _)
  · go_enter Tryz.func37, Tryz.ntmps37
    go_wp2
    go_ret
    exact Gives.bool (by simp [within]; omega) (.refl _)

theorem may_any (s : Shp) (w : World) (hs : s.Ok w) : Calls Tryz.prog 40 #[s.val] w (Gives (.bool s.may) w) := by
  obtain ⟨arr, A, cap, refs⟩ := s
  have hl := hs.max
  simp only [Shp.val, Shp.may] at hl ⊢
  generalize refs.length = n at *
  clear hs
  by_cases h : n ≤ 40
  · cases arr
    · go_enter Tryz.func40, Tryz.ntmps40
      go_wp2
      go_ret
      exact Gives.bool (by simp [h]) (by (repeat (first | (with_reducible assumption) | (with_reducible exact Ext.refl _) | (with_reducible exact Ext.more _ _ _ _) | apply Ext.alloc | refine Ext.setCell ?_ (by first | exact Nat.le_refl _ | exact Nat.le_add_right _ _ | assumption) _ | apply Ext.patch | apply Ext.drew | apply Ext.drewN)))
    · go_enter Tryz.func40, Tryz.ntmps40
      go_wp2
      go_ret
      exact Gives.bool (by rw [show (1 : Int) = ((1 : Nat) : Int) from rfl, beq_cast]; simp [h]) (by (repeat (first | (with_reducible assumption) | (with_reducible exact Ext.refl _) | (with_reducible exact Ext.more _ _ _ _) | apply Ext.alloc | refine Ext.setCell ?_ (by first | exact Nat.le_refl _ | exact Nat.le_add_right _ _ | assumption) _ | apply Ext.patch | apply Ext.drew | apply Ext.drewN)))
  · go_enter Tryz.func40, Tryz.ntmps40
    go_wp2
    go_ret
    exact Gives.bool (by simp) (by (repeat (first | (with_reducible assumption) | (with_reducible exact Ext.refl _) | (with_reducible exact Ext.more _ _ _ _) | apply Ext.alloc | refine Ext.setCell ?_ (by first | exact Nat.le_refl _ | exact Nat.le_add_right _ _ | assumption) _ | apply Ext.patch | apply Ext.drew | apply Ext.drewN)))

theorem check1_any (s : Shp) (w : World) (hs : s.Ok w) : Calls Tryz.prog 39 #[s.val] w (Gives (.bool (!s.may)) w) := by
  unfold Shp.val
  go_enter Tryz.func39, Tryz.ntmps39
  go_wp2_with fail
  refine (may_any s _ (hs.ext (by (repeat (first | (with_reducible assumption) | (with_reducible exact Ext.refl _) | (with_reducible exact Ext.more _ _ _ _) | apply Ext.alloc | refine Ext.setCell ?_ (by first | exact Nat.le_refl _ | exact Nat.le_add_right _ _ | assumption) _ | apply Ext.patch | apply Ext.drew | apply Ext.drewN))))).mono ?_
  rintro e w1 ⟨rfl, X, rfl⟩
  go_wp2_with fail
  go_ret
  exact Gives.bool rfl (by (repeat (first | (with_reducible assumption) | (with_reducible exact Ext.refl _) | (with_reducible exact Ext.more _ _ _ _) | apply Ext.alloc | refine Ext.setCell ?_ (by first | exact Nat.le_refl _ | exact Nat.le_add_right _ _ | assumption) _ | apply Ext.patch | apply Ext.drew | apply Ext.drewN)))

theorem index_any (A : Option Addr) (cap : Nat) (l : List Shp) (w : World) (hc : CellsAt w A (l.flatMap Shp.cells)) (hs : ∀ s ∈ l, s.Ok w) (hl : l.length ≤ 140737488355328) :
    Calls Tryz.prog 98 #[.slice A l.length cap, .func (.func 39) #[] #[]] w
      (fun e w' => ∃ n : Int, e = .returned (.int .i64 n) ∧ decide (0 ≤ n) = badIn l ∧ ∃ X, w' = w.patch X) := by
  go_enter Tryz.func98, Tryz.ntmps98
  go_wp2_with fail
  go_loopw [8] (fun i wr => ∃ k : Nat, k ≤ l.length ∧ i = .int .i64 k ∧ (∀ s ∈ l.take k, s.may = true) ∧ Ext w wr) (fun i _ => l.length - (intOf i).toNat)
  case atStart => exact ⟨0, Nat.zero_le _, rfl, by simp, Ext.refl _⟩
  case round =>
    obtain ⟨k, hk, rfl, hm, X, rfl⟩ := hrel
    have HM := Lib.hid hm
    clear hm
    by_cases hlt : k < l.length
    · obtain ⟨b, o, rfl, hb, g0, g1⟩ := shapes_at hc hlt
      have hsk := hs l[k] (List.getElem_mem hlt)
      generalize hS : l[k] = s at *
      have HS := Lib.hid hS
      clear hS hc hs
      go_wp2_with fail
      refine (check1_any s _ (hsk.ext (by (repeat (first | (with_reducible assumption) | (with_reducible exact Ext.refl _) | (with_reducible exact Ext.more _ _ _ _) | apply Ext.alloc | refine Ext.setCell ?_ (by first | exact Nat.le_refl _ | exact Nat.le_add_right _ _ | assumption) _ | apply Ext.patch | apply Ext.drew | apply Ext.drewN))))).mono ?_
      rintro e w1 ⟨rfl, X1, rfl⟩
      have hk' : l[k]? = some s := by rw [List.getElem?_eq_getElem hlt, HS.out]
      cases hb : s.may
      · have HB := Lib.hid (badIn_yes hk' hb)
        have HK := Lib.hid hk'
        clear hk'
        go_wp2_with fail
        go_ret
        exact ⟨_, rfl, by rw [HB.out]; simp, by (repeat (first | (with_reducible assumption) | (with_reducible exact Ext.refl _) | (with_reducible exact Ext.more _ _ _ _) | apply Ext.alloc | refine Ext.setCell ?_ (by first | exact Nat.le_refl _ | exact Nat.le_add_right _ _ | assumption) _ | apply Ext.patch | apply Ext.drew | apply Ext.drewN))⟩
      · have HT := Lib.hid (take_all hk' HM.out hb)
        clear hk'
        go_wp2_with fail
        go_roundw
        case rel => exact ⟨k + 1, by omega, by go_num, HT.out, by (repeat (first | (with_reducible assumption) | (with_reducible exact Ext.refl _) | (with_reducible exact Ext.more _ _ _ _) | apply Ext.alloc | refine Ext.setCell ?_ (by first | exact Nat.le_refl _ | exact Nat.le_add_right _ _ | assumption) _ | apply Ext.patch | apply Ext.drew | apply Ext.drewN))⟩
        case measure => simp [intOf]; omega
    · have HB := Lib.hid (badIn_no (l := l) (by intro s hs; exact HM.out s (by rw [List.take_of_length_le (by omega)]; exact hs)))
      go_wp2_with fail
      go_ret
      exact ⟨_, rfl, by rw [HB.out]; simp, by (repeat (first | (with_reducible assumption) | (with_reducible exact Ext.refl _) | (with_reducible exact Ext.more _ _ _ _) | apply Ext.alloc | refine Ext.setCell ?_ (by first | exact Nat.le_refl _ | exact Nat.le_add_right _ _ | assumption) _ | apply Ext.patch | apply Ext.drew | apply Ext.drewN))⟩

theorem contains_any (A : Option Addr) (cap : Nat) (l : List Shp) (w : World) (hc : CellsAt w A (l.flatMap Shp.cells)) (hs : ∀ s ∈ l, s.Ok w) (hl : l.length ≤ 140737488355328) :
    Calls Tryz.prog 38 #[.slice A l.length cap, .func (.func 39) #[] #[]] w (Gives (.bool (badIn l)) w) := by
  go_enter Tryz.func38, Tryz.ntmps38
  go_wp2_with fail
  refine (index_any A cap l _ hc hs hl).mono ?_
  rintro e w1 ⟨n, rfl, hn, X, rfl⟩
  have HN := Lib.hid hn
  clear hn
  go_wp2_with fail
  go_ret
  exact Gives.bool HN.out (by (repeat (first | (with_reducible assumption) | (with_reducible exact Ext.refl _) | (with_reducible exact Ext.more _ _ _ _) | apply Ext.alloc | refine Ext.setCell ?_ (by first | exact Nat.le_refl _ | exact Nat.le_add_right _ _ | assumption) _ | apply Ext.patch | apply Ext.drew | apply Ext.drewN)))

set_option maxHeartbeats 3200000 in
theorem check_any (c : Cnf) (w : World) (hc : c.Ok w) : Calls Tryz.prog 7 #[c.val] w (Gives (.int .i64 c.check) w) := by
  unfold Cnf.val
  go_enter Tryz.func7, Tryz.ntmps7
  go_wp2_with fail
  refine wp_region_mixed [true, true, true, true, true, true, true, true, true, true, true, true, true, true, true, true, true, true, true, true, true, true, true, true, true, true, false, false, true] 2 29 (by kernel_rfl) (by kernel_rfl) (by kernel_rfl) ?_ (by decide) (by decide) (by decide) (by kernel_rfl) ?_
  · intro c a d v w h; cases d <;> exact h
  intro X00
  simp only [pickOps]
  repeat (go_big_quiet_step ((go_at_call 37; exact Calls.added (within_any _ _ _ _))))
  refine wpQuiet_nil (fun X0 => ?_)
  clear X00
  refine wpAnyM_one 26 _ (by kernel_rfl) rfl rfl (by decide) (fun X1 K Q' hK => ?_)
  go_simp
  refine hK _ _ ?_ ?_
  · (repeat (first | (with_reducible assumption) | (with_reducible exact Ext.refl _) | (with_reducible exact Ext.more _ _ _ _) | apply Ext.alloc | refine Ext.setCell ?_ (by first | exact Nat.le_refl _ | exact Nat.le_add_right _ _ | assumption) _ | apply Ext.patch | apply Ext.drew | apply Ext.drewN))
  clear hK K Q'
  refine wpAnyM_one 27 _ (by kernel_rfl) rfl rfl (by decide) (fun X1 K Q' hK => ?_)
  go_simp
  refine hK _ _ ?_ ?_
  · (repeat (first | (with_reducible assumption) | (with_reducible exact Ext.refl _) | (with_reducible exact Ext.more _ _ _ _) | apply Ext.alloc | refine Ext.setCell ?_ (by first | exact Nat.le_refl _ | exact Nat.le_add_right _ _ | assumption) _ | apply Ext.patch | apply Ext.drew | apply Ext.drewN))
  clear hK K Q'
  refine wpAnyM_done (by kernel_rfl) (fun X2 => ?_) _
  go_wp2_with fail
  go_loop [33] (fun i => ∃ k : Nat, k ≤ 8 ∧ i = .int .i64 k ∧ c.rangedTo k = true) (fun i => 8 - (intOf i).toNat)
  case atStart => exact ⟨0, by omega, rfl, rfl⟩
  case round =>
    obtain ⟨k, hk, rfl, hb⟩ := hrel
    have HB := Lib.hid hb
    clear hb
    by_cases hlt : k < 8
    · rcases (show k = 0 ∨ k = 1 ∨ k = 2 ∨ k = 3 ∨ k = 4 ∨ k = 5 ∨ k = 6 ∨ k = 7 by omega) with rfl | rfl | rfl | rfl | rfl | rfl | rfl | rfl
      · clear hk hlt
        go_wp2_with fail
        · have h : (!within c.frags 4 1024) = true := by assumption
          go_ret
          exact Gives.int (Eq.symm (Cnf.check_out (k := 0) (by simp only [Bool.not_eq_true'] at h; simp [Cnf.ranges, h]))) (by (repeat (first | (with_reducible assumption) | (with_reducible exact Ext.refl _) | (with_reducible exact Ext.more _ _ _ _) | apply Ext.alloc | refine Ext.setCell ?_ (by first | exact Nat.le_refl _ | exact Nat.le_add_right _ _ | assumption) _ | apply Ext.patch | apply Ext.drew | apply Ext.drewN)))
        · have h : (!within c.frags 4 1024) = false := by assumption
          have HN := Cnf.rangedTo_succ HB.out (k := 0) (b := true) (by simp only [Bool.not_eq_false'] at h; simp [Cnf.ranges, h]) rfl
          exact ⟨⟨_, _, _, ⟨1, by omega, rfl, HN⟩, rfl, rfl, rfl⟩, by simp [intOf]⟩
      · clear hk hlt
        go_wp2_with fail
        · have h : (!within c.spine 0 2048) = true := by assumption
          go_ret
          exact Gives.int (Eq.symm (Cnf.check_out (k := 1) (by simp only [Bool.not_eq_true'] at h; simp [Cnf.ranges, h]))) (by (repeat (first | (with_reducible assumption) | (with_reducible exact Ext.refl _) | (with_reducible exact Ext.more _ _ _ _) | apply Ext.alloc | refine Ext.setCell ?_ (by first | exact Nat.le_refl _ | exact Nat.le_add_right _ _ | assumption) _ | apply Ext.patch | apply Ext.drew | apply Ext.drewN)))
        · have h : (!within c.spine 0 2048) = false := by assumption
          have HN := Cnf.rangedTo_succ HB.out (k := 1) (b := true) (by simp only [Bool.not_eq_false'] at h; simp [Cnf.ranges, h]) rfl
          exact ⟨⟨_, _, _, ⟨2, by omega, rfl, HN⟩, rfl, rfl, rfl⟩, by simp [intOf]⟩
      · clear hk hlt
        go_wp2_with fail
        · have h : (!within c.globals 0 8) = true := by assumption
          go_ret
          exact Gives.int (Eq.symm (Cnf.check_out (k := 2) (by simp only [Bool.not_eq_true'] at h; simp [Cnf.ranges, h]))) (by (repeat (first | (with_reducible assumption) | (with_reducible exact Ext.refl _) | (with_reducible exact Ext.more _ _ _ _) | apply Ext.alloc | refine Ext.setCell ?_ (by first | exact Nat.le_refl _ | exact Nat.le_add_right _ _ | assumption) _ | apply Ext.patch | apply Ext.drew | apply Ext.drewN)))
        · have h : (!within c.globals 0 8) = false := by assumption
          have HN := Cnf.rangedTo_succ HB.out (k := 2) (b := true) (by simp only [Bool.not_eq_false'] at h; simp [Cnf.ranges, h]) rfl
          exact ⟨⟨_, _, _, ⟨3, by omega, rfl, HN⟩, rfl, rfl, rfl⟩, by simp [intOf]⟩
      · clear hk hlt
        go_wp2_with fail
        · have h : (!within c.threads 1 16) = true := by assumption
          go_ret
          exact Gives.int (Eq.symm (Cnf.check_out (k := 3) (by simp only [Bool.not_eq_true'] at h; simp [Cnf.ranges, h]))) (by (repeat (first | (with_reducible assumption) | (with_reducible exact Ext.refl _) | (with_reducible exact Ext.more _ _ _ _) | apply Ext.alloc | refine Ext.setCell ?_ (by first | exact Nat.le_refl _ | exact Nat.le_add_right _ _ | assumption) _ | apply Ext.patch | apply Ext.drew | apply Ext.drewN)))
        · have h : (!within c.threads 1 16) = false := by assumption
          have HN := Cnf.rangedTo_succ HB.out (k := 3) (b := true) (by simp only [Bool.not_eq_false'] at h; simp [Cnf.ranges, h]) rfl
          exact ⟨⟨_, _, _, ⟨4, by omega, rfl, HN⟩, rfl, rfl, rfl⟩, by simp [intOf]⟩
      · clear hk hlt
        go_wp2_with fail
        · have h : (!within c.locals 1 8) = true := by assumption
          go_ret
          exact Gives.int (Eq.symm (Cnf.check_out (k := 4) (by simp only [Bool.not_eq_true'] at h; simp [Cnf.ranges, h]))) (by (repeat (first | (with_reducible assumption) | (with_reducible exact Ext.refl _) | (with_reducible exact Ext.more _ _ _ _) | apply Ext.alloc | refine Ext.setCell ?_ (by first | exact Nat.le_refl _ | exact Nat.le_add_right _ _ | assumption) _ | apply Ext.patch | apply Ext.drew | apply Ext.drewN)))
        · have h : (!within c.locals 1 8) = false := by assumption
          have HN := Cnf.rangedTo_succ HB.out (k := 4) (b := true) (by simp only [Bool.not_eq_false'] at h; simp [Cnf.ranges, h]) rfl
          exact ⟨⟨_, _, _, ⟨5, by omega, rfl, HN⟩, rfl, rfl, rfl⟩, by simp [intOf]⟩
      · clear hk hlt
        go_wp2_with fail
        · have h : (!within c.cache 0 8) = true := by assumption
          go_ret
          exact Gives.int (Eq.symm (Cnf.check_out (k := 5) (by simp only [Bool.not_eq_true'] at h; simp [Cnf.ranges, h]))) (by (repeat (first | (with_reducible assumption) | (with_reducible exact Ext.refl _) | (with_reducible exact Ext.more _ _ _ _) | apply Ext.alloc | refine Ext.setCell ?_ (by first | exact Nat.le_refl _ | exact Nat.le_add_right _ _ | assumption) _ | apply Ext.patch | apply Ext.drew | apply Ext.drewN)))
        · have h : (!within c.cache 0 8) = false := by assumption
          have HN := Cnf.rangedTo_succ HB.out (k := 5) (b := true) (by simp only [Bool.not_eq_false'] at h; simp [Cnf.ranges, h]) rfl
          exact ⟨⟨_, _, _, ⟨6, by omega, rfl, HN⟩, rfl, rfl, rfl⟩, by simp [intOf]⟩
      · clear hk hlt
        go_wp2_with fail
        · have h : (!within c.stack 1 256) = true := by assumption
          go_ret
          exact Gives.int (Eq.symm (Cnf.check_out (k := 6) (by simp only [Bool.not_eq_true'] at h; simp [Cnf.ranges, h]))) (by (repeat (first | (with_reducible assumption) | (with_reducible exact Ext.refl _) | (with_reducible exact Ext.more _ _ _ _) | apply Ext.alloc | refine Ext.setCell ?_ (by first | exact Nat.le_refl _ | exact Nat.le_add_right _ _ | assumption) _ | apply Ext.patch | apply Ext.drew | apply Ext.drewN)))
        · have h : (!within c.stack 1 256) = false := by assumption
          have HN := Cnf.rangedTo_succ HB.out (k := 6) (b := true) (by simp only [Bool.not_eq_false'] at h; simp [Cnf.ranges, h]) rfl
          exact ⟨⟨_, _, _, ⟨7, by omega, rfl, HN⟩, rfl, rfl, rfl⟩, by simp [intOf]⟩
      · clear hk hlt
        go_wp2_with fail
        · have h : (!within c.low 0 c.frags) = true := by assumption
          go_ret
          exact Gives.int (Eq.symm (Cnf.check_out (k := 7) (by simp only [Bool.not_eq_true'] at h; simp [Cnf.ranges, h]))) (by (repeat (first | (with_reducible assumption) | (with_reducible exact Ext.refl _) | (with_reducible exact Ext.more _ _ _ _) | apply Ext.alloc | refine Ext.setCell ?_ (by first | exact Nat.le_refl _ | exact Nat.le_add_right _ _ | assumption) _ | apply Ext.patch | apply Ext.drew | apply Ext.drewN)))
        · have h : (!within c.low 0 c.frags) = false := by assumption
          have HN := Cnf.rangedTo_succ HB.out (k := 7) (b := true) (by simp only [Bool.not_eq_false'] at h; simp [Cnf.ranges, h]) rfl
          exact ⟨⟨_, _, _, ⟨8, by omega, rfl, HN⟩, rfl, rfl, rfl⟩, by simp [intOf]⟩
    · obtain rfl : k = 8 := by omega
      clear hk hlt
      obtain ⟨⟨_, _⟩, _, _, ⟨_, _⟩, _, ⟨_, _⟩, _, _⟩ := Cnf.ranged HB.out
      have hm1 : 0 ≤ c.threads * c.cache := Int.mul_nonneg (by omega) (by omega)
      have hm2 : c.threads * c.cache ≤ 16 * 8 := Int.mul_le_mul (by omega) (by omega) (by omega) (by omega)
      by_cases hp : c.threads * c.cache ≤ c.frags
      · cases hw : within c.shapes.length 1 8
        · have HC := Lib.hid (show c.check = 4 by simp [Cnf.check, HB.out, hp, hw])
          go_wp2_with fail
          refine (within_any _ _ _ _).mono ?_
          rw [hw]
          rintro e w1 ⟨rfl, X3, rfl⟩
          go_wp2_with fail
          go_ret
          exact Gives.int HC.out.symm (by (repeat (first | (with_reducible assumption) | (with_reducible exact Ext.refl _) | (with_reducible exact Ext.more _ _ _ _) | apply Ext.alloc | refine Ext.setCell ?_ (by first | exact Nat.le_refl _ | exact Nat.le_add_right _ _ | assumption) _ | apply Ext.patch | apply Ext.drew | apply Ext.drewN)))
        · have HC := Lib.hid (show c.check = if badIn c.shapes then 4 else 0 by simp only [Cnf.check, HB.out, hp, hw]; cases badIn c.shapes <;> simp)
          go_wp2_with fail
          refine (within_any _ _ _ _).mono ?_
          rw [hw]
          rintro e w1 ⟨rfl, X3, rfl⟩
          go_wp2_with fail
          refine (contains_any _ _ _ _ (hc.cells.ext (by (repeat (first | (with_reducible assumption) | (with_reducible exact Ext.refl _) | (with_reducible exact Ext.more _ _ _ _) | apply Ext.alloc | refine Ext.setCell ?_ (by first | exact Nat.le_refl _ | exact Nat.le_add_right _ _ | assumption) _ | apply Ext.patch | apply Ext.drew | apply Ext.drewN)))) (fun s hs => (hc.shapes s hs).ext (by (repeat (first | (with_reducible assumption) | (with_reducible exact Ext.refl _) | (with_reducible exact Ext.more _ _ _ _) | apply Ext.alloc | refine Ext.setCell ?_ (by first | exact Nat.le_refl _ | exact Nat.le_add_right _ _ | assumption) _ | apply Ext.patch | apply Ext.drew | apply Ext.drewN)))) hc.max).mono ?_
          rintro e w1 ⟨rfl, X4, rfl⟩
          cases hb : badIn c.shapes
          · rw [hb] at HC
            go_wp2_with fail
            go_ret
            exact Gives.int HC.out.symm (by (repeat (first | (with_reducible assumption) | (with_reducible exact Ext.refl _) | (with_reducible exact Ext.more _ _ _ _) | apply Ext.alloc | refine Ext.setCell ?_ (by first | exact Nat.le_refl _ | exact Nat.le_add_right _ _ | assumption) _ | apply Ext.patch | apply Ext.drew | apply Ext.drewN)))
          · rw [hb] at HC
            go_wp2_with fail
            go_ret
            exact Gives.int HC.out.symm (by (repeat (first | (with_reducible assumption) | (with_reducible exact Ext.refl _) | (with_reducible exact Ext.more _ _ _ _) | apply Ext.alloc | refine Ext.setCell ?_ (by first | exact Nat.le_refl _ | exact Nat.le_add_right _ _ | assumption) _ | apply Ext.patch | apply Ext.drew | apply Ext.drewN)))
      · have HC := Lib.hid (show c.check = 1 by simp [Cnf.check, hp])
        go_wp2_with fail
        go_ret
        exact Gives.int HC.out.symm (by (repeat (first | (with_reducible assumption) | (with_reducible exact Ext.refl _) | (with_reducible exact Ext.more _ _ _ _) | apply Ext.alloc | refine Ext.setCell ?_ (by first | exact Nat.le_refl _ | exact Nat.le_add_right _ _ | assumption) _ | apply Ext.patch | apply Ext.drew | apply Ext.drewN)))
end Go.Proofs.YthdijbkcjmeilaaGreat
