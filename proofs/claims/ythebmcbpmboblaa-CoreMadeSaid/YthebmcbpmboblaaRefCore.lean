/-
  Merged: XRefCore1, XRefCore2, XRefCore3, XRefCore4, XRefCore5, XRefCore6, XRefCore7, XRefCore8, XRefCore9.
-/
import Derived.Test.YthebmcbpmboblaaArea2
import Derived.Test.YthebmcbpmboblaaConf
import Derived.Test.YthebmcbpmboblaaGhost
import Derived.Test.YthebmcbpmboblaaSpaceB
import Derived.Test.YthebmcbpmboblaaMemO
import Derived.Test.YthebmcbpmboblaaPool2
import Derived.Test.YthebmcbpmboblaaPicks
import Derived.Deep.RegionWith
import Derived.Test.YthebmcbpmboblaaSpaceD
import Derived.Test.YthebmcbpmboblaaGlobalsP
/-
  sporef1: in, MayShape, Check, None, Words, Global. (Printed by gen_rcheck.py.)
-/
namespace Go.Proofs.Ythebmcbpmboblaa
open Go Go.RowKit
set_option linter.unusedVariables false
set_option linter.unnecessarySimpa false
set_option linter.unusedSimpArgs false
set_option maxHeartbeats 4000000
theorem rin_any (a b c : Int) (w : World) : Calls Try.prog 162 #[.int .i64 a, .int .i64 b, .int .i64 c] w (fun e w' => e = .returned (.bool (within a b c)) ∧ w = w') := by
  by_cases h : b ≤ a
  · have HV := Lib.hid (show within a b c = decide (a ≤ c) by simp [within, h])
    go_enter Try.func162, Try.ntmps162
    go_wp2_with fail
    go_ret
    exact ⟨by rw [HV.out]; try rfl, rfl⟩
  · have HV := Lib.hid (show within a b c = false by simp [within]; omega)
    go_enter Try.func162, Try.ntmps162
    go_wp2_with fail
    go_ret
    exact ⟨by rw [HV.out]; try rfl, rfl⟩
theorem rmay_any (s : Shp) (w : World) (hs : s.Ok w) : Calls Try.prog 163 #[s.val] w (Gives (.bool s.may) w) := by
  obtain ⟨arr, A, cap, refs⟩ := s
  have hl := hs.max
  simp only [Shp.val, Shp.may] at hl ⊢
  generalize refs.length = n at *
  clear hs
  cases arr
  · go_enter Try.func163, Try.ntmps163
    go_wp2_with fail
    go_ret
    exact Gives.bool (by simp; try omega) (by (repeat (first | (with_reducible assumption) | (with_reducible exact Ext.refl _) | (with_reducible exact Ext.more _ _ _ _) | apply Ext.alloc | refine Ext.setCell ?_ (by first | exact Nat.le_refl _ | exact Nat.le_add_right _ _ | assumption) _ | apply Ext.patch | apply Ext.drew | apply Ext.drewN)))
  · by_cases h : n = 1
    · subst h
      go_enter Try.func163, Try.ntmps163
      go_wp2_with fail
      go_ret
      exact Gives.bool (by simp) (by (repeat (first | (with_reducible assumption) | (with_reducible exact Ext.refl _) | (with_reducible exact Ext.more _ _ _ _) | apply Ext.alloc | refine Ext.setCell ?_ (by first | exact Nat.le_refl _ | exact Nat.le_add_right _ _ | assumption) _ | apply Ext.patch | apply Ext.drew | apply Ext.drewN)))
    · have hn : ((n : Int) == 1) = false := by rw [show (1 : Int) = ((1 : Nat) : Int) from rfl, beq_cast]; simpa using h
      go_enter Try.func163, Try.ntmps163
      go_wp2_with fail
      go_ret
      exact Gives.bool (by simp; omega) (by (repeat (first | (with_reducible assumption) | (with_reducible exact Ext.refl _) | (with_reducible exact Ext.more _ _ _ _) | apply Ext.alloc | refine Ext.setCell ?_ (by first | exact Nat.le_refl _ | exact Nat.le_add_right _ _ | assumption) _ | apply Ext.patch | apply Ext.drew | apply Ext.drewN)))
theorem rnone_any (w : World) : Calls Try.prog 89 #[] w (fun e w' => e = .returned (.complex .f64 0 4607182418800017408) ∧ w = w') := by
  go_enter Try.func89, Try.ntmps89
  go_wp2_with fail
  go_ret
  exact ⟨rfl, rfl⟩
set_option maxRecDepth 100000 in
theorem rcheck_any (c : Cnf) (w : World) (hc : c.Ok w) : Calls Try.prog 82 #[c.val] w (Gives (.int .i64 c.check) w) := by
  have HC := Lib.hid hc
  unfold Cnf.val
  clear hc
  cases h0 : within c.frags 4 1024
  · have HV := Lib.hid (Cnf.check_out (c := c) (k := 0) (by simp [Cnf.ranges, h0]))
    go_enter Try.func82, Try.ntmps82
    go_wp2_with fail
    refine (rin_any _ _ _ _).mono ?_
    rw [h0]
    rintro e w' ⟨rfl, rfl⟩
    go_wp2_with fail
    go_ret
    exact Gives.int (by rw [HV.out]) (by (repeat (first | (with_reducible assumption) | (with_reducible exact Ext.refl _) | (with_reducible exact Ext.more _ _ _ _) | apply Ext.alloc | refine Ext.setCell ?_ (by first | exact Nat.le_refl _ | exact Nat.le_add_right _ _ | assumption) _ | apply Ext.patch | apply Ext.drew | apply Ext.drewN)))
  cases h1 : within c.spine 0 2048
  · have HV := Lib.hid (Cnf.check_out (c := c) (k := 1) (by simp [Cnf.ranges, h1]))
    go_enter Try.func82, Try.ntmps82
    go_wp2_with fail
    refine (rin_any _ _ _ _).mono ?_
    rw [h0]
    rintro e w' ⟨rfl, rfl⟩
    go_wp2_with fail
    refine (rin_any _ _ _ _).mono ?_
    rw [h1]
    rintro e w' ⟨rfl, rfl⟩
    go_wp2_with fail
    go_ret
    exact Gives.int (by rw [HV.out]) (by (repeat (first | (with_reducible assumption) | (with_reducible exact Ext.refl _) | (with_reducible exact Ext.more _ _ _ _) | apply Ext.alloc | refine Ext.setCell ?_ (by first | exact Nat.le_refl _ | exact Nat.le_add_right _ _ | assumption) _ | apply Ext.patch | apply Ext.drew | apply Ext.drewN)))
  cases h2 : within c.globals 0 8
  · have HV := Lib.hid (Cnf.check_out (c := c) (k := 2) (by simp [Cnf.ranges, h2]))
    go_enter Try.func82, Try.ntmps82
    go_wp2_with fail
    refine (rin_any _ _ _ _).mono ?_
    rw [h0]
    rintro e w' ⟨rfl, rfl⟩
    go_wp2_with fail
    refine (rin_any _ _ _ _).mono ?_
    rw [h1]
    rintro e w' ⟨rfl, rfl⟩
    go_wp2_with fail
    refine (rin_any _ _ _ _).mono ?_
    rw [h2]
    rintro e w' ⟨rfl, rfl⟩
    go_wp2_with fail
    go_ret
    exact Gives.int (by rw [HV.out]) (by (repeat (first | (with_reducible assumption) | (with_reducible exact Ext.refl _) | (with_reducible exact Ext.more _ _ _ _) | apply Ext.alloc | refine Ext.setCell ?_ (by first | exact Nat.le_refl _ | exact Nat.le_add_right _ _ | assumption) _ | apply Ext.patch | apply Ext.drew | apply Ext.drewN)))
  cases h3 : within c.threads 1 16
  · have HV := Lib.hid (Cnf.check_out (c := c) (k := 3) (by simp [Cnf.ranges, h3]))
    go_enter Try.func82, Try.ntmps82
    go_wp2_with fail
    refine (rin_any _ _ _ _).mono ?_
    rw [h0]
    rintro e w' ⟨rfl, rfl⟩
    go_wp2_with fail
    refine (rin_any _ _ _ _).mono ?_
    rw [h1]
    rintro e w' ⟨rfl, rfl⟩
    go_wp2_with fail
    refine (rin_any _ _ _ _).mono ?_
    rw [h2]
    rintro e w' ⟨rfl, rfl⟩
    go_wp2_with fail
    refine (rin_any _ _ _ _).mono ?_
    rw [h3]
    rintro e w' ⟨rfl, rfl⟩
    go_wp2_with fail
    go_ret
    exact Gives.int (by rw [HV.out]) (by (repeat (first | (with_reducible assumption) | (with_reducible exact Ext.refl _) | (with_reducible exact Ext.more _ _ _ _) | apply Ext.alloc | refine Ext.setCell ?_ (by first | exact Nat.le_refl _ | exact Nat.le_add_right _ _ | assumption) _ | apply Ext.patch | apply Ext.drew | apply Ext.drewN)))
  cases h4 : within c.locals 1 8
  · have HV := Lib.hid (Cnf.check_out (c := c) (k := 4) (by simp [Cnf.ranges, h4]))
    go_enter Try.func82, Try.ntmps82
    go_wp2_with fail
    refine (rin_any _ _ _ _).mono ?_
    rw [h0]
    rintro e w' ⟨rfl, rfl⟩
    go_wp2_with fail
    refine (rin_any _ _ _ _).mono ?_
    rw [h1]
    rintro e w' ⟨rfl, rfl⟩
    go_wp2_with fail
    refine (rin_any _ _ _ _).mono ?_
    rw [h2]
    rintro e w' ⟨rfl, rfl⟩
    go_wp2_with fail
    refine (rin_any _ _ _ _).mono ?_
    rw [h3]
    rintro e w' ⟨rfl, rfl⟩
    go_wp2_with fail
    refine (rin_any _ _ _ _).mono ?_
    rw [h4]
    rintro e w' ⟨rfl, rfl⟩
    go_wp2_with fail
    go_ret
    exact Gives.int (by rw [HV.out]) (by (repeat (first | (with_reducible assumption) | (with_reducible exact Ext.refl _) | (with_reducible exact Ext.more _ _ _ _) | apply Ext.alloc | refine Ext.setCell ?_ (by first | exact Nat.le_refl _ | exact Nat.le_add_right _ _ | assumption) _ | apply Ext.patch | apply Ext.drew | apply Ext.drewN)))
  cases h5 : within c.cache 0 8
  · have HV := Lib.hid (Cnf.check_out (c := c) (k := 5) (by simp [Cnf.ranges, h5]))
    go_enter Try.func82, Try.ntmps82
    go_wp2_with fail
    refine (rin_any _ _ _ _).mono ?_
    rw [h0]
    rintro e w' ⟨rfl, rfl⟩
    go_wp2_with fail
    refine (rin_any _ _ _ _).mono ?_
    rw [h1]
    rintro e w' ⟨rfl, rfl⟩
    go_wp2_with fail
    refine (rin_any _ _ _ _).mono ?_
    rw [h2]
    rintro e w' ⟨rfl, rfl⟩
    go_wp2_with fail
    refine (rin_any _ _ _ _).mono ?_
    rw [h3]
    rintro e w' ⟨rfl, rfl⟩
    go_wp2_with fail
    refine (rin_any _ _ _ _).mono ?_
    rw [h4]
    rintro e w' ⟨rfl, rfl⟩
    go_wp2_with fail
    refine (rin_any _ _ _ _).mono ?_
    rw [h5]
    rintro e w' ⟨rfl, rfl⟩
    go_wp2_with fail
    go_ret
    exact Gives.int (by rw [HV.out]) (by (repeat (first | (with_reducible assumption) | (with_reducible exact Ext.refl _) | (with_reducible exact Ext.more _ _ _ _) | apply Ext.alloc | refine Ext.setCell ?_ (by first | exact Nat.le_refl _ | exact Nat.le_add_right _ _ | assumption) _ | apply Ext.patch | apply Ext.drew | apply Ext.drewN)))
  cases h6 : within c.stack 1 256
  · have HV := Lib.hid (Cnf.check_out (c := c) (k := 6) (by simp [Cnf.ranges, h6]))
    go_enter Try.func82, Try.ntmps82
    go_wp2_with fail
    refine (rin_any _ _ _ _).mono ?_
    rw [h0]
    rintro e w' ⟨rfl, rfl⟩
    go_wp2_with fail
    refine (rin_any _ _ _ _).mono ?_
    rw [h1]
    rintro e w' ⟨rfl, rfl⟩
    go_wp2_with fail
    refine (rin_any _ _ _ _).mono ?_
    rw [h2]
    rintro e w' ⟨rfl, rfl⟩
    go_wp2_with fail
    refine (rin_any _ _ _ _).mono ?_
    rw [h3]
    rintro e w' ⟨rfl, rfl⟩
    go_wp2_with fail
    refine (rin_any _ _ _ _).mono ?_
    rw [h4]
    rintro e w' ⟨rfl, rfl⟩
    go_wp2_with fail
    refine (rin_any _ _ _ _).mono ?_
    rw [h5]
    rintro e w' ⟨rfl, rfl⟩
    go_wp2_with fail
    refine (rin_any _ _ _ _).mono ?_
    rw [h6]
    rintro e w' ⟨rfl, rfl⟩
    go_wp2_with fail
    go_ret
    exact Gives.int (by rw [HV.out]) (by (repeat (first | (with_reducible assumption) | (with_reducible exact Ext.refl _) | (with_reducible exact Ext.more _ _ _ _) | apply Ext.alloc | refine Ext.setCell ?_ (by first | exact Nat.le_refl _ | exact Nat.le_add_right _ _ | assumption) _ | apply Ext.patch | apply Ext.drew | apply Ext.drewN)))
  cases h7 : within c.low 0 c.frags
  · have HV := Lib.hid (Cnf.check_out (c := c) (k := 7) (by simp [Cnf.ranges, h7]))
    go_enter Try.func82, Try.ntmps82
    go_wp2_with fail
    refine (rin_any _ _ _ _).mono ?_
    rw [h0]
    rintro e w' ⟨rfl, rfl⟩
    go_wp2_with fail
    refine (rin_any _ _ _ _).mono ?_
    rw [h1]
    rintro e w' ⟨rfl, rfl⟩
    go_wp2_with fail
    refine (rin_any _ _ _ _).mono ?_
    rw [h2]
    rintro e w' ⟨rfl, rfl⟩
    go_wp2_with fail
    refine (rin_any _ _ _ _).mono ?_
    rw [h3]
    rintro e w' ⟨rfl, rfl⟩
    go_wp2_with fail
    refine (rin_any _ _ _ _).mono ?_
    rw [h4]
    rintro e w' ⟨rfl, rfl⟩
    go_wp2_with fail
    refine (rin_any _ _ _ _).mono ?_
    rw [h5]
    rintro e w' ⟨rfl, rfl⟩
    go_wp2_with fail
    refine (rin_any _ _ _ _).mono ?_
    rw [h6]
    rintro e w' ⟨rfl, rfl⟩
    go_wp2_with fail
    refine (rin_any _ _ _ _).mono ?_
    rw [h7]
    rintro e w' ⟨rfl, rfl⟩
    go_wp2_with fail
    go_ret
    exact Gives.int (by rw [HV.out]) (by (repeat (first | (with_reducible assumption) | (with_reducible exact Ext.refl _) | (with_reducible exact Ext.more _ _ _ _) | apply Ext.alloc | refine Ext.setCell ?_ (by first | exact Nat.le_refl _ | exact Nat.le_add_right _ _ | assumption) _ | apply Ext.patch | apply Ext.drew | apply Ext.drewN)))
  have HRG := Lib.hid (show c.rangedTo 8 = true by simp [Cnf.rangedTo, Cnf.ranges, h0, h1, h2, h3, h4, h5, h6, h7])
  obtain ⟨⟨_, _⟩, _, _, ⟨_, _⟩, _, ⟨_, _⟩, _, _⟩ := Cnf.ranged HRG.out
  have hm1 : 0 ≤ c.threads * c.cache := Int.mul_nonneg (by omega) (by omega)
  have hm2 : c.threads * c.cache ≤ 16 * 8 := Int.mul_le_mul (by omega) (by omega) (by omega) (by omega)
  have hmax := HC.out.max
  by_cases hp : c.threads * c.cache ≤ c.frags
  case neg =>
    have HV := Lib.hid (show c.check = 1 by simp [Cnf.check, hp])
    go_enter Try.func82, Try.ntmps82
    go_wp2_with fail
    refine (rin_any _ _ _ _).mono ?_
    rw [h0]
    rintro e w' ⟨rfl, rfl⟩
    go_wp2_with fail
    refine (rin_any _ _ _ _).mono ?_
    rw [h1]
    rintro e w' ⟨rfl, rfl⟩
    go_wp2_with fail
    refine (rin_any _ _ _ _).mono ?_
    rw [h2]
    rintro e w' ⟨rfl, rfl⟩
    go_wp2_with fail
    refine (rin_any _ _ _ _).mono ?_
    rw [h3]
    rintro e w' ⟨rfl, rfl⟩
    go_wp2_with fail
    refine (rin_any _ _ _ _).mono ?_
    rw [h4]
    rintro e w' ⟨rfl, rfl⟩
    go_wp2_with fail
    refine (rin_any _ _ _ _).mono ?_
    rw [h5]
    rintro e w' ⟨rfl, rfl⟩
    go_wp2_with fail
    refine (rin_any _ _ _ _).mono ?_
    rw [h6]
    rintro e w' ⟨rfl, rfl⟩
    go_wp2_with fail
    refine (rin_any _ _ _ _).mono ?_
    rw [h7]
    rintro e w' ⟨rfl, rfl⟩
    go_wp2_with fail
    go_ret
    exact Gives.int (by rw [HV.out]) (by (repeat (first | (with_reducible assumption) | (with_reducible exact Ext.refl _) | (with_reducible exact Ext.more _ _ _ _) | apply Ext.alloc | refine Ext.setCell ?_ (by first | exact Nat.le_refl _ | exact Nat.le_add_right _ _ | assumption) _ | apply Ext.patch | apply Ext.drew | apply Ext.drewN)))
  case pos =>
    cases h8 : within c.shapes.length 1 8
    · have HV := Lib.hid (show c.check = 4 by simp [Cnf.check, HRG.out, hp, h8])
      go_enter Try.func82, Try.ntmps82
      go_wp2_with fail
      refine (rin_any _ _ _ _).mono ?_
      rw [h0]
      rintro e w' ⟨rfl, rfl⟩
      go_wp2_with fail
      refine (rin_any _ _ _ _).mono ?_
      rw [h1]
      rintro e w' ⟨rfl, rfl⟩
      go_wp2_with fail
      refine (rin_any _ _ _ _).mono ?_
      rw [h2]
      rintro e w' ⟨rfl, rfl⟩
      go_wp2_with fail
      refine (rin_any _ _ _ _).mono ?_
      rw [h3]
      rintro e w' ⟨rfl, rfl⟩
      go_wp2_with fail
      refine (rin_any _ _ _ _).mono ?_
      rw [h4]
      rintro e w' ⟨rfl, rfl⟩
      go_wp2_with fail
      refine (rin_any _ _ _ _).mono ?_
      rw [h5]
      rintro e w' ⟨rfl, rfl⟩
      go_wp2_with fail
      refine (rin_any _ _ _ _).mono ?_
      rw [h6]
      rintro e w' ⟨rfl, rfl⟩
      go_wp2_with fail
      refine (rin_any _ _ _ _).mono ?_
      rw [h7]
      rintro e w' ⟨rfl, rfl⟩
      go_wp2_with fail
      refine (rin_any _ _ _ _).mono ?_
      rw [h8]
      rintro e w' ⟨rfl, rfl⟩
      go_wp2_with fail
      go_ret
      exact Gives.int (by rw [HV.out]) (by (repeat (first | (with_reducible assumption) | (with_reducible exact Ext.refl _) | (with_reducible exact Ext.more _ _ _ _) | apply Ext.alloc | refine Ext.setCell ?_ (by first | exact Nat.le_refl _ | exact Nat.le_add_right _ _ | assumption) _ | apply Ext.patch | apply Ext.drew | apply Ext.drewN)))
    · have HV := Lib.hid (show c.check = if badIn c.shapes then 4 else 0 by simp only [Cnf.check, HRG.out, hp, h8]; cases badIn c.shapes <;> simp)
      go_enter Try.func82, Try.ntmps82
      go_wp2_with fail
      refine (rin_any _ _ _ _).mono ?_
      rw [h0]
      rintro e w' ⟨rfl, rfl⟩
      go_wp2_with fail
      refine (rin_any _ _ _ _).mono ?_
      rw [h1]
      rintro e w' ⟨rfl, rfl⟩
      go_wp2_with fail
      refine (rin_any _ _ _ _).mono ?_
      rw [h2]
      rintro e w' ⟨rfl, rfl⟩
      go_wp2_with fail
      refine (rin_any _ _ _ _).mono ?_
      rw [h3]
      rintro e w' ⟨rfl, rfl⟩
      go_wp2_with fail
      refine (rin_any _ _ _ _).mono ?_
      rw [h4]
      rintro e w' ⟨rfl, rfl⟩
      go_wp2_with fail
      refine (rin_any _ _ _ _).mono ?_
      rw [h5]
      rintro e w' ⟨rfl, rfl⟩
      go_wp2_with fail
      refine (rin_any _ _ _ _).mono ?_
      rw [h6]
      rintro e w' ⟨rfl, rfl⟩
      go_wp2_with fail
      refine (rin_any _ _ _ _).mono ?_
      rw [h7]
      rintro e w' ⟨rfl, rfl⟩
      go_wp2_with fail
      refine (rin_any _ _ _ _).mono ?_
      rw [h8]
      rintro e w' ⟨rfl, rfl⟩
      have hE0 := Lib.hid (show Ext w (w.alloc (.cells #[.int .i64 c.frags, .int .i64 c.spine, .int .i64 c.globals, .int .i64 c.threads, .int .i64 c.locals, .int .i64 c.cache, .int .i64 c.stack, .int .i64 c.low, .slice c.A c.shapes.length c.cap] 24)) by (repeat (first | (with_reducible assumption) | (with_reducible exact Ext.refl _) | (with_reducible exact Ext.more _ _ _ _) | apply Ext.alloc | refine Ext.setCell ?_ (by first | exact Nat.le_refl _ | exact Nat.le_add_right _ _ | assumption) _ | apply Ext.patch | apply Ext.drew | apply Ext.drewN)))
      have hbx := Blk.new ⟨fun _ => 0, w⟩ 9 24 [.int .i64 c.frags, .int .i64 c.spine, .int .i64 c.globals, .int .i64 c.threads, .int .i64 c.locals, .int .i64 c.cache, .int .i64 c.stack, .int .i64 c.low, .slice c.A c.shapes.length c.cap]
      have HBX := Lib.hid hbx
      clear hbx
      go_wp2_with fail
      generalize w.alloc (.cells #[.int .i64 c.frags, .int .i64 c.spine, .int .i64 c.globals, .int .i64 c.threads, .int .i64 c.locals, .int .i64 c.cache, .int .i64 c.stack, .int .i64 c.low, .slice c.A c.shapes.length c.cap] 24) = W at *
      go_loopw [3] (fun i wr => ∃ k : Nat, k ≤ c.shapes.length ∧ i = .int .i64 k ∧ Hid (∀ s ∈ c.shapes.take k, s.may = true) ∧ Hid (Ext W wr)) (fun i _ => c.shapes.length - (intOf i).toNat)
      case atStart => exact ⟨0, Nat.zero_le _, rfl, Lib.hid (by simp), Lib.hid (Ext.refl _)⟩
      case round =>
        obtain ⟨k, hk, rfl, HM, HE⟩ := hrel
        have b8 := (HE.out.cell (HBX.out.lt)).trans (HBX.out.cell (i := 8) rfl)
        have bl := Nat.lt_of_lt_of_le HBX.out.lt HE.out.size
        by_cases hlt : k < c.shapes.length
        · obtain ⟨b, o, hA, hb, g0, g1⟩ := shapes_at (HC.out.cells.ext (hE0.out.trans HE.out)) hlt
          have HSK := Lib.hid ((HC.out.shapes c.shapes[k] (List.getElem_mem hlt)).ext (hE0.out.trans HE.out))
          have hk' : c.shapes[k]? = some c.shapes[k] := List.getElem?_eq_getElem hlt
          generalize c.shapes[k] = s at *
          cases hb2 : s.may
          · have HB := Lib.hid (badIn_yes hk' hb2)
            have HB2 := Lib.hid hb2
            clear hk' hb2
            go_wp2_with fail
            refine (rmay_any s _ HSK.out).mono ?_
            rw [HB2.out]
            rintro e w1 ⟨rfl, hX⟩
            have hE1 : Ext wr w1 := hX
            have hE2 := HE.out
            have hE3 := hE0.out
            go_wp2_with fail
            go_ret
            exact Gives.int (by rw [HV.out, HB.out]; rfl) (hE3.trans (hE2.trans hE1))
          · have HT := Lib.hid (take_all hk' HM.out hb2)
            have HB2 := Lib.hid hb2
            clear hk' hb2
            go_wp2_with fail
            refine (rmay_any s _ HSK.out).mono ?_
            rw [HB2.out]
            rintro e w1 ⟨rfl, hX⟩
            have hE1 := Lib.hid (HE.out.trans (show Ext wr w1 from hX))
            clear hX
            go_wp2_with fail
            rw [← hA]
            go_roundw
            case rel => exact ⟨k + 1, by omega, by go_num, HT, hE1⟩
            case measure => simp [intOf]; omega
        · have HB := Lib.hid (badIn_no (l := c.shapes) (by intro s hs; exact HM.out s (by rw [List.take_of_length_le (by omega)]; exact hs)))
          have hE2 := HE.out
          have hE3 := hE0.out
          go_wp2_with fail
          go_ret
          exact Gives.int (by rw [HV.out, HB.out]; rfl) (hE3.trans hE2)
end Go.Proofs.Ythebmcbpmboblaa
/-
  sporef1: Words, Global; sporef6: NewCoil.
-/
namespace Go.Proofs.Ythebmcbpmboblaa
open Go Go.RowKit
set_option linter.unusedVariables false
set_option linter.unnecessarySimpa false
set_option linter.unusedSimpArgs false
set_option maxHeartbeats 4000000
theorem rwords_any (c : Cnf) (w : World) (hc : c.Ok w) : Calls Try.prog 84 #[c.val] w (Gives (.int .i64 (cWords c)) w) := by
  have HCK := Lib.hid (fun w' (he : Ext w w') => rcheck_any c w' (hc.ext he))
  unfold Cnf.val at HCK ⊢
  clear hc
  by_cases hck : c.check = 0
  · have hk1 : (c.check != 0) = false := by simp [hck]
    have HV := Lib.hid (show cWords c = 8 * c.frags + 2 * c.spine + c.globals by unfold cWords; rw [if_pos hck]; omega)
    obtain ⟨⟨r0, r1⟩, ⟨r2, r3⟩, ⟨r4, r5⟩, -⟩ := Cnf.ranged (Cnf.check_zero hck).1
    clear hck
    go_enter Try.func84, Try.ntmps84
    go_wp2_with fail
    refine (HCK.out _ (by (repeat (first | (with_reducible assumption) | (with_reducible exact Ext.refl _) | (with_reducible exact Ext.more _ _ _ _) | apply Ext.alloc | refine Ext.setCell ?_ (by first | exact Nat.le_refl _ | exact Nat.le_add_right _ _ | assumption) _ | apply Ext.patch | apply Ext.drew | apply Ext.drewN)))).mono ?_
    rintro e w1 ⟨rfl, X1, rfl⟩
    go_wp2_with fail
    go_ret
    exact Gives.int (by rw [HV.out]) (by (repeat (first | (with_reducible assumption) | (with_reducible exact Ext.refl _) | (with_reducible exact Ext.more _ _ _ _) | apply Ext.alloc | refine Ext.setCell ?_ (by first | exact Nat.le_refl _ | exact Nat.le_add_right _ _ | assumption) _ | apply Ext.patch | apply Ext.drew | apply Ext.drewN)))
  · have hk1 : (c.check != 0) = true := by simp [hck]
    have HV := Lib.hid (show cWords c = 0 by unfold cWords; rw [if_neg hck])
    clear hck
    go_enter Try.func84, Try.ntmps84
    go_wp2_with fail
    refine (HCK.out _ (by (repeat (first | (with_reducible assumption) | (with_reducible exact Ext.refl _) | (with_reducible exact Ext.more _ _ _ _) | apply Ext.alloc | refine Ext.setCell ?_ (by first | exact Nat.le_refl _ | exact Nat.le_add_right _ _ | assumption) _ | apply Ext.patch | apply Ext.drew | apply Ext.drewN)))).mono ?_
    rintro e w1 ⟨rfl, X1, rfl⟩
    go_wp2_with fail
    go_ret
    exact Gives.int (by rw [HV.out]; try rfl) (by (repeat (first | (with_reducible assumption) | (with_reducible exact Ext.refl _) | (with_reducible exact Ext.more _ _ _ _) | apply Ext.alloc | refine Ext.setCell ?_ (by first | exact Nat.le_refl _ | exact Nat.le_add_right _ _ | assumption) _ | apply Ext.patch | apply Ext.drew | apply Ext.drewN)))
/-- Where a global lies. -/
theorem rglobal_yes (c : Cnf) (k : Int) (w : World) (hc : c.Ok w) (hck : c.check = 0) (h0 : 0 ≤ k) (h1 : k < c.globals) : Calls Try.prog 88 #[c.val, .int .i64 k] w (Gives (.tuple #[.int .i64 (cAtV c 3 k), .int .i64 0]) w) := by
  have HCK := Lib.hid (fun w' (he : Ext w w') => (show Calls Try.prog 82 #[c.val] w' (Gives (.int .i64 0) w') from hck ▸ rcheck_any c w' (hc.ext he)))
  have HIN := Lib.hid (fun w' => (show Calls Try.prog 162 #[.int .i64 k, .int .i64 0, .int .i64 (c.globals - 1)] w' (fun e w1 => e = .returned (.bool true) ∧ w' = w1) from by
    have := rin_any k 0 (c.globals - 1) w'
    rw [show within k 0 (c.globals - 1) = true by simp [within]; omega] at this
    exact this))
  have HV := Lib.hid (show cAtV c 3 k = 8 * c.frags + 2 * c.spine + k by
    unfold cAtV cSize cAhead
    rw [if_pos hck, if_pos hck]
    show (if (0 : Int) ≤ k ∧ (k : Int) < c.globals then (k : Int) + (c.frags * 8 + (c.spine + (c.spine + 0))) else 0) = _
    rw [if_pos ⟨by omega, by omega⟩]
    omega)
  obtain ⟨⟨r0, r1⟩, ⟨r2, r3⟩, ⟨r4, r5⟩, -⟩ := Cnf.ranged (Cnf.check_zero hck).1
  unfold Cnf.val at HCK ⊢
  clear hc hck
  go_enter Try.func88, Try.ntmps88
  go_wp2_with fail
  refine (HCK.out _ (by (repeat (first | (with_reducible assumption) | (with_reducible exact Ext.refl _) | (with_reducible exact Ext.more _ _ _ _) | apply Ext.alloc | refine Ext.setCell ?_ (by first | exact Nat.le_refl _ | exact Nat.le_add_right _ _ | assumption) _ | apply Ext.patch | apply Ext.drew | apply Ext.drewN)))).mono ?_
  rintro e w1 ⟨rfl, X1, rfl⟩
  go_wp2_with fail
  refine (HIN.out _).mono ?_
  rintro e w' ⟨rfl, rfl⟩
  go_wp2_with fail
  go_ret2
  exact Gives.ii (by rw [HV.out]) rfl (by (repeat (first | (with_reducible assumption) | (with_reducible exact Ext.refl _) | (with_reducible exact Ext.more _ _ _ _) | apply Ext.alloc | refine Ext.setCell ?_ (by first | exact Nat.le_refl _ | exact Nat.le_add_right _ _ | assumption) _ | apply Ext.patch | apply Ext.drew | apply Ext.drewN)))
theorem rcoil_new (n : Int) (w : World) (h : 0 ≤ n ∧ n ≤ 2048) : Calls Try.prog 166 #[.int .i64 n] w (fun e w' => ∃ b, e = .returned (.tuple #[.pointer (some ⟨b, 0, none⟩), .int .i64 0]) ∧ Ext w w') := by
  obtain ⟨h0, h1⟩ := h
  go_enter Try.func166, Try.ntmps166
  go_wp2_with fail
  go_ret2
  exact ⟨_, rfl, by (repeat (first | (with_reducible assumption) | (with_reducible exact Ext.refl _) | (with_reducible exact Ext.more _ _ _ _) | apply Ext.alloc | refine Ext.setCell ?_ (by first | exact Nat.le_refl _ | exact Nat.le_add_right _ _ | assumption) _ | apply Ext.patch | apply Ext.drew | apply Ext.drewN))⟩
end Go.Proofs.Ythebmcbpmboblaa
/-
  sporef6: NewMem, NewPool.
-/
namespace Go.Proofs.Ythebmcbpmboblaa
open Go Go.RowKit
set_option linter.unusedVariables false
set_option linter.unnecessarySimpa false
set_option linter.unusedSimpArgs false
set_option maxHeartbeats 4000000
structure RMemAt (g : GW) (t b : Nat) (l : List (Nat × Nat)) : Prop where
  ex : ∃ A c, Blk g t b 51 [.slice A l.length c, .int .i64 0] ∧ Row g t 59 1 (.slice A l.length c) l.length (l.map cx)
  len : l.length ≤ 1048576
theorem RMemAt.keep {S : Nat → Prop} {g g' : GW} {t b : Nat} {l : List (Nat × Nat)} (h : RMemAt g t b l) (d : Mod S g g') (hs : ¬ S t) : RMemAt g' t b l := by
  obtain ⟨A, c, h1, h2⟩ := h.ex
  exact ⟨⟨A, c, h1.keep d hs, h2.keep d hs⟩, h.len⟩
theorem rmem_new (k : Nat) (t : Nat) (g : GW) (hk : k ≤ 1048576) : Calls Try.prog 83 #[.int .i64 k] g.w (fun e w' => ∃ own' b, e = .returned (.tuple #[.pointer (some ⟨b, 0, none⟩), .int .i64 0]) ∧ Mod (fun _ => False) g ⟨own', w'⟩ ∧ RMemAt ⟨own', w'⟩ t b (List.replicate k (0, 0))) := by
  obtain ⟨i0, hi, hz0, hz1, hz2⟩ := info_parts infoCx
  have hmk := run_made (P := Try.prog) 49 59 i0 _ 1 16 Try.underlying49 hi hz0 hz1 hz2 k (by omega) (by omega)
  simp only [Value.cells, made_one] at hmk
  have HK := Lib.hid hk
  have h0 : ¬ (k : Int) < 0 := by omega
  have h1 : ¬ (1048576 : Int) < k := by omega
  clear hk
  go_enter Try.func83, Try.ntmps83
  go_wp2_with fail
  go_ret2
  obtain ⟨q1, q2⟩ := two_blocks g.w (.cells (List.replicate k (Value.complex .f64 0 0)).toArray 59) (.cells #[.slice (some ⟨g.w.heap.size, 0, none⟩) k k, .int .i64 0] 51)
  refine ⟨_, _, rfl, Mod.ext (show Ext g.w _ by (repeat (first | (with_reducible assumption) | (with_reducible exact Ext.refl _) | (with_reducible exact Ext.more _ _ _ _) | apply Ext.alloc | refine Ext.setCell ?_ (by first | exact Nat.le_refl _ | exact Nat.le_add_right _ _ | assumption) _ | apply Ext.patch | apply Ext.drew | apply Ext.drewN))) t, ⟨⟨some ⟨g.w.heap.size, 0, none⟩, k, ?_, ?_⟩, by simpa using HK.out⟩⟩
  · simp only [List.length_replicate]
    exact Blk.made q2 (by omega)
  · simp only [List.length_replicate, List.map_replicate]
    exact Row.made q1 (Nat.le_refl _) (by simp) (by have := HK.out; omega)
end Go.Proofs.Ythebmcbpmboblaa
/-
  sporef6: NewPool.
-/
namespace Go.Proofs.Ythebmcbpmboblaa
open Go Go.RowKit
set_option linter.unusedVariables false
set_option linter.unnecessarySimpa false
set_option linter.unusedSimpArgs false
set_option maxHeartbeats 4000000
theorem rpool_new (k : Nat) (w : World) (hk : k ≤ 1024) : Calls Try.prog 165 #[.int .i64 k] w (fun e w' => ∃ b, e = .returned (.tuple #[.pointer (some ⟨b, 0, none⟩), .int .i64 0]) ∧ Ext w w') := by
  obtain ⟨i0, hi, hz0, hz1, hz2⟩ := info_parts infoBool
  have hmk := run_made (P := Try.prog) 73 4 i0 _ 1 1 Try.underlying73 hi hz0 hz1 hz2 k (by omega) (by omega)
  simp only [Value.cells, made_one] at hmk
  have HK := Lib.hid hk
  have h0 : ¬ (k : Int) < 0 := by omega
  have h1 : ¬ (1024 : Int) < k := by omega
  clear hk
  go_enter Try.func165, Try.ntmps165
  go_wp2_with fail
  obtain ⟨q1, q2⟩ := two_blocks w (.cells (List.replicate k (Value.bool false)).toArray 4) (.cells #[.slice (some ⟨w.heap.size, 0, none⟩) k k] 261)
  have HB := Lib.hid (Blk.made (g := ⟨fun _ => 0, w⟩) (t := 7) q2 (show w.heap.size ≤ w.heap.size + 1 by omega))
  have HR := Lib.hid (Row.made (g := ⟨fun _ => 0, w⟩) (t := 7) (n := k) (size := 1) q1 (Nat.le_refl _) (by simp) (by have := HK.out; omega))
  have HE := Lib.hid (Mod.ext (T := fun _ => False) (g := ⟨fun _ => 0, w⟩) (show Ext w ((w.alloc (.cells (List.replicate k (Value.bool false)).toArray 4)).alloc (.cells #[.slice (some ⟨w.heap.size, 0, none⟩) k k] 261)) by (repeat (first | (with_reducible assumption) | (with_reducible exact Ext.refl _) | (with_reducible exact Ext.more _ _ _ _) | apply Ext.alloc | refine Ext.setCell ?_ (by first | exact Nat.le_refl _ | exact Nat.le_add_right _ _ | assumption) _ | apply Ext.patch | apply Ext.drew | apply Ext.drewN))) 7)
  clear q1 q2
  have c0 := HB.out.cell (i := 0) rfl
  simp only [GW.to] at c0
  go_loopw [5] (fun i wr => ∃ (j : Nat) (own : Nat → Nat), j ≤ k ∧ i = .int .i64 j ∧ Hid (Mod (fun _ => False) ⟨fun _ => 0, w⟩ ⟨own, wr⟩) ∧ Hid (Blk ⟨own, wr⟩ 7 (w.heap.size + 1) 261 [.slice (some ⟨w.heap.size, 0, none⟩) k k]) ∧ Hid (Row ⟨own, wr⟩ 7 4 1 (.slice (some ⟨w.heap.size, 0, none⟩) k k) k ((List.replicate j true ++ List.replicate (k - j) false).map Value.bool))) (fun i _ => k - (intOf i).toNat)
  case atStart => exact ⟨0, _, Nat.zero_le _, rfl, HE, HB, Lib.hid (HR.out.weak rfl (by simp))⟩
  case round =>
    obtain ⟨j, own, hj, rfl, M, B, R⟩ := hrel
    have hk1024 : (k : Int) ≤ 1024 := by omega
    clear c0 HE HB HR
    have c0 := B.out.cell (i := 0) rfl
    simp only at c0
    by_cases hlt : j < k
    · obtain ⟨r, hr, hrl, ho, hcell, hfr⟩ := R.out.block (by omega)
      simp only [Option.some.injEq, Addr.mk.injEq, and_true] at hr
      obtain rfl := hr
      have k0 := hcell j (.bool false) (by rw [List.getElem?_map, List.getElem?_append_right (by simp), List.length_replicate, Nat.sub_self, List.getElem?_replicate, if_pos (by omega)]; rfl)
      have kf := hfr j
      simp only at k0 kf hrl
      clear hcell hfr ho
      go_wp2_with fail
      go_roundw
      case rel => exact ⟨j + 1, own, by omega, by go_num, Lib.hid (Mod.stn M.out (Nat.le_refl _)), Lib.hid (B.out.setOther j _ (by omega)), Lib.hid ((R.out.store j (.bool true)).weak rfl (by rw [← fill_step hlt, List.map_set]))⟩
      case measure => simp [intOf]; omega
    · obtain rfl : j = k := by omega
      go_wp2_with fail
      go_ret2
      exact ⟨_, rfl, M.out.toExt⟩
end Go.Proofs.Ythebmcbpmboblaa
/-
  sporef6: NewTable; sporef13: NewShade.
-/
namespace Go.Proofs.Ythebmcbpmboblaa
open Go Go.RowKit
set_option linter.unusedVariables false
set_option linter.unnecessarySimpa false
set_option linter.unusedSimpArgs false
set_option maxHeartbeats 4000000
theorem rtab_new (k : Nat) (w : World) (hk : k ≤ 1024) : Calls Try.prog 164 #[.int .i64 k] w (fun e w' => ∃ b v c, e = .returned (.tuple #[.pointer (some ⟨b, 0, none⟩), .int .i64 0]) ∧ Ext w w' ∧ w.heap.size ≤ b ∧ b < w'.heap.size ∧ w'.cell? ⟨b, 0, none⟩ = some (.slice v k c)) := by
  obtain ⟨i0, hi, hz0, hz1, hz2⟩ := info_parts infoBool
  obtain ⟨i1, gi, gz0, gz1, gz2⟩ := info_parts infoInt
  have hmk := run_made (P := Try.prog) 73 4 i0 _ 1 1 Try.underlying73 hi hz0 hz1 hz2 k (by omega) (by omega)
  have gmk := run_made (P := Try.prog) 72 3 i1 _ 1 8 Try.underlying72 gi gz0 gz1 gz2 k (by omega) (by omega)
  simp only [Value.cells, made_one] at hmk gmk
  have HK := Lib.hid hk
  have h0 : ¬ (k : Int) < 0 := by omega
  have h1 : ¬ (1024 : Int) < k := by omega
  clear hk
  go_enter Try.func164, Try.ntmps164
  go_wp2_with fail
  go_region_with (fail)
  all_goals
    go_wp2_with fail
    go_ret2
    first
      | ((refine ⟨_, some ⟨w.heap.size, 0, none⟩, k, rfl, by (repeat (first | (with_reducible assumption) | (with_reducible exact Ext.refl _) | (with_reducible exact Ext.more _ _ _ _) | (with_reducible apply Ext.alloc) | (with_reducible apply Ext.patch) | (with_reducible apply Ext.drew) | (with_reducible apply Ext.drewN) | (with_reducible refine Ext.setCell ?_ (by first | assumption | exact Nat.le_refl _ | exact Nat.le_add_right _ _) _))), ?_, ?_, ?_⟩) <;> (first | omega | (show _ < (w.heap.push _ |>.push _ |>.push _ |>.push _).size; simp only [Array.size_push]; omega) | (simp only [World.size_alloc]; omega) | (go_simp; done) | (simp; omega)))
      | ((refine ⟨_, some ⟨w.heap.size + 1, 0, none⟩, k, rfl, by (repeat (first | (with_reducible assumption) | (with_reducible exact Ext.refl _) | (with_reducible exact Ext.more _ _ _ _) | (with_reducible apply Ext.alloc) | (with_reducible apply Ext.patch) | (with_reducible apply Ext.drew) | (with_reducible apply Ext.drewN) | (with_reducible refine Ext.setCell ?_ (by first | assumption | exact Nat.le_refl _ | exact Nat.le_add_right _ _) _))), ?_, ?_, ?_⟩) <;> (first | omega | (show _ < (w.heap.push _ |>.push _ |>.push _ |>.push _).size; simp only [Array.size_push]; omega) | (simp only [World.size_alloc]; omega) | (go_simp; done) | (simp; omega)))
      | ((refine ⟨_, some ⟨w.heap.size + 1 + 1, 0, none⟩, k, rfl, by (repeat (first | (with_reducible assumption) | (with_reducible exact Ext.refl _) | (with_reducible exact Ext.more _ _ _ _) | (with_reducible apply Ext.alloc) | (with_reducible apply Ext.patch) | (with_reducible apply Ext.drew) | (with_reducible apply Ext.drewN) | (with_reducible refine Ext.setCell ?_ (by first | assumption | exact Nat.le_refl _ | exact Nat.le_add_right _ _) _))), ?_, ?_, ?_⟩) <;> (first | omega | (show _ < (w.heap.push _ |>.push _ |>.push _ |>.push _).size; simp only [Array.size_push]; omega) | (simp only [World.size_alloc]; omega) | (go_simp; done) | (simp; omega)))
end Go.Proofs.Ythebmcbpmboblaa
/-
  sporef13: NewShade.
-/
namespace Go.Proofs.Ythebmcbpmboblaa
open Go Go.RowKit
set_option linter.unusedVariables false
set_option linter.unnecessarySimpa false
set_option linter.unusedSimpArgs false
set_option maxHeartbeats 4000000
theorem rshade_new (k : Nat) (most : Int) (w : World) (hk : k ≤ 1024) (hm : 1 ≤ most ∧ most ≤ 256) : Calls Try.prog 85 #[.int .i64 k, .int .i64 most] w (fun e w' => ∃ b bt v c, e = .returned (.tuple #[.pointer (some ⟨b, 0, none⟩), .int .i64 0]) ∧ Ext w w' ∧ w.heap.size ≤ b ∧ b < w'.heap.size ∧ w'.cell? ⟨b, 0, none⟩ = some (.pointer (some ⟨bt, 0, none⟩)) ∧ bt < w'.heap.size ∧ w'.cell? ⟨bt, 0, none⟩ = some (.slice v k c)) := by
  have HT := Lib.hid (rtab_new k w hk)
  obtain ⟨h0, h1⟩ := hm
  clear hk
  go_enter Try.func85, Try.ntmps85
  go_wp2_with fail
  refine HT.out.mono ?_
  rintro e w1 ⟨bt, v, c, rfl, hE, hb0, hb1, hc⟩
  have HE := Lib.hid hE
  have HC := Lib.hid hc
  have HB := Lib.hid (And.intro hb0 hb1)
  clear hE hc hb0 hb1
  go_wp2_with fail
  go_ret2
  have q := World.row_alloc_new w1 (o := .cells #[.pointer (some ⟨bt, 0, none⟩), .int .i64 most, .slice none 0 0, .bool false, .int .i64 0] 146)
  have hX : Ext w1 (w1.alloc (.cells #[.pointer (some ⟨bt, 0, none⟩), .int .i64 most, .slice none 0 0, .bool false, .int .i64 0] 146)) := by (repeat (first | (with_reducible assumption) | (with_reducible exact Ext.refl _) | (with_reducible exact Ext.more _ _ _ _) | apply Ext.alloc | refine Ext.setCell ?_ (by first | exact Nat.le_refl _ | exact Nat.le_add_right _ _ | assumption) _ | apply Ext.patch | apply Ext.drew | apply Ext.drewN))
  exact ⟨w1.heap.size, bt, v, c, rfl, HE.out.trans hX, HE.out.size, by rw [World.size_alloc]; omega, row_cell (l := [.pointer (some ⟨bt, 0, none⟩), .int .i64 most, .slice none 0 0, .bool false, .int .i64 0]) q (i := 0) rfl, Nat.lt_of_lt_of_le HB.out.2 hX.size, (hX.cell HB.out.2).trans HC.out⟩
end Go.Proofs.Ythebmcbpmboblaa
/-
  sporef13: NewHand.
-/
namespace Go.Proofs.Ythebmcbpmboblaa
open Go Go.RowKit
set_option linter.unusedVariables false
set_option linter.unnecessarySimpa false
set_option linter.unusedSimpArgs false
set_option maxHeartbeats 4000000
set_option maxRecDepth 100000 in
theorem rhand_new (n : Nat) (w : World) (h : 1 ≤ n ∧ n ≤ 16) : Calls Try.prog 87 #[.int .i64 n] w (fun e w' => ∃ b, e = .returned (.tuple #[.pointer (some ⟨b, 0, none⟩), .int .i64 0]) ∧ Ext w w') := by
  obtain ⟨i0, hi, hz0, hz1, hz2⟩ := info_parts infoInt
  obtain ⟨h0, h1⟩ := h
  go_enter Try.func87, Try.ntmps87
  go_wp2_with fail
  obtain ⟨own1, m1, b1⟩ : ∃ own1, Mod (fun _ => False) ⟨fun _ => 0, w⟩ ⟨own1, w.alloc (.cells #[.int .i64 0, .bool false, .slice none 0 0, .int .i64 0] 237)⟩ ∧ Blk ⟨own1, w.alloc (.cells #[.int .i64 0, .bool false, .slice none 0 0, .int .i64 0] 237)⟩ 8 w.heap.size 237 [.int .i64 0, .bool false, .slice none 0 0, .int .i64 0] := ⟨_, Mod.ext (g := ⟨fun _ => 0, w⟩) (by (repeat (first | (with_reducible assumption) | (with_reducible exact Ext.refl _) | (with_reducible exact Ext.more _ _ _ _) | apply Ext.alloc | refine Ext.setCell ?_ (by first | exact Nat.le_refl _ | exact Nat.le_add_right _ _ | assumption) _ | apply Ext.patch | apply Ext.drew | apply Ext.drewN))) 8, Blk.new ⟨fun _ => 0, w⟩ 8 237 [.int .i64 0, .bool false, .slice none 0 0, .int .i64 0]⟩
  have M1 := Lib.hid m1
  have B1 := Lib.hid b1
  clear m1 b1
  go_loopw [5] (fun i wr => ∃ (k : Nat) (own : Nat → Nat) (A : Option Addr) (cs : Nat) (xs : List Value), k ≤ n ∧ i = .int .i64 k ∧ Hid (Mod (fun _ => False) ⟨fun _ => 0, w⟩ ⟨own, wr⟩) ∧ Hid (Blk ⟨own, wr⟩ 8 w.heap.size 237 [.int .i64 0, .bool false, .slice A k cs, .int .i64 0]) ∧ Hid (Row ⟨own, wr⟩ 8 3 1 (.slice A k cs) k xs) ∧ Hid (∀ y, (Value.slice A k cs).ownBlock = some y → w.heap.size ≤ y)) (fun i _ => n - (intOf i).toNat)
  case atStart => exact ⟨0, own1, none, 0, [], Nat.zero_le _, rfl, M1, B1, Lib.hid (Row.nil _ _ _ _), Lib.hid (fun y hy => by cases hy)⟩
  case round =>
    obtain ⟨k, own, A, cs, xs, hk, rfl, M, K1, R1, HNEW⟩ := hrel
    by_cases hlt : k < n
    · skip
      have a0 := K1.out.cell (i := 0) rfl
      have a1 := K1.out.cell (i := 1) rfl
      have a2 := K1.out.cell (i := 2) rfl
      have a3 := K1.out.cell (i := 3) rfl
      have af2 := K1.out.live 2
      have al := K1.out.lt
      (try simp only [GW.to] at a0 a1 a2 a3 af2 al)
      have hE1 := Lib.hid (show Ext wr (wr.alloc (.cells #[.int .i64 (-1)] 3)) by (repeat (first | (with_reducible assumption) | (with_reducible exact Ext.refl _) | (with_reducible exact Ext.more _ _ _ _) | apply Ext.alloc | refine Ext.setCell ?_ (by first | exact Nat.le_refl _ | exact Nat.le_add_right _ _ | assumption) _ | apply Ext.patch | apply Ext.drew | apply Ext.drewN)))
      have hlen := R1.out.len
      go_wp2_with (at_builtin; refine wpList_append_own_at _ rfl (.tmp 23) (.tmp 24) 72 rfl 0 3 i0 (.int .i64 0) 1 8 Try.underlying72 hi hz0 hz1 hz2 rfl (by decide) (.slice A k cs) k xs rfl (R1.out.row.alloc _) ⟨wr.heap.size, 0, none⟩ 1 1 [.int .i64 (-1)] rfl rfl (cell_one_new _ _ _) (by intro u hu; simp at hu; subst hu; rfl) (by unfold maxLen; omega) (by omega) (Nat.zero_le _) ?_; intro v2 w2 hown hgrow hnil hat; obtain ⟨A2, c2, rfl⟩ := own_form hown; obtain ⟨own2, n2, k2, r2, hnew2⟩ : ∃ own2, Mod (fun _ => False) ⟨fun _ => 0, w⟩ ⟨own2, w2⟩ ∧ Blk ⟨own2, w2⟩ 8 w.heap.size 237 [.int .i64 0, .bool false, .slice A k cs, .int .i64 0] ∧ Row ⟨own2, w2⟩ 8 3 1 (.slice A2 (k + 1) c2) (k + 1) (xs ++ [.int .i64 (-1)]) ∧ (∀ y, (Value.slice A2 (k + 1) c2).ownBlock = some y → w.heap.size ≤ y) := ⟨_, M.out.grownNew (t1 := 9) (t2 := 8) hE1.out hgrow HNEW.out, (K1.out.ext hE1.out 9).grown (t' := 8) hgrow (fun y hy => R1.out.ne_type K1.out (by decide) hy), ((R1.out.ext hE1.out 9).grown hown hat).weak rfl (by simp), fun y hy => by rcases hat with e | e; exact HNEW.out y (by rw [← e]; exact hy); (rw [e] at hy; injection hy with hy; rw [← hy]; exact Nat.le_trans M.out.size hE1.out.size)⟩; have N2 := Lib.hid n2; have K2 := Lib.hid k2; have R2 := Lib.hid r2; have HN2 := Lib.hid hnew2; have d1 := K2.out.cell (i := 2) rfl; have df1 := K2.out.live 2; have dl := K2.out.lt; simp only [GW.to] at d1 df1 dl; clear hown hgrow hnil hat n2 k2 r2 hnew2 a0 a1 a2 a3 af2 al)
      go_roundw
      case rel => exact ⟨k + 1, own2, A2, c2, xs ++ [.int .i64 (-1)], by omega, by go_num, Lib.hid (Mod.stn N2.out (Nat.le_refl _)), Lib.hid (K2.out.set 2 (.slice A2 (k + 1) c2)), Lib.hid (R2.out.setOther 2 (.slice A2 (k + 1) c2) (fun y hy => R2.out.ne_type K2.out (by decide) hy)), HN2⟩
      case measure => simp [intOf]; omega
    · obtain rfl : k = n := by omega
      go_wp2_with fail
      go_ret2
      exact ⟨_, rfl, M.out.toExt⟩
end Go.Proofs.Ythebmcbpmboblaa
/-
  sporef21: NewSpace.
-/
namespace Go
open Go.RowKit
/-- A block that was laid on the way. -/
theorem Blk.newIn {own1 : Nat → Nat} {w1 W w2 : World} (t : Nat) (T : TypeId) (vs : List Value) (h1 : Ext w1 W) (h2 : Ext (W.alloc (.cells vs.toArray T)) w2) :
    ∃ own2, Mod (fun _ => False) ⟨own1, w1⟩ ⟨own2, w2⟩ ∧ Blk ⟨own2, w2⟩ t W.heap.size T vs := by
  have m1 := Mod.ext (T := fun _ => False) (g := ⟨own1, w1⟩) h1 0
  have m2 := Mod.ext (T := fun _ => False) (g := (⟨own1, w1⟩ : GW).to 0 W) (show Ext W (W.alloc (.cells vs.toArray T)) from (Ext.refl _).alloc _) t
  have m3 := Mod.ext (T := fun _ => False) (g := ((⟨own1, w1⟩ : GW).to 0 W).to t (W.alloc (.cells vs.toArray T))) h2 0
  exact ⟨_, (m1.trans m2).trans m3, (Blk.new ((⟨own1, w1⟩ : GW).to 0 W) t T vs).keep m3 id⟩
end Go
namespace Go.Proofs.Ythebmcbpmboblaa
open Go Go.RowKit
set_option linter.unusedVariables false
set_option linter.unnecessarySimpa false
set_option linter.unusedSimpArgs false
set_option maxHeartbeats 4000000
def rsp (c : Cnf) (bt : Nat) (P K row : Value) : List Value := [.int .i64 c.frags, .int .i64 c.spine, .int .i64 c.globals, .int .i64 c.threads, .int .i64 c.locals, .int .i64 c.cache, .int .i64 c.stack, .int .i64 c.low, .slice c.A c.shapes.length c.cap, .pointer (some ⟨bt, 0, none⟩), P, row, .slice none 0 0, .slice none 0 0, K, .bool false, .int .i64 0]
set_option maxRecDepth 100000 in
theorem rspace_new (c : Cnf) (w : World) (bt k cc : Nat) (v : Option Addr) (hc : c.Ok w) (hck : c.check = 0) (hk : (k : Int) = c.frags) (hb : bt < w.heap.size) (hT : w.cell? ⟨bt, 0, none⟩ = some (.slice v k cc)) :
    Calls Try.prog 86 #[c.val, .pointer (some ⟨bt, 0, none⟩)] w (fun e w' => ∃ b, e = .returned (.tuple #[.pointer (some ⟨b, 0, none⟩), .int .i64 0]) ∧ Ext w w') := by
  have HCK := Lib.hid (fun w' (he : Ext w w') => (show Calls Try.prog 82 #[c.val] w' (Gives (.int .i64 0) w') from hck ▸ rcheck_any c w' (hc.ext he)))
  obtain ⟨⟨r0, r1⟩, ⟨r2, r3⟩, ⟨r4, r5⟩, ⟨r6, r7⟩, -, ⟨r8, r9⟩, ⟨r10, r11⟩, -⟩ := Cnf.ranged (Cnf.check_zero hck).1
  have HPL := Lib.hid (fun w => (show Calls Try.prog 165 #[.int .i64 c.frags] w _ from hk ▸ rpool_new k w (by omega)))
  have HKL := Lib.hid (fun w => rcoil_new c.spine w ⟨r2, r3⟩)
  have HT := Lib.hid (And.intro hb hT)
  have hfr : ((k : Int) != c.frags) = false := by simp [hk]
  obtain ⟨i0, hi, hz0, hz1, hz2⟩ := info_parts (show (Try.prog.info? 233).map (fun i => (i.zero, i.size, i.bytes)) = some (some (.pointer none), 1, 8) by kernel_rfl)
  unfold Cnf.val at HCK ⊢
  obtain ⟨own0, m0, b0⟩ : ∃ own0, Mod (fun _ => False) ⟨fun _ => 0, w⟩ ⟨own0, w.alloc (.cells #[.int .i64 c.frags, .int .i64 c.spine, .int .i64 c.globals, .int .i64 c.threads, .int .i64 c.locals, .int .i64 c.cache, .int .i64 c.stack, .int .i64 c.low, .slice c.A c.shapes.length c.cap] 24)⟩ ∧ Blk ⟨own0, w.alloc (.cells #[.int .i64 c.frags, .int .i64 c.spine, .int .i64 c.globals, .int .i64 c.threads, .int .i64 c.locals, .int .i64 c.cache, .int .i64 c.stack, .int .i64 c.low, .slice c.A c.shapes.length c.cap] 24)⟩ 9 w.heap.size 24 [.int .i64 c.frags, .int .i64 c.spine, .int .i64 c.globals, .int .i64 c.threads, .int .i64 c.locals, .int .i64 c.cache, .int .i64 c.stack, .int .i64 c.low, .slice c.A c.shapes.length c.cap] := ⟨_, Mod.ext (g := ⟨fun _ => 0, w⟩) (by (repeat (first | (with_reducible assumption) | (with_reducible exact Ext.refl _) | (with_reducible exact Ext.more _ _ _ _) | apply Ext.alloc | refine Ext.setCell ?_ (by first | exact Nat.le_refl _ | exact Nat.le_add_right _ _ | assumption) _ | apply Ext.patch | apply Ext.drew | apply Ext.drewN))) 9, Blk.new ⟨fun _ => 0, w⟩ 9 24 [.int .i64 c.frags, .int .i64 c.spine, .int .i64 c.globals, .int .i64 c.threads, .int .i64 c.locals, .int .i64 c.cache, .int .i64 c.stack, .int .i64 c.low, .slice c.A c.shapes.length c.cap]⟩
  have M0 := Lib.hid m0
  have B0 := Lib.hid b0
  clear hc m0 b0 hck hk hb hT
  go_enter Try.func86, Try.ntmps86
  go_wp2_with fail
  refine (HCK.out _ M0.out.toExt).mono ?_
  rintro e w1 ⟨rfl, hX⟩
  obtain ⟨own1, m1⟩ := Mod.ofExt (show Ext _ w1 from hX) own0
  have M1 := Lib.hid (M0.out.trans m1)
  have B1 := Lib.hid (B0.out.keep m1 id)
  clear m1 hX
  have a0 := B1.out.cell (i := 0) rfl
  have a1 := B1.out.cell (i := 1) rfl
  have a2 := B1.out.cell (i := 2) rfl
  have a3 := B1.out.cell (i := 3) rfl
  have a4 := B1.out.cell (i := 4) rfl
  have a5 := B1.out.cell (i := 5) rfl
  have a6 := B1.out.cell (i := 6) rfl
  have a7 := B1.out.cell (i := 7) rfl
  have a8 := B1.out.cell (i := 8) rfl
  have al := B1.out.lt
  (try simp only [GW.to] at a0 a1 a2 a3 a4 a5 a6 a7 a8 al)
  have t0 := (M1.out.toExt.cell HT.out.1).trans HT.out.2
  have t1 := Nat.lt_of_lt_of_le HT.out.1 M1.out.size
  simp only at t0 t1
  go_wp2_with fail
  refine wp_region_mixed [true, true, true, true, true, true, true, true, true, true, true, true] 0 12 (by kernel_rfl) (by kernel_rfl) (by kernel_rfl) ?_ (by decide) (by decide) (by decide) (by kernel_rfl) ?_
  · intro c a d v w h; cases d <;> exact h
  intro X00
  simp only [pickOps]
  repeat (go_big_quiet_step (fail))
  refine wpQuiet_nil (fun X0 => ?_)
  clear X00
  refine wpAnyM_done (by kernel_rfl) (fun X0' => ?_) _
  go_wp2_with fail
  generalize hW : World.patch w1 _ = W
  have hE : Ext w1 W := ⟨_, hW.symm⟩
  clear hW
  refine (HPL.out _).mono ?_
  rintro e w2 ⟨bp, rfl, hX⟩
  obtain ⟨own2, m2, s2⟩ := Blk.newIn (own1 := own1) 8 228 (rsp c bt (.pointer none) (.pointer none) (.slice none 0 0)) hE hX
  have HBS := Lib.hid (Nat.le_trans M1.out.size hE.size)
  have M2 := Lib.hid (M1.out.trans m2)
  have B2 := Lib.hid (B1.out.keep m2 id)
  simp only at HBS
  clear m2 hX hE a0 a1 a2 a3 a4 a5 a6 a7 a8 al t0 t1 M0 B0 M1 B1
  generalize W.heap.size = bs at *
  have S2 := Lib.hid s2
  have hne : bs ≠ w.heap.size := s2.ne B2.out (by decide)
  clear s2
  have a0 := B2.out.cell (i := 0) rfl
  have a1 := B2.out.cell (i := 1) rfl
  have a2 := B2.out.cell (i := 2) rfl
  have a3 := B2.out.cell (i := 3) rfl
  have a4 := B2.out.cell (i := 4) rfl
  have a5 := B2.out.cell (i := 5) rfl
  have a6 := B2.out.cell (i := 6) rfl
  have a7 := B2.out.cell (i := 7) rfl
  have a8 := B2.out.cell (i := 8) rfl
  have al := B2.out.lt
  (try simp only [GW.to] at a0 a1 a2 a3 a4 a5 a6 a7 a8 al)
  have s0 := S2.out.cell (i := 0) rfl
  have s1 := S2.out.cell (i := 1) rfl
  have s2 := S2.out.cell (i := 2) rfl
  have s3 := S2.out.cell (i := 3) rfl
  have s4 := S2.out.cell (i := 4) rfl
  have s5 := S2.out.cell (i := 5) rfl
  have s6 := S2.out.cell (i := 6) rfl
  have s7 := S2.out.cell (i := 7) rfl
  have s8 := S2.out.cell (i := 8) rfl
  have s9 := S2.out.cell (i := 9) rfl
  have s10 := S2.out.cell (i := 10) rfl
  have s11 := S2.out.cell (i := 11) rfl
  have s12 := S2.out.cell (i := 12) rfl
  have s13 := S2.out.cell (i := 13) rfl
  have s14 := S2.out.cell (i := 14) rfl
  have s15 := S2.out.cell (i := 15) rfl
  have s16 := S2.out.cell (i := 16) rfl
  have sf10 := S2.out.live 10
  have sl := S2.out.lt
  (try simp only [GW.to] at s0 s1 s2 s3 s4 s5 s6 s7 s8 s9 s10 s11 s12 s13 s14 s15 s16 sf10 sl)
  go_wp2_with fail
  refine (HKL.out _).mono ?_
  rintro e w3 ⟨bk, rfl, hX⟩
  obtain ⟨own3, m3⟩ := Mod.ofExt (show Ext _ w3 from hX) own2
  have M3 := Lib.hid ((Mod.stn M2.out HBS.out).trans m3)
  have B3 := Lib.hid ((B2.out.setOther 10 (.pointer (some ⟨bp, 0, none⟩)) hne).keep m3 id)
  have S3 := Lib.hid (show Blk ⟨own3, w3⟩ 8 bs 228 (rsp c bt (.pointer (some ⟨bp, 0, none⟩)) (.pointer none) (.slice none 0 0)) from (S2.out.set 10 (.pointer (some ⟨bp, 0, none⟩))).keep m3 id)
  clear m3 hX a0 a1 a2 a3 a4 a5 a6 a7 a8 al s0 s1 s2 s3 s4 s5 s6 s7 s8 s9 s10 s11 s12 s13 s14 s15 s16 sf10 sl M2 B2 S2
  have s0 := S3.out.cell (i := 0) rfl
  have s1 := S3.out.cell (i := 1) rfl
  have s2 := S3.out.cell (i := 2) rfl
  have s3 := S3.out.cell (i := 3) rfl
  have s4 := S3.out.cell (i := 4) rfl
  have s5 := S3.out.cell (i := 5) rfl
  have s6 := S3.out.cell (i := 6) rfl
  have s7 := S3.out.cell (i := 7) rfl
  have s8 := S3.out.cell (i := 8) rfl
  have s9 := S3.out.cell (i := 9) rfl
  have s10 := S3.out.cell (i := 10) rfl
  have s11 := S3.out.cell (i := 11) rfl
  have s12 := S3.out.cell (i := 12) rfl
  have s13 := S3.out.cell (i := 13) rfl
  have s14 := S3.out.cell (i := 14) rfl
  have s15 := S3.out.cell (i := 15) rfl
  have s16 := S3.out.cell (i := 16) rfl
  have sf14 := S3.out.live 14
  have sl := S3.out.lt
  (try simp only [GW.to] at s0 s1 s2 s3 s4 s5 s6 s7 s8 s9 s10 s11 s12 s13 s14 s15 s16 sf14 sl)
  go_wp2_with fail
  have M4 := Lib.hid (show Mod (fun _ => False) ⟨fun _ => 0, w⟩ ⟨own3, _⟩ from Mod.stn (b := bs) (i := 14) (v := .pointer (some ⟨bk, 0, none⟩)) M3.out HBS.out)
  have B4 := Lib.hid (B3.out.setOther 14 (.pointer (some ⟨bk, 0, none⟩)) hne)
  have S4 := Lib.hid (show Blk ⟨own3, _⟩ 8 bs 228 (rsp c bt (.pointer (some ⟨bp, 0, none⟩)) (.pointer (some ⟨bk, 0, none⟩)) (.slice none 0 0)) from S3.out.set 14 (.pointer (some ⟨bk, 0, none⟩)))
  clear s0 s1 s2 s3 s4 s5 s6 s7 s8 s9 s10 s11 s12 s13 s14 s15 s16 sf14 sl M3 B3 S3 HPL HKL
  go_loopw [8] (fun i wr => ∃ (k : Nat) (own : Nat → Nat) (A : Option Addr) (cs : Nat) (xs : List Value), (k : Int) ≤ c.threads ∧ i = .int .i64 k ∧ Hid (Mod (fun _ => False) ⟨fun _ => 0, w⟩ ⟨own, wr⟩) ∧ Hid (Blk ⟨own, wr⟩ 9 w.heap.size 24 [.int .i64 c.frags, .int .i64 c.spine, .int .i64 c.globals, .int .i64 c.threads, .int .i64 c.locals, .int .i64 c.cache, .int .i64 c.stack, .int .i64 c.low, .slice c.A c.shapes.length c.cap]) ∧ Hid (Blk ⟨own, wr⟩ 8 bs 228 (rsp c bt (.pointer (some ⟨bp, 0, none⟩)) (.pointer (some ⟨bk, 0, none⟩)) (.slice A k cs))) ∧ Hid (Row ⟨own, wr⟩ 8 233 1 (.slice A k cs) k xs) ∧ Hid (∀ y, (Value.slice A k cs).ownBlock = some y → w.heap.size ≤ y)) (fun i _ => c.threads.toNat - (intOf i).toNat)
  case atStart => exact ⟨0, own3, none, 0, [], by omega, rfl, M4, B4, S4, Lib.hid (Row.nil _ _ _ _), Lib.hid (fun y hy => by cases hy)⟩
  case round =>
    obtain ⟨j, own, A, cs, xs, hj, rfl, M, Bx, S, R, HNEW⟩ := hrel
    clear M4 B4 S4
    by_cases hlt : (j : Int) < c.threads
    · skip
      have a0 := Bx.out.cell (i := 0) rfl
      have a1 := Bx.out.cell (i := 1) rfl
      have a2 := Bx.out.cell (i := 2) rfl
      have a3 := Bx.out.cell (i := 3) rfl
      have a4 := Bx.out.cell (i := 4) rfl
      have a5 := Bx.out.cell (i := 5) rfl
      have a6 := Bx.out.cell (i := 6) rfl
      have a7 := Bx.out.cell (i := 7) rfl
      have a8 := Bx.out.cell (i := 8) rfl
      have al := Bx.out.lt
      (try simp only [GW.to] at a0 a1 a2 a3 a4 a5 a6 a7 a8 al)
      have s0 := S.out.cell (i := 0) rfl
      have s1 := S.out.cell (i := 1) rfl
      have s2 := S.out.cell (i := 2) rfl
      have s3 := S.out.cell (i := 3) rfl
      have s4 := S.out.cell (i := 4) rfl
      have s5 := S.out.cell (i := 5) rfl
      have s6 := S.out.cell (i := 6) rfl
      have s7 := S.out.cell (i := 7) rfl
      have s8 := S.out.cell (i := 8) rfl
      have s9 := S.out.cell (i := 9) rfl
      have s10 := S.out.cell (i := 10) rfl
      have s11 := S.out.cell (i := 11) rfl
      have s12 := S.out.cell (i := 12) rfl
      have s13 := S.out.cell (i := 13) rfl
      have s14 := S.out.cell (i := 14) rfl
      have s15 := S.out.cell (i := 15) rfl
      have s16 := S.out.cell (i := 16) rfl
      have sf11 := S.out.live 11
      have sl := S.out.lt
      (try simp only [GW.to] at s0 s1 s2 s3 s4 s5 s6 s7 s8 s9 s10 s11 s12 s13 s14 s15 s16 sf11 sl)
      go_wp2_with fail
      have hlen := R.out.len
      have hrow := Lib.hid (show ∀ x, (Value.slice A j cs).ownBlock = some x → bs ≠ x from fun x hx => R.out.ne_type S.out (by decide) hx)
      have hrb := Lib.hid (show ∀ x, (Value.slice A j cs).ownBlock = some x → w.heap.size ≠ x from fun x hx => R.out.ne_type Bx.out (by decide) hx)
      have hnb := Lib.hid (show some bs ≠ (Value.slice A j cs).ownBlock from fun e => hrow.out bs e.symm rfl)
      have HED := Lib.hid (show Ext wr (((wr.alloc (.cells #[.int .i64 c.cache, .slice none 0 0] 235)).alloc (.cells #[.pointer (some ⟨wr.heap.size, 0, none⟩)] 233)).drew) from by (repeat (first | (with_reducible assumption) | (with_reducible exact Ext.refl _) | (with_reducible exact Ext.more _ _ _ _) | apply Ext.alloc | refine Ext.setCell ?_ (by first | exact Nat.le_refl _ | exact Nat.le_add_right _ _ | assumption) _ | apply Ext.patch | apply Ext.drew | apply Ext.drewN)))
      have HEC := Lib.hid (And.intro ((HED.out.cell sl).trans s11) ((HED.out.live sl).trans sf11))
      have HEL := Lib.hid (Nat.lt_of_lt_of_le sl HED.out.size)
      go_region_law ((refine step_append_lies _ (by rfl) _ _ _ (by rfl) 0 233 i0 _ 1 8 Try.underlying222 hi hz0 hz1 hz2 rfl (by omega) (.slice A j cs) j xs (by rfl) (((R.out.row.alloc (.cells #[.int .i64 c.cache, .slice none 0 0] 235)).alloc (.cells #[.pointer (some ⟨wr.heap.size, 0, none⟩)] 233)).drew) ⟨wr.heap.size + 1, 0, none⟩ 1 1 [.pointer (some ⟨wr.heap.size, 0, none⟩)] (by rfl) (by rfl) (World.news_of_block (cs := #[.pointer (some ⟨wr.heap.size, 0, none⟩)]) (t := 233) (fr := (0, 0)) (two_blocks wr (.cells #[.int .i64 c.cache, .slice none 0 0] 235) (.cells #[.pointer (some ⟨wr.heap.size, 0, none⟩)] 233)).2) (by simp [Value.oneCell']) (by omega) (by unfold maxLen; omega) (by omega) (Nat.zero_le _) (wr.heap.size + 2) (by simp) ?_; intro gg cap w2 hown hgrow hat hlt; have y0 := (hgrow.cell_far ⟨bs, 11, none⟩ HEL.out hnb.out).trans HEC.out.1; have yf0 := (hgrow.frozen_far ⟨bs, 11, none⟩ HEL.out hnb.out).trans HEC.out.2))
      all_goals
        have hat' : (Value.slice (some ⟨gg, 0, none⟩) (j + 1) cap).ownBlock = (Value.slice A j cs).ownBlock ∨ (Value.slice (some ⟨gg, 0, none⟩) (j + 1) cap).ownBlock = some ((((wr.alloc (.cells #[.int .i64 c.cache, .slice none 0 0] 235)).alloc (.cells #[.pointer (some ⟨wr.heap.size, 0, none⟩)] 233)).drew)).heap.size := by
          rcases hat with e | e
          · exact Or.inl e.symm
          · refine Or.inr ?_
            rw [e]
            show some (wr.heap.size + 2) = some ((wr.alloc _).alloc _).heap.size
            rw [World.size_alloc, World.size_alloc]
        have N2 := Lib.hid (M.out.grownNew (t1 := 9) (t2 := 8) HED.out hgrow HNEW.out)
        have K2 := Lib.hid ((S.out.ext HED.out 9).grown (t' := 8) hgrow (fun y hy => hrow.out y hy))
        have X2 := Lib.hid ((Bx.out.ext HED.out 9).grown (t' := 8) hgrow (fun y hy => hrb.out y hy))
        have R2 := Lib.hid (((R.out.ext HED.out 9).grown (g := (⟨own, wr⟩ : GW).to 9 (((wr.alloc (.cells #[.int .i64 c.cache, .slice none 0 0] 235)).alloc (.cells #[.pointer (some ⟨wr.heap.size, 0, none⟩)] 233)).drew)) hown hat').weak rfl rfl)
        have HN2 := Lib.hid (show ∀ y, (Value.slice (some ⟨gg, 0, none⟩) (j + 1) cap).ownBlock = some y → w.heap.size ≤ y from fun y hy => by
          rcases hat' with e | e
          · exact HNEW.out y (by rw [← e]; exact hy)
          · rw [e] at hy
            injection hy with hy
            rw [← hy]
            exact Nat.le_trans M.out.size HED.out.size)
        clear hown hgrow hat hlt hat' y0 yf0 a0 a1 a2 a3 a4 a5 a6 a7 a8 al s0 s1 s2 s3 s4 s5 s6 s7 s8 s9 s10 s11 s12 s13 s14 s15 s16 sf11 sl
        go_wp2_with fail
        go_roundw
        case rel => exact ⟨j + 1, _, some ⟨gg, 0, none⟩, cap, _, by omega, by go_num, Lib.hid (Mod.stn N2.out HBS.out), Lib.hid (X2.out.setOther 11 (.slice (some ⟨gg, 0, none⟩) (j + 1) cap) hne), Lib.hid (K2.out.set 11 (.slice (some ⟨gg, 0, none⟩) (j + 1) cap)), Lib.hid (R2.out.setOther 11 (.slice (some ⟨gg, 0, none⟩) (j + 1) cap) (fun y hy => R2.out.ne_type K2.out (by decide) hy)), HN2⟩
        case measure => simp [intOf]; omega
    · skip
      have a0 := Bx.out.cell (i := 0) rfl
      have a1 := Bx.out.cell (i := 1) rfl
      have a2 := Bx.out.cell (i := 2) rfl
      have a3 := Bx.out.cell (i := 3) rfl
      have a4 := Bx.out.cell (i := 4) rfl
      have a5 := Bx.out.cell (i := 5) rfl
      have a6 := Bx.out.cell (i := 6) rfl
      have a7 := Bx.out.cell (i := 7) rfl
      have a8 := Bx.out.cell (i := 8) rfl
      have al := Bx.out.lt
      (try simp only [GW.to] at a0 a1 a2 a3 a4 a5 a6 a7 a8 al)
      go_wp2_with fail
      go_ret2
      first | exact ⟨⟨_, rfl⟩, M.out.toExt⟩ | exact ⟨_, rfl, M.out.toExt⟩
end Go.Proofs.Ythebmcbpmboblaa
/-
  sporef21: NewCore.
-/
namespace Go.Proofs.Ythebmcbpmboblaa
open Go Go.RowKit
set_option linter.unusedVariables false
set_option linter.unnecessarySimpa false
set_option linter.unusedSimpArgs false
set_option maxHeartbeats 4000000
theorem RMemAt.word {g : GW} {t b : Nat} {l : List (Nat × Nat)} (h : RMemAt g t b l) {k : Nat} (hk : k < l.length) : ∃ r c, Blk g t b 51 [.slice (some ⟨r, 0, none⟩) l.length c, .int .i64 0] ∧ g.own r = t ∧ r < g.w.heap.size ∧ g.w.frozen? ⟨r, k, none⟩ = false ∧ b ≠ r ∧
    (∃ v, g.w.cell? ⟨r, k, none⟩ = some v) ∧ ∀ p q : Nat, RMemAt ⟨g.own, g.w.setCell ⟨r, k, none⟩ (.complex .f64 p q)⟩ t b (l.set k (p, q)) := by
  obtain ⟨A, c, hb, hr⟩ := h.ex
  obtain ⟨r, rfl, hl, ho, hc, hf⟩ := hr.block (by omega)
  have hx := List.getElem?_eq_getElem hk
  refine ⟨r, c, hb, ho, hl, hf _, hr.ne_type hb (by decide) rfl, ⟨_, hc _ _ (by rw [List.getElem?_map, hx]; rfl)⟩, fun p q => ⟨⟨some ⟨r, 0, none⟩, c, ?_, ?_⟩, by simpa using h.len⟩⟩
  · simp only [List.length_set]
    exact hb.setOther _ _ (fun e => hr.ne_type hb (by decide) rfl e.symm)
  · simp only [List.length_set]
    rw [List.map_set]
    exact hr.store k (.complex .f64 p q)
theorem memLaid_zero (c : Cnf) : (memLaid c 0).l = List.replicate (cWords c).toNat (0, 0) := rfl
theorem memLaid_set (c : Cnf) (k a : Nat) (h : cAtV c 3 (k : Nat) = (a : Nat)) (ha : a < (memLaid c k).l.length) : (memLaid c (k + 1)).l = (memLaid c k).l.set a (0, 4607182418800017408) := by
  rw [memLaid_succ, h]
  unfold MemS.lay
  rw [if_pos (inB_cast ha), Int.toNat_natCast]
def rcr (c : Cnf) (m s p h : Value) : List Value := [.int .i64 c.frags, .int .i64 c.spine, .int .i64 c.globals, .int .i64 c.threads, .int .i64 c.locals, .int .i64 c.cache, .int .i64 c.stack, .int .i64 c.low, .slice c.A c.shapes.length c.cap, m, s, p, h]
/-- What the document's core is, as far as it is read. -/
def RCoreMade (c : Cnf) (w : World) (e : Ending) (w' : World) : Prop :=
  if c.check = 0 then ∃ b bm A cap, e = .returned (.tuple #[.pointer (some ⟨b, 0, none⟩), .int .i64 0]) ∧ Ext w w' ∧ b < w'.heap.size ∧ bm < w'.heap.size ∧ w'.cell? ⟨b, 9, none⟩ = some (.pointer (some ⟨bm, 0, none⟩)) ∧
    w'.cell? ⟨bm, 0, none⟩ = some (.slice A (cWords c).toNat cap) ∧ CellsAt w' A ((memLaid c c.globals.toNat).l.map cx)
  else e = .returned (.tuple #[.pointer none, .int .i64 c.check]) ∧ Ext w w'
set_option maxRecDepth 100000 in
theorem rcore_new (c : Cnf) (w : World) (hc : c.Ok w) : Calls Try.prog 17 #[c.val] w (RCoreMade c w) := by
  have HCK := Lib.hid (fun w' (he : Ext w w') => rcheck_any c w' (hc.ext he))
  have HWD := Lib.hid (fun w' (he : Ext w w') => rwords_any c w' (hc.ext he))
  have HC := Lib.hid hc
  unfold Cnf.val at HCK HWD ⊢
  obtain ⟨own0, m0, b0⟩ : ∃ own0, Mod (fun _ => False) ⟨fun _ => 0, w⟩ ⟨own0, w.alloc (.cells #[.int .i64 c.frags, .int .i64 c.spine, .int .i64 c.globals, .int .i64 c.threads, .int .i64 c.locals, .int .i64 c.cache, .int .i64 c.stack, .int .i64 c.low, .slice c.A c.shapes.length c.cap] 24)⟩ ∧ Blk ⟨own0, w.alloc (.cells #[.int .i64 c.frags, .int .i64 c.spine, .int .i64 c.globals, .int .i64 c.threads, .int .i64 c.locals, .int .i64 c.cache, .int .i64 c.stack, .int .i64 c.low, .slice c.A c.shapes.length c.cap] 24)⟩ 9 w.heap.size 24 [.int .i64 c.frags, .int .i64 c.spine, .int .i64 c.globals, .int .i64 c.threads, .int .i64 c.locals, .int .i64 c.cache, .int .i64 c.stack, .int .i64 c.low, .slice c.A c.shapes.length c.cap] := ⟨_, Mod.ext (g := ⟨fun _ => 0, w⟩) (by (repeat (first | (with_reducible assumption) | (with_reducible exact Ext.refl _) | (with_reducible exact Ext.more _ _ _ _) | apply Ext.alloc | refine Ext.setCell ?_ (by first | exact Nat.le_refl _ | exact Nat.le_add_right _ _ | assumption) _ | apply Ext.patch | apply Ext.drew | apply Ext.drewN))) 9, Blk.new ⟨fun _ => 0, w⟩ 9 24 [.int .i64 c.frags, .int .i64 c.spine, .int .i64 c.globals, .int .i64 c.threads, .int .i64 c.locals, .int .i64 c.cache, .int .i64 c.stack, .int .i64 c.low, .slice c.A c.shapes.length c.cap]⟩
  have M0 := Lib.hid m0
  have B0 := Lib.hid b0
  clear hc m0 b0
  go_enter Try.func17, Try.ntmps17
  go_wp2_with fail
  refine (HCK.out _ M0.out.toExt).mono ?_
  rintro e w1 ⟨rfl, hX⟩
  obtain ⟨own1, m1⟩ := Mod.ofExt (show Ext _ w1 from hX) own0
  have M1 := Lib.hid (M0.out.trans m1)
  have B1 := Lib.hid (B0.out.keep m1 id)
  clear m1 hX
  have a0 := B1.out.cell (i := 0) rfl
  have a1 := B1.out.cell (i := 1) rfl
  have a2 := B1.out.cell (i := 2) rfl
  have a3 := B1.out.cell (i := 3) rfl
  have a4 := B1.out.cell (i := 4) rfl
  have a5 := B1.out.cell (i := 5) rfl
  have a6 := B1.out.cell (i := 6) rfl
  have a7 := B1.out.cell (i := 7) rfl
  have a8 := B1.out.cell (i := 8) rfl
  have al := B1.out.lt
  (try simp only [GW.to] at a0 a1 a2 a3 a4 a5 a6 a7 a8 al)
  by_cases hck : c.check = 0
  case neg =>
    have hk1 : (c.check != 0) = true := by simp [hck]
    have HW := Lib.hid hck
    clear hck
    go_wp2_with fail
    go_ret2
    unfold RCoreMade
    rw [if_neg HW.out]
    exact ⟨rfl, M1.out.toExt⟩
  case pos =>
    have hk1 : (c.check != 0) = false := by simp [hck]
    obtain ⟨⟨r0, r1⟩, ⟨r2, r3⟩, ⟨r4, r5⟩, ⟨r6, r7⟩, -, ⟨r8, r9⟩, ⟨r10, r11⟩, -⟩ := Cnf.ranged (Cnf.check_zero hck).1
    have HCKZ := Lib.hid hck
    have hwd : cWords c = c.frags * 8 + c.spine + c.spine + c.globals := by unfold cWords; rw [if_pos hck]
    obtain ⟨N, hN⟩ := Int.eq_ofNat_of_zero_le (show 0 ≤ cWords c by omega)
    obtain ⟨F, hF⟩ := Int.eq_ofNat_of_zero_le (show 0 ≤ c.frags by omega)
    obtain ⟨TH, hTH⟩ := Int.eq_ofNat_of_zero_le (show 0 ≤ c.threads by omega)
    have HMN := Lib.hid (fun g => (show Calls Try.prog 83 #[.int .i64 (cWords c)] g.w _ from hN ▸ rmem_new N 7 g (by omega)))
    have HSN := Lib.hid (fun w => (show Calls Try.prog 85 #[.int .i64 c.frags, .int .i64 c.stack] w _ from hF ▸ rshade_new F c.stack w (by omega) ⟨r10, r11⟩))
    have HPN := Lib.hid (fun w' bt cc v (he : Ext w w') hb hT => rspace_new c w' bt F cc v (HC.out.ext he) HCKZ.out hF.symm hb hT)
    have HHN := Lib.hid (fun w => (show Calls Try.prog 87 #[.int .i64 c.threads] w _ from hTH ▸ rhand_new TH w (by omega)))
    have HGL := Lib.hid (fun (k : Nat) w' (he : Ext w w') (hk : (k : Int) < c.globals) => rglobal_yes c k w' (HC.out.ext he) HCKZ.out (by omega) hk)
    have HAT := Lib.hid (fun (k : Nat) (hk : (k : Int) < c.globals) => (show cAtV c 3 (k : Nat) = 8 * c.frags + 2 * c.spine + k by
      unfold cAtV cSize cAhead
      rw [if_pos HCKZ.out, if_pos HCKZ.out]
      show (if (0 : Int) ≤ (k : Int) ∧ (k : Int) < c.globals then (k : Int) + (c.frags * 8 + (c.spine + (c.spine + 0))) else 0) = _
      rw [if_pos ⟨by omega, by omega⟩]
      omega))
    have HN := Lib.hid hN
    have HNV := Lib.hid (show (N : Int) = 8 * c.frags + 2 * c.spine + c.globals by omega)
    have HNM := Lib.hid (show N = (cWords c).toNat by omega)
    unfold Cnf.val at HPN HGL
    clear hck hwd hN hF hTH
    go_wp2_with fail
    refine (HWD.out _ (M1.out.toExt.trans (by (repeat (first | (with_reducible assumption) | (with_reducible exact Ext.refl _) | (with_reducible exact Ext.more _ _ _ _) | apply Ext.alloc | refine Ext.setCell ?_ (by first | exact Nat.le_refl _ | exact Nat.le_add_right _ _ | assumption) _ | apply Ext.patch | apply Ext.drew | apply Ext.drewN))))).mono ?_
    rintro e w2 ⟨rfl, hX⟩
    obtain ⟨own2, m2, s2⟩ := Blk.newIn (own1 := own1) 8 57 (rcr c (.pointer none) (.pointer none) (.pointer none) (.pointer none)) (Ext.refl w1) hX
    have HBS := Lib.hid (show w.heap.size ≤ w1.heap.size from M1.out.size)
    have M2 := Lib.hid (M1.out.trans m2)
    have B2 := Lib.hid (B1.out.keep m2 id)
    clear m2 hX a0 a1 a2 a3 a4 a5 a6 a7 a8 al M0 B0 M1 B1 HCK HWD
    generalize w1.heap.size = bc at *
    have S2 := Lib.hid s2
    clear s2
    have a0 := B2.out.cell (i := 0) rfl
    have a1 := B2.out.cell (i := 1) rfl
    have a2 := B2.out.cell (i := 2) rfl
    have a3 := B2.out.cell (i := 3) rfl
    have a4 := B2.out.cell (i := 4) rfl
    have a5 := B2.out.cell (i := 5) rfl
    have a6 := B2.out.cell (i := 6) rfl
    have a7 := B2.out.cell (i := 7) rfl
    have a8 := B2.out.cell (i := 8) rfl
    have al := B2.out.lt
    (try simp only [GW.to] at a0 a1 a2 a3 a4 a5 a6 a7 a8 al)
    go_wp2_with fail
    refine (HMN.out ⟨own2, w2⟩).mono ?_
    rintro e w3 ⟨own3, bm, rfl, m3, x3⟩
    have M3 := Lib.hid (M2.out.trans m3)
    have B3 := Lib.hid (B2.out.keep m3 id)
    have S3 := Lib.hid (S2.out.keep m3 id)
    have X3 := Lib.hid x3
    clear m3 x3 a0 a1 a2 a3 a4 a5 a6 a7 a8 al M2 B2 S2 HMN
    have a0 := B3.out.cell (i := 0) rfl
    have a1 := B3.out.cell (i := 1) rfl
    have a2 := B3.out.cell (i := 2) rfl
    have a3 := B3.out.cell (i := 3) rfl
    have a4 := B3.out.cell (i := 4) rfl
    have a5 := B3.out.cell (i := 5) rfl
    have a6 := B3.out.cell (i := 6) rfl
    have a7 := B3.out.cell (i := 7) rfl
    have a8 := B3.out.cell (i := 8) rfl
    have al := B3.out.lt
    (try simp only [GW.to] at a0 a1 a2 a3 a4 a5 a6 a7 a8 al)
    have s0 := S3.out.cell (i := 0) rfl
    have s1 := S3.out.cell (i := 1) rfl
    have s2 := S3.out.cell (i := 2) rfl
    have s3 := S3.out.cell (i := 3) rfl
    have s4 := S3.out.cell (i := 4) rfl
    have s5 := S3.out.cell (i := 5) rfl
    have s6 := S3.out.cell (i := 6) rfl
    have s7 := S3.out.cell (i := 7) rfl
    have s8 := S3.out.cell (i := 8) rfl
    have s9 := S3.out.cell (i := 9) rfl
    have s10 := S3.out.cell (i := 10) rfl
    have s11 := S3.out.cell (i := 11) rfl
    have s12 := S3.out.cell (i := 12) rfl
    have sf9 := S3.out.live 9
    have sl := S3.out.lt
    (try simp only [GW.to] at s0 s1 s2 s3 s4 s5 s6 s7 s8 s9 s10 s11 s12 sf9 sl)
    have hne : bc ≠ w.heap.size := S3.out.ne B3.out (by decide)
    go_wp2_with fail
    refine (HSN.out _).mono ?_
    rintro e w4 ⟨bs, bt, v, cc, rfl, hX, hb0, hb1, hc1, hbt, hc2⟩
    obtain ⟨own4, m4⟩ := Mod.ofExt (show Ext _ w4 from hX) own3
    have d4 : Mod (fun x => x = 8) ⟨own3, w3⟩ ⟨own4, w4⟩ := (Mod.set (g := ⟨own3, w3⟩) (b := bc) (i := 9) (v := .pointer (some ⟨bm, 0, none⟩)) S3.out.own).trans (m4.mono (fun x hx => hx.elim))
    have M4 := Lib.hid ((Mod.stn M3.out HBS.out).trans m4)
    have B4 := Lib.hid (B3.out.keep d4 (by decide))
    have S4 := Lib.hid (show Blk ⟨own4, w4⟩ 8 bc 57 (rcr c (.pointer (some ⟨bm, 0, none⟩)) (.pointer none) (.pointer none) (.pointer none)) from (S3.out.set 9 (.pointer (some ⟨bm, 0, none⟩))).keep m4 id)
    have X4 := Lib.hid (X3.out.keep d4 (by decide))
    have HSH := Lib.hid (And.intro hb1 (And.intro hc1 (And.intro hbt hc2)))
    have hnes : bs ≠ bc := fun e => by
      have := S3.out.lt
      have h2 := hb0
      rw [World.size_setCell] at h2
      simp only at this
      omega
    have hnet : bt ≠ bc := fun e => by
      subst e
      have h1 := S4.out.cell (i := 0) rfl
      simp only at h1
      rw [hc2] at h1
      cases h1
    clear m4 d4 hX hb0 hb1 hc1 hbt hc2 a0 a1 a2 a3 a4 a5 a6 a7 a8 al s0 s1 s2 s3 s4 s5 s6 s7 s8 s9 s10 s11 s12 sf9 sl M3 B3 S3 X3 HSN
    have s0 := S4.out.cell (i := 0) rfl
    have s1 := S4.out.cell (i := 1) rfl
    have s2 := S4.out.cell (i := 2) rfl
    have s3 := S4.out.cell (i := 3) rfl
    have s4 := S4.out.cell (i := 4) rfl
    have s5 := S4.out.cell (i := 5) rfl
    have s6 := S4.out.cell (i := 6) rfl
    have s7 := S4.out.cell (i := 7) rfl
    have s8 := S4.out.cell (i := 8) rfl
    have s9 := S4.out.cell (i := 9) rfl
    have s10 := S4.out.cell (i := 10) rfl
    have s11 := S4.out.cell (i := 11) rfl
    have s12 := S4.out.cell (i := 12) rfl
    have sf10 := S4.out.live 10
    have sl := S4.out.lt
    (try simp only [GW.to] at s0 s1 s2 s3 s4 s5 s6 s7 s8 s9 s10 s11 s12 sf10 sl)
    go_wp2_with fail
    have M5 := Lib.hid (show Mod (fun _ => False) ⟨fun _ => 0, w⟩ ⟨own4, _⟩ from Mod.stn (b := bc) (i := 10) (v := .pointer (some ⟨bs, 0, none⟩)) M4.out HBS.out)
    have B5 := Lib.hid (B4.out.setOther 10 (.pointer (some ⟨bs, 0, none⟩)) hne)
    have S5 := Lib.hid (show Blk ⟨own4, _⟩ 8 bc 57 (rcr c (.pointer (some ⟨bm, 0, none⟩)) (.pointer (some ⟨bs, 0, none⟩)) (.pointer none) (.pointer none)) from S4.out.set 10 (.pointer (some ⟨bs, 0, none⟩)))
    have X5 := Lib.hid (X4.out.keep (Mod.set (T := fun x => x = 8) (g := ⟨own4, w4⟩) (b := bc) (i := 10) (v := .pointer (some ⟨bs, 0, none⟩)) S4.out.own) (by decide))
    have z0 : (w4.setCell ⟨bc, 10, none⟩ (.pointer (some ⟨bs, 0, none⟩))).cell? ⟨bs, 0, none⟩ = some (.pointer (some ⟨bt, 0, none⟩)) := (World.cell?_setCell_other _ _ _ _ (fun e => hnes (congrArg Addr.block e).symm)).trans HSH.out.2.1
    have z1 : bs < (w4.setCell ⟨bc, 10, none⟩ (.pointer (some ⟨bs, 0, none⟩))).heap.size := by rw [World.size_setCell]; exact HSH.out.1
    have z2 : (w4.setCell ⟨bc, 10, none⟩ (.pointer (some ⟨bs, 0, none⟩))).cell? ⟨bt, 0, none⟩ = some (.slice v F cc) := (World.cell?_setCell_other _ _ _ _ (fun e => hnet (congrArg Addr.block e).symm)).trans HSH.out.2.2.2
    have z3 : bt < (w4.setCell ⟨bc, 10, none⟩ (.pointer (some ⟨bs, 0, none⟩))).heap.size := by rw [World.size_setCell]; exact HSH.out.2.2.1
    clear s0 s1 s2 s3 s4 s5 s6 s7 s8 s9 s10 s11 s12 sf10 sl M4 B4 S4 X4 HSH hnes hnet
    generalize w4.setCell ⟨bc, 10, none⟩ (.pointer (some ⟨bs, 0, none⟩)) = W5 at *
    have Z := Lib.hid (And.intro z2 z3)
    clear z2 z3
    have HP2 := Lib.hid (fun w' (he : Ext W5 w') => (HPN.out w' bt cc v ((M5.out.toExt).trans he) (Nat.lt_of_lt_of_le Z.out.2 he.size) ((he.cell Z.out.2).trans Z.out.1)).mono (R' := fun e w6 => ∃ bsp, e = .returned (.tuple #[.pointer (some ⟨bsp, 0, none⟩), .int .i64 0]) ∧ w6.cell? ⟨bc, 11, none⟩ = some (.pointer none) ∧ w6.frozen? ⟨bc, 11, none⟩ = false ∧ Hid (∃ own6, Mod (fun _ => False) ⟨fun _ => 0, w⟩ ⟨own6, w6.setCell ⟨bc, 11, none⟩ (.pointer (some ⟨bsp, 0, none⟩))⟩ ∧ Blk ⟨own6, w6.setCell ⟨bc, 11, none⟩ (.pointer (some ⟨bsp, 0, none⟩))⟩ 9 w.heap.size 24 [.int .i64 c.frags, .int .i64 c.spine, .int .i64 c.globals, .int .i64 c.threads, .int .i64 c.locals, .int .i64 c.cache, .int .i64 c.stack, .int .i64 c.low, .slice c.A c.shapes.length c.cap] ∧ Blk ⟨own6, w6.setCell ⟨bc, 11, none⟩ (.pointer (some ⟨bsp, 0, none⟩))⟩ 8 bc 57 (rcr c (.pointer (some ⟨bm, 0, none⟩)) (.pointer (some ⟨bs, 0, none⟩)) (.pointer (some ⟨bsp, 0, none⟩)) (.pointer none)) ∧ RMemAt ⟨own6, w6.setCell ⟨bc, 11, none⟩ (.pointer (some ⟨bsp, 0, none⟩))⟩ 7 bm (List.replicate N (0, 0)))) (fun e w6 hh => by
      obtain ⟨bsp, rfl, hX⟩ := hh
      obtain ⟨own6, m6⟩ := Mod.ofExt (he.trans hX) own4
      have s6 := S5.out.keep m6 id
      have b6 := B5.out.keep m6 id
      have x6 := X5.out.keep m6 id
      exact ⟨bsp, rfl, s6.cell (i := 11) rfl, s6.live 11, Lib.hid ⟨own6, Mod.stn (M5.out.trans m6) HBS.out, b6.setOther _ _ hne, s6.set 11 _, x6.keep (Mod.set (T := fun x => x = 8) (g := ⟨own6, w6⟩) (b := bc) (i := 11) (v := .pointer (some ⟨bsp, 0, none⟩)) s6.own) (by decide)⟩⟩))
    have a0 := B5.out.cell (i := 0) rfl
    have a1 := B5.out.cell (i := 1) rfl
    have a2 := B5.out.cell (i := 2) rfl
    have a3 := B5.out.cell (i := 3) rfl
    have a4 := B5.out.cell (i := 4) rfl
    have a5 := B5.out.cell (i := 5) rfl
    have a6 := B5.out.cell (i := 6) rfl
    have a7 := B5.out.cell (i := 7) rfl
    have a8 := B5.out.cell (i := 8) rfl
    have al := B5.out.lt
    (try simp only [GW.to] at a0 a1 a2 a3 a4 a5 a6 a7 a8 al)
    have s0 := S5.out.cell (i := 0) rfl
    have s1 := S5.out.cell (i := 1) rfl
    have s2 := S5.out.cell (i := 2) rfl
    have s3 := S5.out.cell (i := 3) rfl
    have s4 := S5.out.cell (i := 4) rfl
    have s5 := S5.out.cell (i := 5) rfl
    have s6 := S5.out.cell (i := 6) rfl
    have s7 := S5.out.cell (i := 7) rfl
    have s8 := S5.out.cell (i := 8) rfl
    have s9 := S5.out.cell (i := 9) rfl
    have s10 := S5.out.cell (i := 10) rfl
    have s11 := S5.out.cell (i := 11) rfl
    have s12 := S5.out.cell (i := 12) rfl
    have sf11 := S5.out.live 11
    have sl := S5.out.lt
    (try simp only [GW.to] at s0 s1 s2 s3 s4 s5 s6 s7 s8 s9 s10 s11 s12 sf11 sl)
    go_cut [] (fun wx => ∃ own6 bsp, Hid (Mod (fun _ => False) ⟨fun _ => 0, w⟩ ⟨own6, wx⟩) ∧ Hid (Blk ⟨own6, wx⟩ 9 w.heap.size 24 [.int .i64 c.frags, .int .i64 c.spine, .int .i64 c.globals, .int .i64 c.threads, .int .i64 c.locals, .int .i64 c.cache, .int .i64 c.stack, .int .i64 c.low, .slice c.A c.shapes.length c.cap]) ∧ Hid (Blk ⟨own6, wx⟩ 8 bc 57 (rcr c (.pointer (some ⟨bm, 0, none⟩)) (.pointer (some ⟨bs, 0, none⟩)) (.pointer (some ⟨bsp, 0, none⟩)) (.pointer none))) ∧ Hid (RMemAt ⟨own6, wx⟩ 7 bm (List.replicate N (0, 0))))
    case first =>
      go_region_with (go_at_call 86; refine (HP2.out _ ?he).mono ?_; (case he => (repeat (first | (with_reducible assumption) | (with_reducible exact Ext.refl _) | (with_reducible exact Ext.more _ _ _ _) | apply Ext.alloc | refine Ext.setCell ?_ (by first | exact Nat.le_refl _ | exact Nat.le_add_right _ _ | assumption) _ | apply Ext.patch | apply Ext.drew | apply Ext.drewN))); rintro e w6 ⟨bsp, rfl, y0, y1, HG⟩)
      all_goals
        go_wp2_with fail
        go_meet
        obtain ⟨own6, h1, h2, h3, h4⟩ := HG.out
        exact ⟨own6, bsp, Lib.hid h1, Lib.hid h2, Lib.hid h3, Lib.hid h4⟩
    case rest =>
      obtain ⟨own6, bsp, M6, B6, S6, X6⟩ := hcut
      obtain ⟨w6, rfl⟩ : ∃ w6 : World, w6 = wc := ⟨_, rfl⟩
      clear a0 a1 a2 a3 a4 a5 a6 a7 a8 al s0 s1 s2 s3 s4 s5 s6 s7 s8 s9 s10 s11 s12 sf11 sl M5 B5 S5 X5 HP2 HPN z0 z1 Z
      have a0 := B6.out.cell (i := 0) rfl
      have a1 := B6.out.cell (i := 1) rfl
      have a2 := B6.out.cell (i := 2) rfl
      have a3 := B6.out.cell (i := 3) rfl
      have a4 := B6.out.cell (i := 4) rfl
      have a5 := B6.out.cell (i := 5) rfl
      have a6 := B6.out.cell (i := 6) rfl
      have a7 := B6.out.cell (i := 7) rfl
      have a8 := B6.out.cell (i := 8) rfl
      have al := B6.out.lt
      (try simp only [GW.to] at a0 a1 a2 a3 a4 a5 a6 a7 a8 al)
      go_wp2_with fail
      refine (HHN.out _).mono ?_
      rintro e w7 ⟨bh, rfl, hX⟩
      obtain ⟨own7, m7⟩ := Mod.ofExt (show Ext w6 w7 from hX) own6
      have M7 := Lib.hid (M6.out.trans m7)
      have B7 := Lib.hid (B6.out.keep m7 id)
      have S7 := Lib.hid (S6.out.keep m7 id)
      have X7 := Lib.hid (X6.out.keep m7 id)
      clear m7 hX a0 a1 a2 a3 a4 a5 a6 a7 a8 al M6 B6 S6 X6 HHN
      have s0 := S7.out.cell (i := 0) rfl
      have s1 := S7.out.cell (i := 1) rfl
      have s2 := S7.out.cell (i := 2) rfl
      have s3 := S7.out.cell (i := 3) rfl
      have s4 := S7.out.cell (i := 4) rfl
      have s5 := S7.out.cell (i := 5) rfl
      have s6 := S7.out.cell (i := 6) rfl
      have s7 := S7.out.cell (i := 7) rfl
      have s8 := S7.out.cell (i := 8) rfl
      have s9 := S7.out.cell (i := 9) rfl
      have s10 := S7.out.cell (i := 10) rfl
      have s11 := S7.out.cell (i := 11) rfl
      have s12 := S7.out.cell (i := 12) rfl
      have sf12 := S7.out.live 12
      have sl := S7.out.lt
      (try simp only [GW.to] at s0 s1 s2 s3 s4 s5 s6 s7 s8 s9 s10 s11 s12 sf12 sl)
      go_wp2_with fail
      have M8 := Lib.hid (show Mod (fun _ => False) ⟨fun _ => 0, w⟩ ⟨own7, _⟩ from Mod.stn (b := bc) (i := 12) (v := .pointer (some ⟨bh, 0, none⟩)) M7.out HBS.out)
      have B8 := Lib.hid (B7.out.setOther 12 (.pointer (some ⟨bh, 0, none⟩)) hne)
      have S8 := Lib.hid (show Blk ⟨own7, _⟩ 8 bc 57 (rcr c (.pointer (some ⟨bm, 0, none⟩)) (.pointer (some ⟨bs, 0, none⟩)) (.pointer (some ⟨bsp, 0, none⟩)) (.pointer (some ⟨bh, 0, none⟩))) from S7.out.set 12 (.pointer (some ⟨bh, 0, none⟩)))
      have X8 := Lib.hid (show RMemAt ⟨own7, _⟩ 7 bm (memLaid c 0).l by
        rw [memLaid_zero, ← HNM.out]
        exact X7.out.keep (Mod.set (T := fun x => x = 8) (g := ⟨own7, w7⟩) (b := bc) (i := 12) (v := .pointer (some ⟨bh, 0, none⟩)) S7.out.own) (by decide))
      clear s0 s1 s2 s3 s4 s5 s6 s7 s8 s9 s10 s11 s12 sf12 sl M7 B7 S7 X7
      go_loopw [6] (fun i wr => ∃ (k : Nat) (own : Nat → Nat), (k : Int) ≤ c.globals ∧ i = .int .i64 k ∧ Hid (Mod (fun x => x = 7) ⟨fun _ => 0, w⟩ ⟨own, wr⟩) ∧ Hid (Blk ⟨own, wr⟩ 9 w.heap.size 24 [.int .i64 c.frags, .int .i64 c.spine, .int .i64 c.globals, .int .i64 c.threads, .int .i64 c.locals, .int .i64 c.cache, .int .i64 c.stack, .int .i64 c.low, .slice c.A c.shapes.length c.cap]) ∧ Hid (Blk ⟨own, wr⟩ 8 bc 57 (rcr c (.pointer (some ⟨bm, 0, none⟩)) (.pointer (some ⟨bs, 0, none⟩)) (.pointer (some ⟨bsp, 0, none⟩)) (.pointer (some ⟨bh, 0, none⟩)))) ∧ Hid (RMemAt ⟨own, wr⟩ 7 bm (memLaid c k).l)) (fun i _ => c.globals.toNat - (intOf i).toNat)
      case atStart => exact ⟨0, own7, r4, rfl, Lib.hid (M8.out.mono (fun x hx => hx.elim)), B8, S8, X8⟩
      case round =>
        obtain ⟨k, own9, hk, rfl, M9, B9, S9, X9⟩ := hrel
        obtain ⟨w9, rfl⟩ : ∃ w9 : World, w9 = wr := ⟨_, rfl⟩
        clear M8 B8 S8 X8
        have E9 := Lib.hid (show Ext w w9 from (M9.out.nothing (fun j hj e => by cases e)).toExt)
        have a0 := B9.out.cell (i := 0) rfl
        have a1 := B9.out.cell (i := 1) rfl
        have a2 := B9.out.cell (i := 2) rfl
        have a3 := B9.out.cell (i := 3) rfl
        have a4 := B9.out.cell (i := 4) rfl
        have a5 := B9.out.cell (i := 5) rfl
        have a6 := B9.out.cell (i := 6) rfl
        have a7 := B9.out.cell (i := 7) rfl
        have a8 := B9.out.cell (i := 8) rfl
        have al := B9.out.lt
        (try simp only [GW.to] at a0 a1 a2 a3 a4 a5 a6 a7 a8 al)
        by_cases hlt : (k : Int) < c.globals
        · have HG9 := Lib.hid (HGL.out k w9 E9.out hlt)
          obtain ⟨a, ha⟩ := Int.eq_ofNat_of_zero_le (show 0 ≤ cAtV c 3 (k : Nat) by rw [HAT.out k hlt]; omega)
          have hal : a < (memLaid c k).l.length := by rw [memLaid_len]; have := HNV.out; have := HNM.out; have := HAT.out k hlt; omega
          have HLD := Lib.hid (memLaid_set c k a ha hal)
          rw [ha] at HG9
          have hll : (memLaid c k).l.length = N := by rw [memLaid_len]; exact HNM.out.symm
          clear ha
          go_wp2_with fail
          refine HG9.out.mono ?_
          rintro e w10 ⟨rfl, hX⟩
          obtain ⟨own10, m10⟩ := Mod.ofExt (show Ext w9 w10 from hX) own9
          have M10 := Lib.hid (M9.out.trans (m10.mono (fun x hx => hx.elim)))
          have B10 := Lib.hid (B9.out.keep m10 id)
          have S10 := Lib.hid (S9.out.keep m10 id)
          have X10 := Lib.hid (X9.out.keep m10 id)
          clear m10 hX a0 a1 a2 a3 a4 a5 a6 a7 a8 al HG9
          have s0 := S10.out.cell (i := 0) rfl
          have s1 := S10.out.cell (i := 1) rfl
          have s2 := S10.out.cell (i := 2) rfl
          have s3 := S10.out.cell (i := 3) rfl
          have s4 := S10.out.cell (i := 4) rfl
          have s5 := S10.out.cell (i := 5) rfl
          have s6 := S10.out.cell (i := 6) rfl
          have s7 := S10.out.cell (i := 7) rfl
          have s8 := S10.out.cell (i := 8) rfl
          have s9 := S10.out.cell (i := 9) rfl
          have s10 := S10.out.cell (i := 10) rfl
          have s11 := S10.out.cell (i := 11) rfl
          have s12 := S10.out.cell (i := 12) rfl
          have sl := S10.out.lt
          (try simp only [GW.to] at s0 s1 s2 s3 s4 s5 s6 s7 s8 s9 s10 s11 s12 sl)
          obtain ⟨r, rc, hb, ho, hrl, hrf, hbr, ⟨rv, hrv⟩, hset⟩ := X10.out.word hal
          have HST := Lib.hid hset
          have HO := Lib.hid ho
          have HBB := Lib.hid hb
          rw [hll] at hal HBB
          have m0 := HBB.out.cell (i := 0) rfl
          have m1 := HBB.out.cell (i := 1) rfl
          have ml := HBB.out.lt
          (try simp only [GW.to] at m0 m1 ml)
          simp only at hrl hrf hrv
          clear hset ho hb hll
          go_wp2_with fail
          refine wp_region_mixed [true, true, true, true, true, true, true, true, true, true, false] 1 10 (by kernel_rfl) (by kernel_rfl) (by kernel_rfl) ?_ (by decide) (by decide) (by decide) (by kernel_rfl) ?_
          · intro c a d v w h; cases d <;> exact h
          intro X00
          simp only [pickOps]
          repeat (go_big_quiet_step ((go_at_call 89; exact Calls.added (same_gives (rnone_any _)))))
          refine wpQuiet_nil (fun X0 => ?_)
          clear X00
          refine wpAnyM_last 10 _ (by kernel_rfl) (by kernel_rfl) rfl rfl (fun X1 K Q' hK => ?_)
          go_simp
          refine hK _ _ (fun X2 => ?_)
          clear hK K Q'
          go_wp2_with fail
          go_roundw
          case rel =>
            have q1 := Mod.set (T := fun x => x = 7) (g := ⟨own10, w10⟩) (b := r) (i := a) (v := .complex .f64 0 4607182418800017408) HO.out
            have q2 := fun X => Mod.pt (Mod.refl (fun _ => False) (⟨own10, w10.setCell ⟨r, a, none⟩ (.complex .f64 0 4607182418800017408)⟩ : GW)) X
            exact ⟨k + 1, _, by omega, by go_num, Lib.hid (Mod.pt (M10.out.trans q1) _), Lib.hid ((B10.out.keep q1 (by decide)).pt _), Lib.hid ((S10.out.keep q1 (by decide)).pt _), Lib.hid (by rw [HLD.out]; exact (HST.out _ _).keep (q2 _) id)⟩
          case measure => simp [intOf]; omega
        · have hkk : k = c.globals.toNat := by omega
          obtain ⟨A, cap, hb, hr⟩ := X9.out.ex
          rw [memLaid_len] at hb
          have HB := Lib.hid hb
          have HR := Lib.hid hr
          have HKK := Lib.hid hkk
          clear hb hr hkk
          go_wp2_with fail
          go_ret2
          unfold RCoreMade
          rw [if_pos HCKZ.out]
          refine ⟨bc, bm, A, cap, ?_, E9.out, S9.out.lt, HB.out.lt, S9.out.cell (i := 9) rfl, HB.out.cell (i := 0) rfl, by rw [← HKK.out]; exact HR.out.cells⟩
          show Ending.returned (.tuple #[.pointer (some ⟨bc, 0, none⟩), .int .i64 c.check]) = _
          rw [HCKZ.out]
end Go.Proofs.Ythebmcbpmboblaa
