import Derived.Test.YtnebimabokgofaaGreatMgSpaceS
import Derived.Test.YtnebimabokgofaaGreatMgShade
import Derived.Test.YtnebimabokgofaaGreatGhost
import Derived.Test.YtnebimabokgofaaGreatMemO
import Derived.Test.YtnebimabokgofaaGreatCoil
import Derived.Deep.RegionWith
/-
  sporef1: in, MayShape, Check, None, Words, Global; sporef6: NewCoil.
-/
/-
  sporef1: in, MayShape, Check, None, Words, Global. (Printed by gen_rcheck.py.)
-/
namespace Go.Proofs.YtnebimabokgofaaGreat
open Go Go.RowKit
set_option linter.unusedVariables false
set_option linter.unnecessarySimpa false
set_option linter.unusedSimpArgs false
set_option maxHeartbeats 4000000
theorem rin_any (a b c : Int) (w : World) : Calls Tryz.prog 52 #[.int .i64 a, .int .i64 b, .int .i64 c] w (fun e w' => e = .returned (.bool (within a b c)) ∧ w = w') := by
  by_cases h : b ≤ a
  · have HV := Lib.hid (show within a b c = decide (a ≤ c) by simp [within, h])
    go_enter Tryz.func52, Tryz.ntmps52
    go_wp2_with fail
    go_ret
    exact ⟨by rw [HV.out]; try rfl, rfl⟩
  · have HV := Lib.hid (show within a b c = false by simp [within]; omega)
    go_enter Tryz.func52, Tryz.ntmps52
    go_wp2_with fail
    go_ret
    exact ⟨by rw [HV.out]; try rfl, rfl⟩
theorem rmay_any (s : Shp) (w : World) (hs : s.Ok w) : Calls Tryz.prog 53 #[s.val] w (Gives (.bool s.may) w) := by
  obtain ⟨arr, A, cap, refs⟩ := s
  have hl := hs.max
  simp only [Shp.val, Shp.may] at hl ⊢
  generalize refs.length = n at *
  clear hs
  cases arr
  · go_enter Tryz.func53, Tryz.ntmps53
    go_wp2_with fail
    go_ret
    exact Gives.bool (by simp; try omega) (by (repeat (first | (with_reducible assumption) | (with_reducible exact Ext.refl _) | (with_reducible exact Ext.more _ _ _ _) | apply Ext.alloc | refine Ext.setCell ?_ (by first | exact Nat.le_refl _ | exact Nat.le_add_right _ _ | assumption) _ | apply Ext.patch | apply Ext.drew | apply Ext.drewN)))
  · by_cases h : n = 1
    · subst h
      go_enter Tryz.func53, Tryz.ntmps53
      go_wp2_with fail
      go_ret
      exact Gives.bool (by simp) (by (repeat (first | (with_reducible assumption) | (with_reducible exact Ext.refl _) | (with_reducible exact Ext.more _ _ _ _) | apply Ext.alloc | refine Ext.setCell ?_ (by first | exact Nat.le_refl _ | exact Nat.le_add_right _ _ | assumption) _ | apply Ext.patch | apply Ext.drew | apply Ext.drewN)))
    · have hn : ((n : Int) == 1) = false := by rw [show (1 : Int) = ((1 : Nat) : Int) from rfl, beq_cast]; simpa using h
      go_enter Tryz.func53, Tryz.ntmps53
      go_wp2_with fail
      go_ret
      exact Gives.bool (by simp; omega) (by (repeat (first | (with_reducible assumption) | (with_reducible exact Ext.refl _) | (with_reducible exact Ext.more _ _ _ _) | apply Ext.alloc | refine Ext.setCell ?_ (by first | exact Nat.le_refl _ | exact Nat.le_add_right _ _ | assumption) _ | apply Ext.patch | apply Ext.drew | apply Ext.drewN)))
set_option maxRecDepth 100000 in
theorem rcheck_any (c : Cnf) (w : World) (hc : c.Ok w) : Calls Tryz.prog 13 #[c.val] w (Gives (.int .i64 c.check) w) := by
  have HC := Lib.hid hc
  unfold Cnf.val
  clear hc
  cases h0 : within c.frags 4 1024
  · have HV := Lib.hid (Cnf.check_out (c := c) (k := 0) (by simp [Cnf.ranges, h0]))
    go_enter Tryz.func13, Tryz.ntmps13
    go_wp2_with fail
    refine (rin_any _ _ _ _).mono ?_
    rw [h0]
    rintro e w' ⟨rfl, rfl⟩
    go_wp2_with fail
    go_ret
    exact Gives.int (by rw [HV.out]) (by (repeat (first | (with_reducible assumption) | (with_reducible exact Ext.refl _) | (with_reducible exact Ext.more _ _ _ _) | apply Ext.alloc | refine Ext.setCell ?_ (by first | exact Nat.le_refl _ | exact Nat.le_add_right _ _ | assumption) _ | apply Ext.patch | apply Ext.drew | apply Ext.drewN)))
  cases h1 : within c.spine 0 2048
  · have HV := Lib.hid (Cnf.check_out (c := c) (k := 1) (by simp [Cnf.ranges, h1]))
    go_enter Tryz.func13, Tryz.ntmps13
    go_wp2_with fail
    refine (rin_any _ _ _ _).mono ?_
    rw [h0]
    rintro e w' ⟨rfl, rfl⟩
    go_wp2_with fail
    refine (rin_any _ _ _ _).mono ?_
    rw [h1]
    rintro e w' ⟨rfl, rfl⟩
    go_wp2_with fail
    go_ret
    exact Gives.int (by rw [HV.out]) (by (repeat (first | (with_reducible assumption) | (with_reducible exact Ext.refl _) | (with_reducible exact Ext.more _ _ _ _) | apply Ext.alloc | refine Ext.setCell ?_ (by first | exact Nat.le_refl _ | exact Nat.le_add_right _ _ | assumption) _ | apply Ext.patch | apply Ext.drew | apply Ext.drewN)))
  cases h2 : within c.globals 0 8
  · have HV := Lib.hid (Cnf.check_out (c := c) (k := 2) (by simp [Cnf.ranges, h2]))
    go_enter Tryz.func13, Tryz.ntmps13
    go_wp2_with fail
    refine (rin_any _ _ _ _).mono ?_
    rw [h0]
    rintro e w' ⟨rfl, rfl⟩
    go_wp2_with fail
    refine (rin_any _ _ _ _).mono ?_
    rw [h1]
    rintro e w' ⟨rfl, rfl⟩
    go_wp2_with fail
    refine (rin_any _ _ _ _).mono ?_
    rw [h2]
    rintro e w' ⟨rfl, rfl⟩
    go_wp2_with fail
    go_ret
    exact Gives.int (by rw [HV.out]) (by (repeat (first | (with_reducible assumption) | (with_reducible exact Ext.refl _) | (with_reducible exact Ext.more _ _ _ _) | apply Ext.alloc | refine Ext.setCell ?_ (by first | exact Nat.le_refl _ | exact Nat.le_add_right _ _ | assumption) _ | apply Ext.patch | apply Ext.drew | apply Ext.drewN)))
  cases h3 : within c.threads 1 16
  · have HV := Lib.hid (Cnf.check_out (c := c) (k := 3) (by simp [Cnf.ranges, h3]))
    go_enter Tryz.func13, Tryz.ntmps13
    go_wp2_with fail
    refine (rin_any _ _ _ _).mono ?_
    rw [h0]
    rintro e w' ⟨rfl, rfl⟩
    go_wp2_with fail
    refine (rin_any _ _ _ _).mono ?_
    rw [h1]
    rintro e w' ⟨rfl, rfl⟩
    go_wp2_with fail
    refine (rin_any _ _ _ _).mono ?_
    rw [h2]
    rintro e w' ⟨rfl, rfl⟩
    go_wp2_with fail
    refine (rin_any _ _ _ _).mono ?_
    rw [h3]
    rintro e w' ⟨rfl, rfl⟩
    go_wp2_with fail
    go_ret
    exact Gives.int (by rw [HV.out]) (by (repeat (first | (with_reducible assumption) | (with_reducible exact Ext.refl _) | (with_reducible exact Ext.more _ _ _ _) | apply Ext.alloc | refine Ext.setCell ?_ (by first | exact Nat.le_refl _ | exact Nat.le_add_right _ _ | assumption) _ | apply Ext.patch | apply Ext.drew | apply Ext.drewN)))
  cases h4 : within c.locals 1 8
  · have HV := Lib.hid (Cnf.check_out (c := c) (k := 4) (by simp [Cnf.ranges, h4]))
    go_enter Tryz.func13, Tryz.ntmps13
    go_wp2_with fail
    refine (rin_any _ _ _ _).mono ?_
    rw [h0]
    rintro e w' ⟨rfl, rfl⟩
    go_wp2_with fail
    refine (rin_any _ _ _ _).mono ?_
    rw [h1]
    rintro e w' ⟨rfl, rfl⟩
    go_wp2_with fail
    refine (rin_any _ _ _ _).mono ?_
    rw [h2]
    rintro e w' ⟨rfl, rfl⟩
    go_wp2_with fail
    refine (rin_any _ _ _ _).mono ?_
    rw [h3]
    rintro e w' ⟨rfl, rfl⟩
    go_wp2_with fail
    refine (rin_any _ _ _ _).mono ?_
    rw [h4]
    rintro e w' ⟨rfl, rfl⟩
    go_wp2_with fail
    go_ret
    exact Gives.int (by rw [HV.out]) (by (repeat (first | (with_reducible assumption) | (with_reducible exact Ext.refl _) | (with_reducible exact Ext.more _ _ _ _) | apply Ext.alloc | refine Ext.setCell ?_ (by first | exact Nat.le_refl _ | exact Nat.le_add_right _ _ | assumption) _ | apply Ext.patch | apply Ext.drew | apply Ext.drewN)))
  cases h5 : within c.cache 0 8
  · have HV := Lib.hid (Cnf.check_out (c := c) (k := 5) (by simp [Cnf.ranges, h5]))
    go_enter Tryz.func13, Tryz.ntmps13
    go_wp2_with fail
    refine (rin_any _ _ _ _).mono ?_
    rw [h0]
    rintro e w' ⟨rfl, rfl⟩
    go_wp2_with fail
    refine (rin_any _ _ _ _).mono ?_
    rw [h1]
    rintro e w' ⟨rfl, rfl⟩
    go_wp2_with fail
    refine (rin_any _ _ _ _).mono ?_
    rw [h2]
    rintro e w' ⟨rfl, rfl⟩
    go_wp2_with fail
    refine (rin_any _ _ _ _).mono ?_
    rw [h3]
    rintro e w' ⟨rfl, rfl⟩
    go_wp2_with fail
    refine (rin_any _ _ _ _).mono ?_
    rw [h4]
    rintro e w' ⟨rfl, rfl⟩
    go_wp2_with fail
    refine (rin_any _ _ _ _).mono ?_
    rw [h5]
    rintro e w' ⟨rfl, rfl⟩
    go_wp2_with fail
    go_ret
    exact Gives.int (by rw [HV.out]) (by (repeat (first | (with_reducible assumption) | (with_reducible exact Ext.refl _) | (with_reducible exact Ext.more _ _ _ _) | apply Ext.alloc | refine Ext.setCell ?_ (by first | exact Nat.le_refl _ | exact Nat.le_add_right _ _ | assumption) _ | apply Ext.patch | apply Ext.drew | apply Ext.drewN)))
  cases h6 : within c.stack 1 256
  · have HV := Lib.hid (Cnf.check_out (c := c) (k := 6) (by simp [Cnf.ranges, h6]))
    go_enter Tryz.func13, Tryz.ntmps13
    go_wp2_with fail
    refine (rin_any _ _ _ _).mono ?_
    rw [h0]
    rintro e w' ⟨rfl, rfl⟩
    go_wp2_with fail
    refine (rin_any _ _ _ _).mono ?_
    rw [h1]
    rintro e w' ⟨rfl, rfl⟩
    go_wp2_with fail
    refine (rin_any _ _ _ _).mono ?_
    rw [h2]
    rintro e w' ⟨rfl, rfl⟩
    go_wp2_with fail
    refine (rin_any _ _ _ _).mono ?_
    rw [h3]
    rintro e w' ⟨rfl, rfl⟩
    go_wp2_with fail
    refine (rin_any _ _ _ _).mono ?_
    rw [h4]
    rintro e w' ⟨rfl, rfl⟩
    go_wp2_with fail
    refine (rin_any _ _ _ _).mono ?_
    rw [h5]
    rintro e w' ⟨rfl, rfl⟩
    go_wp2_with fail
    refine (rin_any _ _ _ _).mono ?_
    rw [h6]
    rintro e w' ⟨rfl, rfl⟩
    go_wp2_with fail
    go_ret
    exact Gives.int (by rw [HV.out]) (by (repeat (first | (with_reducible assumption) | (with_reducible exact Ext.refl _) | (with_reducible exact Ext.more _ _ _ _) | apply Ext.alloc | refine Ext.setCell ?_ (by first | exact Nat.le_refl _ | exact Nat.le_add_right _ _ | assumption) _ | apply Ext.patch | apply Ext.drew | apply Ext.drewN)))
  cases h7 : within c.low 0 c.frags
  · have HV := Lib.hid (Cnf.check_out (c := c) (k := 7) (by simp [Cnf.ranges, h7]))
    go_enter Tryz.func13, Tryz.ntmps13
    go_wp2_with fail
    refine (rin_any _ _ _ _).mono ?_
    rw [h0]
    rintro e w' ⟨rfl, rfl⟩
    go_wp2_with fail
    refine (rin_any _ _ _ _).mono ?_
    rw [h1]
    rintro e w' ⟨rfl, rfl⟩
    go_wp2_with fail
    refine (rin_any _ _ _ _).mono ?_
    rw [h2]
    rintro e w' ⟨rfl, rfl⟩
    go_wp2_with fail
    refine (rin_any _ _ _ _).mono ?_
    rw [h3]
    rintro e w' ⟨rfl, rfl⟩
    go_wp2_with fail
    refine (rin_any _ _ _ _).mono ?_
    rw [h4]
    rintro e w' ⟨rfl, rfl⟩
    go_wp2_with fail
    refine (rin_any _ _ _ _).mono ?_
    rw [h5]
    rintro e w' ⟨rfl, rfl⟩
    go_wp2_with fail
    refine (rin_any _ _ _ _).mono ?_
    rw [h6]
    rintro e w' ⟨rfl, rfl⟩
    go_wp2_with fail
    refine (rin_any _ _ _ _).mono ?_
    rw [h7]
    rintro e w' ⟨rfl, rfl⟩
    go_wp2_with fail
    go_ret
    exact Gives.int (by rw [HV.out]) (by (repeat (first | (with_reducible assumption) | (with_reducible exact Ext.refl _) | (with_reducible exact Ext.more _ _ _ _) | apply Ext.alloc | refine Ext.setCell ?_ (by first | exact Nat.le_refl _ | exact Nat.le_add_right _ _ | assumption) _ | apply Ext.patch | apply Ext.drew | apply Ext.drewN)))
  have HRG := Lib.hid (show c.rangedTo 8 = true by simp [Cnf.rangedTo, Cnf.ranges, h0, h1, h2, h3, h4, h5, h6, h7])
  obtain ⟨⟨_, _⟩, _, _, ⟨_, _⟩, _, ⟨_, _⟩, _, _⟩ := Cnf.ranged HRG.out
  have hm1 : 0 ≤ c.threads * c.cache := Int.mul_nonneg (by omega) (by omega)
  have hm2 : c.threads * c.cache ≤ 16 * 8 := Int.mul_le_mul (by omega) (by omega) (by omega) (by omega)
  have hmax := HC.out.max
  by_cases hp : c.threads * c.cache ≤ c.frags
  case neg =>
    have HV := Lib.hid (show c.check = 1 by simp [Cnf.check, hp])
    go_enter Tryz.func13, Tryz.ntmps13
    go_wp2_with fail
    refine (rin_any _ _ _ _).mono ?_
    rw [h0]
    rintro e w' ⟨rfl, rfl⟩
    go_wp2_with fail
    refine (rin_any _ _ _ _).mono ?_
    rw [h1]
    rintro e w' ⟨rfl, rfl⟩
    go_wp2_with fail
    refine (rin_any _ _ _ _).mono ?_
    rw [h2]
    rintro e w' ⟨rfl, rfl⟩
    go_wp2_with fail
    refine (rin_any _ _ _ _).mono ?_
    rw [h3]
    rintro e w' ⟨rfl, rfl⟩
    go_wp2_with fail
    refine (rin_any _ _ _ _).mono ?_
    rw [h4]
    rintro e w' ⟨rfl, rfl⟩
    go_wp2_with fail
    refine (rin_any _ _ _ _).mono ?_
    rw [h5]
    rintro e w' ⟨rfl, rfl⟩
    go_wp2_with fail
    refine (rin_any _ _ _ _).mono ?_
    rw [h6]
    rintro e w' ⟨rfl, rfl⟩
    go_wp2_with fail
    refine (rin_any _ _ _ _).mono ?_
    rw [h7]
    rintro e w' ⟨rfl, rfl⟩
    go_wp2_with fail
    go_ret
    exact Gives.int (by rw [HV.out]) (by (repeat (first | (with_reducible assumption) | (with_reducible exact Ext.refl _) | (with_reducible exact Ext.more _ _ _ _) | apply Ext.alloc | refine Ext.setCell ?_ (by first | exact Nat.le_refl _ | exact Nat.le_add_right _ _ | assumption) _ | apply Ext.patch | apply Ext.drew | apply Ext.drewN)))
  case pos =>
    cases h8 : within c.shapes.length 1 8
    · have HV := Lib.hid (show c.check = 4 by simp [Cnf.check, HRG.out, hp, h8])
      go_enter Tryz.func13, Tryz.ntmps13
      go_wp2_with fail
      refine (rin_any _ _ _ _).mono ?_
      rw [h0]
      rintro e w' ⟨rfl, rfl⟩
      go_wp2_with fail
      refine (rin_any _ _ _ _).mono ?_
      rw [h1]
      rintro e w' ⟨rfl, rfl⟩
      go_wp2_with fail
      refine (rin_any _ _ _ _).mono ?_
      rw [h2]
      rintro e w' ⟨rfl, rfl⟩
      go_wp2_with fail
      refine (rin_any _ _ _ _).mono ?_
      rw [h3]
      rintro e w' ⟨rfl, rfl⟩
      go_wp2_with fail
      refine (rin_any _ _ _ _).mono ?_
      rw [h4]
      rintro e w' ⟨rfl, rfl⟩
      go_wp2_with fail
      refine (rin_any _ _ _ _).mono ?_
      rw [h5]
      rintro e w' ⟨rfl, rfl⟩
      go_wp2_with fail
      refine (rin_any _ _ _ _).mono ?_
      rw [h6]
      rintro e w' ⟨rfl, rfl⟩
      go_wp2_with fail
      refine (rin_any _ _ _ _).mono ?_
      rw [h7]
      rintro e w' ⟨rfl, rfl⟩
      go_wp2_with fail
      refine (rin_any _ _ _ _).mono ?_
      rw [h8]
      rintro e w' ⟨rfl, rfl⟩
      go_wp2_with fail
      go_ret
      exact Gives.int (by rw [HV.out]) (by (repeat (first | (with_reducible assumption) | (with_reducible exact Ext.refl _) | (with_reducible exact Ext.more _ _ _ _) | apply Ext.alloc | refine Ext.setCell ?_ (by first | exact Nat.le_refl _ | exact Nat.le_add_right _ _ | assumption) _ | apply Ext.patch | apply Ext.drew | apply Ext.drewN)))
    · have HV := Lib.hid (show c.check = if badIn c.shapes then 4 else 0 by simp only [Cnf.check, HRG.out, hp, h8]; cases badIn c.shapes <;> simp)
      go_enter Tryz.func13, Tryz.ntmps13
      go_wp2_with fail
      refine (rin_any _ _ _ _).mono ?_
      rw [h0]
      rintro e w' ⟨rfl, rfl⟩
      go_wp2_with fail
      refine (rin_any _ _ _ _).mono ?_
      rw [h1]
      rintro e w' ⟨rfl, rfl⟩
      go_wp2_with fail
      refine (rin_any _ _ _ _).mono ?_
      rw [h2]
      rintro e w' ⟨rfl, rfl⟩
      go_wp2_with fail
      refine (rin_any _ _ _ _).mono ?_
      rw [h3]
      rintro e w' ⟨rfl, rfl⟩
      go_wp2_with fail
      refine (rin_any _ _ _ _).mono ?_
      rw [h4]
      rintro e w' ⟨rfl, rfl⟩
      go_wp2_with fail
      refine (rin_any _ _ _ _).mono ?_
      rw [h5]
      rintro e w' ⟨rfl, rfl⟩
      go_wp2_with fail
      refine (rin_any _ _ _ _).mono ?_
      rw [h6]
      rintro e w' ⟨rfl, rfl⟩
      go_wp2_with fail
      refine (rin_any _ _ _ _).mono ?_
      rw [h7]
      rintro e w' ⟨rfl, rfl⟩
      go_wp2_with fail
      refine (rin_any _ _ _ _).mono ?_
      rw [h8]
      rintro e w' ⟨rfl, rfl⟩
      have hE0 := Lib.hid (show Ext w (w.alloc (.cells #[.int .i64 c.frags, .int .i64 c.spine, .int .i64 c.globals, .int .i64 c.threads, .int .i64 c.locals, .int .i64 c.cache, .int .i64 c.stack, .int .i64 c.low, .slice c.A c.shapes.length c.cap] 24)) by (repeat (first | (with_reducible assumption) | (with_reducible exact Ext.refl _) | (with_reducible exact Ext.more _ _ _ _) | apply Ext.alloc | refine Ext.setCell ?_ (by first | exact Nat.le_refl _ | exact Nat.le_add_right _ _ | assumption) _ | apply Ext.patch | apply Ext.drew | apply Ext.drewN)))
      have hbx := Blk.new ⟨fun _ => 0, w⟩ 9 24 [.int .i64 c.frags, .int .i64 c.spine, .int .i64 c.globals, .int .i64 c.threads, .int .i64 c.locals, .int .i64 c.cache, .int .i64 c.stack, .int .i64 c.low, .slice c.A c.shapes.length c.cap]
      have HBX := Lib.hid hbx
      clear hbx
      go_wp2_with fail
      generalize w.alloc (.cells #[.int .i64 c.frags, .int .i64 c.spine, .int .i64 c.globals, .int .i64 c.threads, .int .i64 c.locals, .int .i64 c.cache, .int .i64 c.stack, .int .i64 c.low, .slice c.A c.shapes.length c.cap] 24) = W at *
      go_loopw [3] (fun i wr => ∃ k : Nat, k ≤ c.shapes.length ∧ i = .int .i64 k ∧ Hid (∀ s ∈ c.shapes.take k, s.may = true) ∧ Hid (Ext W wr)) (fun i _ => c.shapes.length - (intOf i).toNat)
      case atStart => exact ⟨0, Nat.zero_le _, rfl, Lib.hid (by simp), Lib.hid (Ext.refl _)⟩
      case round =>
        obtain ⟨k, hk, rfl, HM, HE⟩ := hrel
        have b8 := (HE.out.cell (HBX.out.lt)).trans (HBX.out.cell (i := 8) rfl)
        have bl := Nat.lt_of_lt_of_le HBX.out.lt HE.out.size
        by_cases hlt : k < c.shapes.length
        · obtain ⟨b, o, hA, hb, g0, g1⟩ := shapes_at (HC.out.cells.ext (hE0.out.trans HE.out)) hlt
          have HSK := Lib.hid ((HC.out.shapes c.shapes[k] (List.getElem_mem hlt)).ext (hE0.out.trans HE.out))
          have hk' : c.shapes[k]? = some c.shapes[k] := List.getElem?_eq_getElem hlt
          generalize c.shapes[k] = s at *
          cases hb2 : s.may
          · have HB := Lib.hid (badIn_yes hk' hb2)
            have HB2 := Lib.hid hb2
            clear hk' hb2
            go_wp2_with fail
            refine (rmay_any s _ HSK.out).mono ?_
            rw [HB2.out]
            rintro e w1 ⟨rfl, hX⟩
            have hE1 : Ext wr w1 := hX
            have hE2 := HE.out
            have hE3 := hE0.out
            go_wp2_with fail
            go_ret
            exact Gives.int (by rw [HV.out, HB.out]; rfl) (hE3.trans (hE2.trans hE1))
          · have HT := Lib.hid (take_all hk' HM.out hb2)
            have HB2 := Lib.hid hb2
            clear hk' hb2
            go_wp2_with fail
            refine (rmay_any s _ HSK.out).mono ?_
            rw [HB2.out]
            rintro e w1 ⟨rfl, hX⟩
            have hE1 := Lib.hid (HE.out.trans (show Ext wr w1 from hX))
            clear hX
            go_wp2_with fail
            rw [← hA]
            go_roundw
            case rel => exact ⟨k + 1, by omega, by go_num, HT, hE1⟩
            case measure => simp [intOf]; omega
        · have HB := Lib.hid (badIn_no (l := c.shapes) (by intro s hs; exact HM.out s (by rw [List.take_of_length_le (by omega)]; exact hs)))
          have hE2 := HE.out
          have hE3 := hE0.out
          go_wp2_with fail
          go_ret
          exact Gives.int (by rw [HV.out, HB.out]; rfl) (hE3.trans hE2)
end Go.Proofs.YtnebimabokgofaaGreat
/-
  sporef1: Words, Global; sporef6: NewCoil.
-/
namespace Go.Proofs.YtnebimabokgofaaGreat
open Go Go.RowKit
set_option linter.unusedVariables false
set_option linter.unnecessarySimpa false
set_option linter.unusedSimpArgs false
set_option maxHeartbeats 4000000
end Go.Proofs.YtnebimabokgofaaGreat

