/-
  tale.one: the operation of four bytes. (The walks are printed by a program.)
-/
import Derived.Test.YtlddahifhefjiaaChecked
import Derived.Test.YtlddahifhefjiaaTale
namespace Go.Proofs.Ytlddahifhefjiaa
open Go Go.RowKit
set_option linter.unusedVariables false

theorem one_0_0 (k x y z : Int) (w : World) (hk0 : 0 ≤ k) (hk1 : k ≤ 255) (hx0 : 0 ≤ x) (hx1 : x ≤ 255) (hy0 : 0 ≤ y) (hy1 : y ≤ 255) (hz0 : 0 ≤ z) (hz1 : z ≤ 255) (h : k % 20 = 0) (h' : y % 3 = 0) :
    Calls Try.prog 78 #[.int .u8 k, .int .i64 x, .int .i64 y, .int .i64 z] w (Gives (opOf k x y z).val w) := by
  have HV := Lib.hid (show opOf k x y z = ⟨1, x % 3, 0, 0, 0, 0, 0⟩ by simp [opOf, three, h, h'])
  go_enter Try.func78, Try.ntmps78
  go_wp2
  refine bodyPost_ret (v := (Opr.val ⟨1, x % 3, 0, 0, 0, 0, 0⟩)) (by simp [Opr.val, results, Try.results78, go_sem]) rfl ?_
  rw [HV.out]
  exact Gives.mk rfl (by (repeat (first | (with_reducible assumption) | (with_reducible exact Ext.refl _) | (with_reducible exact Ext.more _ _ _ _) | apply Ext.alloc | refine Ext.setCell ?_ (by first | exact Nat.le_refl _ | exact Nat.le_add_right _ _ | assumption) _ | apply Ext.patch | apply Ext.drew | apply Ext.drewN)))

theorem one_0_1 (k x y z : Int) (w : World) (hk0 : 0 ≤ k) (hk1 : k ≤ 255) (hx0 : 0 ≤ x) (hx1 : x ≤ 255) (hy0 : 0 ≤ y) (hy1 : y ≤ 255) (hz0 : 0 ≤ z) (hz1 : z ≤ 255) (h : k % 20 = 0) (h' : y % 3 = 1) :
    Calls Try.prog 78 #[.int .u8 k, .int .i64 x, .int .i64 y, .int .i64 z] w (Gives (opOf k x y z).val w) := by
  have HV := Lib.hid (show opOf k x y z = ⟨1, x % 3, 1, 0, 0, 0, 0⟩ by simp [opOf, three, h, h'])
  go_enter Try.func78, Try.ntmps78
  go_wp2
  refine bodyPost_ret (v := (Opr.val ⟨1, x % 3, 1, 0, 0, 0, 0⟩)) (by simp [Opr.val, results, Try.results78, go_sem]) rfl ?_
  rw [HV.out]
  exact Gives.mk rfl (by (repeat (first | (with_reducible assumption) | (with_reducible exact Ext.refl _) | (with_reducible exact Ext.more _ _ _ _) | apply Ext.alloc | refine Ext.setCell ?_ (by first | exact Nat.le_refl _ | exact Nat.le_add_right _ _ | assumption) _ | apply Ext.patch | apply Ext.drew | apply Ext.drewN)))

theorem one_0_2 (k x y z : Int) (w : World) (hk0 : 0 ≤ k) (hk1 : k ≤ 255) (hx0 : 0 ≤ x) (hx1 : x ≤ 255) (hy0 : 0 ≤ y) (hy1 : y ≤ 255) (hz0 : 0 ≤ z) (hz1 : z ≤ 255) (h : k % 20 = 0) (h' : y % 3 = 2) :
    Calls Try.prog 78 #[.int .u8 k, .int .i64 x, .int .i64 y, .int .i64 z] w (Gives (opOf k x y z).val w) := by
  have HV := Lib.hid (show opOf k x y z = ⟨1, x % 3, 4, 0, 0, 0, 0⟩ by simp [opOf, three, h, h'])
  go_enter Try.func78, Try.ntmps78
  go_wp2
  refine bodyPost_ret (v := (Opr.val ⟨1, x % 3, 4, 0, 0, 0, 0⟩)) (by simp [Opr.val, results, Try.results78, go_sem]) rfl ?_
  rw [HV.out]
  exact Gives.mk rfl (by (repeat (first | (with_reducible assumption) | (with_reducible exact Ext.refl _) | (with_reducible exact Ext.more _ _ _ _) | apply Ext.alloc | refine Ext.setCell ?_ (by first | exact Nat.le_refl _ | exact Nat.le_add_right _ _ | assumption) _ | apply Ext.patch | apply Ext.drew | apply Ext.drewN)))

theorem one_1_0 (k x y z : Int) (w : World) (hk0 : 0 ≤ k) (hk1 : k ≤ 255) (hx0 : 0 ≤ x) (hx1 : x ≤ 255) (hy0 : 0 ≤ y) (hy1 : y ≤ 255) (hz0 : 0 ≤ z) (hz1 : z ≤ 255) (h : k % 20 = 1) (h' : y % 3 = 0) :
    Calls Try.prog 78 #[.int .u8 k, .int .i64 x, .int .i64 y, .int .i64 z] w (Gives (opOf k x y z).val w) := by
  have HV := Lib.hid (show opOf k x y z = ⟨1, x % 3, 0, 0, 0, 0, 0⟩ by simp [opOf, three, h, h'])
  go_enter Try.func78, Try.ntmps78
  go_wp2
  refine bodyPost_ret (v := (Opr.val ⟨1, x % 3, 0, 0, 0, 0, 0⟩)) (by simp [Opr.val, results, Try.results78, go_sem]) rfl ?_
  rw [HV.out]
  exact Gives.mk rfl (by (repeat (first | (with_reducible assumption) | (with_reducible exact Ext.refl _) | (with_reducible exact Ext.more _ _ _ _) | apply Ext.alloc | refine Ext.setCell ?_ (by first | exact Nat.le_refl _ | exact Nat.le_add_right _ _ | assumption) _ | apply Ext.patch | apply Ext.drew | apply Ext.drewN)))

theorem one_1_1 (k x y z : Int) (w : World) (hk0 : 0 ≤ k) (hk1 : k ≤ 255) (hx0 : 0 ≤ x) (hx1 : x ≤ 255) (hy0 : 0 ≤ y) (hy1 : y ≤ 255) (hz0 : 0 ≤ z) (hz1 : z ≤ 255) (h : k % 20 = 1) (h' : y % 3 = 1) :
    Calls Try.prog 78 #[.int .u8 k, .int .i64 x, .int .i64 y, .int .i64 z] w (Gives (opOf k x y z).val w) := by
  have HV := Lib.hid (show opOf k x y z = ⟨1, x % 3, 1, 0, 0, 0, 0⟩ by simp [opOf, three, h, h'])
  go_enter Try.func78, Try.ntmps78
  go_wp2
  refine bodyPost_ret (v := (Opr.val ⟨1, x % 3, 1, 0, 0, 0, 0⟩)) (by simp [Opr.val, results, Try.results78, go_sem]) rfl ?_
  rw [HV.out]
  exact Gives.mk rfl (by (repeat (first | (with_reducible assumption) | (with_reducible exact Ext.refl _) | (with_reducible exact Ext.more _ _ _ _) | apply Ext.alloc | refine Ext.setCell ?_ (by first | exact Nat.le_refl _ | exact Nat.le_add_right _ _ | assumption) _ | apply Ext.patch | apply Ext.drew | apply Ext.drewN)))

theorem one_1_2 (k x y z : Int) (w : World) (hk0 : 0 ≤ k) (hk1 : k ≤ 255) (hx0 : 0 ≤ x) (hx1 : x ≤ 255) (hy0 : 0 ≤ y) (hy1 : y ≤ 255) (hz0 : 0 ≤ z) (hz1 : z ≤ 255) (h : k % 20 = 1) (h' : y % 3 = 2) :
    Calls Try.prog 78 #[.int .u8 k, .int .i64 x, .int .i64 y, .int .i64 z] w (Gives (opOf k x y z).val w) := by
  have HV := Lib.hid (show opOf k x y z = ⟨1, x % 3, 4, 0, 0, 0, 0⟩ by simp [opOf, three, h, h'])
  go_enter Try.func78, Try.ntmps78
  go_wp2
  refine bodyPost_ret (v := (Opr.val ⟨1, x % 3, 4, 0, 0, 0, 0⟩)) (by simp [Opr.val, results, Try.results78, go_sem]) rfl ?_
  rw [HV.out]
  exact Gives.mk rfl (by (repeat (first | (with_reducible assumption) | (with_reducible exact Ext.refl _) | (with_reducible exact Ext.more _ _ _ _) | apply Ext.alloc | refine Ext.setCell ?_ (by first | exact Nat.le_refl _ | exact Nat.le_add_right _ _ | assumption) _ | apply Ext.patch | apply Ext.drew | apply Ext.drewN)))

theorem one_2 (k x y z : Int) (w : World) (hk0 : 0 ≤ k) (hk1 : k ≤ 255) (hx0 : 0 ≤ x) (hx1 : x ≤ 255) (hy0 : 0 ≤ y) (hy1 : y ≤ 255) (hz0 : 0 ≤ z) (hz1 : z ≤ 255) (h : k % 20 = 2) :
    Calls Try.prog 78 #[.int .u8 k, .int .i64 x, .int .i64 y, .int .i64 z] w (Gives (opOf k x y z).val w) := by
  have HV := Lib.hid (show opOf k x y z = ⟨2, x % 3, 2 + y % 2, 0, z % 50, 0, 0⟩ by simp [opOf, h])
  go_enter Try.func78, Try.ntmps78
  go_wp2
  refine bodyPost_ret (v := (Opr.val ⟨2, x % 3, 2 + y % 2, 0, z % 50, 0, 0⟩)) (by simp [Opr.val, results, Try.results78, go_sem]) rfl ?_
  rw [HV.out]
  exact Gives.mk rfl (by (repeat (first | (with_reducible assumption) | (with_reducible exact Ext.refl _) | (with_reducible exact Ext.more _ _ _ _) | apply Ext.alloc | refine Ext.setCell ?_ (by first | exact Nat.le_refl _ | exact Nat.le_add_right _ _ | assumption) _ | apply Ext.patch | apply Ext.drew | apply Ext.drewN)))

theorem one_3 (k x y z : Int) (w : World) (hk0 : 0 ≤ k) (hk1 : k ≤ 255) (hx0 : 0 ≤ x) (hx1 : x ≤ 255) (hy0 : 0 ≤ y) (hy1 : y ≤ 255) (hz0 : 0 ≤ z) (hz1 : z ≤ 255) (h : k % 20 = 3) :
    Calls Try.prog 78 #[.int .u8 k, .int .i64 x, .int .i64 y, .int .i64 z] w (Gives (opOf k x y z).val w) := by
  have HV := Lib.hid (show opOf k x y z = ⟨3, x % 3, y % 3, 0, z % 9, 0, 0⟩ by simp [opOf, h])
  go_enter Try.func78, Try.ntmps78
  go_wp2
  refine bodyPost_ret (v := (Opr.val ⟨3, x % 3, y % 3, 0, z % 9, 0, 0⟩)) (by simp [Opr.val, results, Try.results78, go_sem]) rfl ?_
  rw [HV.out]
  exact Gives.mk rfl (by (repeat (first | (with_reducible assumption) | (with_reducible exact Ext.refl _) | (with_reducible exact Ext.more _ _ _ _) | apply Ext.alloc | refine Ext.setCell ?_ (by first | exact Nat.le_refl _ | exact Nat.le_add_right _ _ | assumption) _ | apply Ext.patch | apply Ext.drew | apply Ext.drewN)))

theorem one_4 (k x y z : Int) (w : World) (hk0 : 0 ≤ k) (hk1 : k ≤ 255) (hx0 : 0 ≤ x) (hx1 : x ≤ 255) (hy0 : 0 ≤ y) (hy1 : y ≤ 255) (hz0 : 0 ≤ z) (hz1 : z ≤ 255) (h : k % 20 = 4) :
    Calls Try.prog 78 #[.int .u8 k, .int .i64 x, .int .i64 y, .int .i64 z] w (Gives (opOf k x y z).val w) := by
  have HV := Lib.hid (show opOf k x y z = ⟨3, x % 3, y % 3, 0, z % 9, 0, 0⟩ by simp [opOf, h])
  go_enter Try.func78, Try.ntmps78
  go_wp2
  refine bodyPost_ret (v := (Opr.val ⟨3, x % 3, y % 3, 0, z % 9, 0, 0⟩)) (by simp [Opr.val, results, Try.results78, go_sem]) rfl ?_
  rw [HV.out]
  exact Gives.mk rfl (by (repeat (first | (with_reducible assumption) | (with_reducible exact Ext.refl _) | (with_reducible exact Ext.more _ _ _ _) | apply Ext.alloc | refine Ext.setCell ?_ (by first | exact Nat.le_refl _ | exact Nat.le_add_right _ _ | assumption) _ | apply Ext.patch | apply Ext.drew | apply Ext.drewN)))

theorem one_5 (k x y z : Int) (w : World) (hk0 : 0 ≤ k) (hk1 : k ≤ 255) (hx0 : 0 ≤ x) (hx1 : x ≤ 255) (hy0 : 0 ≤ y) (hy1 : y ≤ 255) (hz0 : 0 ≤ z) (hz1 : z ≤ 255) (h : k % 20 = 5) :
    Calls Try.prog 78 #[.int .u8 k, .int .i64 x, .int .i64 y, .int .i64 z] w (Gives (opOf k x y z).val w) := by
  have HV := Lib.hid (show opOf k x y z = ⟨4, x % 3, y % 3, 0, z % 9, 0, 0⟩ by simp [opOf, h])
  go_enter Try.func78, Try.ntmps78
  go_wp2
  refine bodyPost_ret (v := (Opr.val ⟨4, x % 3, y % 3, 0, z % 9, 0, 0⟩)) (by simp [Opr.val, results, Try.results78, go_sem]) rfl ?_
  rw [HV.out]
  exact Gives.mk rfl (by (repeat (first | (with_reducible assumption) | (with_reducible exact Ext.refl _) | (with_reducible exact Ext.more _ _ _ _) | apply Ext.alloc | refine Ext.setCell ?_ (by first | exact Nat.le_refl _ | exact Nat.le_add_right _ _ | assumption) _ | apply Ext.patch | apply Ext.drew | apply Ext.drewN)))

theorem one_6 (k x y z : Int) (w : World) (hk0 : 0 ≤ k) (hk1 : k ≤ 255) (hx0 : 0 ≤ x) (hx1 : x ≤ 255) (hy0 : 0 ≤ y) (hy1 : y ≤ 255) (hz0 : 0 ≤ z) (hz1 : z ≤ 255) (h : k % 20 = 6) :
    Calls Try.prog 78 #[.int .u8 k, .int .i64 x, .int .i64 y, .int .i64 z] w (Gives (opOf k x y z).val w) := by
  have HV := Lib.hid (show opOf k x y z = ⟨4, x % 3, y % 3, 0, z % 9, 0, 0⟩ by simp [opOf, h])
  go_enter Try.func78, Try.ntmps78
  go_wp2
  refine bodyPost_ret (v := (Opr.val ⟨4, x % 3, y % 3, 0, z % 9, 0, 0⟩)) (by simp [Opr.val, results, Try.results78, go_sem]) rfl ?_
  rw [HV.out]
  exact Gives.mk rfl (by (repeat (first | (with_reducible assumption) | (with_reducible exact Ext.refl _) | (with_reducible exact Ext.more _ _ _ _) | apply Ext.alloc | refine Ext.setCell ?_ (by first | exact Nat.le_refl _ | exact Nat.le_add_right _ _ | assumption) _ | apply Ext.patch | apply Ext.drew | apply Ext.drewN)))

theorem one_7 (k x y z : Int) (w : World) (hk0 : 0 ≤ k) (hk1 : k ≤ 255) (hx0 : 0 ≤ x) (hx1 : x ≤ 255) (hy0 : 0 ≤ y) (hy1 : y ≤ 255) (hz0 : 0 ≤ z) (hz1 : z ≤ 255) (h : k % 20 = 7) :
    Calls Try.prog 78 #[.int .u8 k, .int .i64 x, .int .i64 y, .int .i64 z] w (Gives (opOf k x y z).val w) := by
  have HV := Lib.hid (show opOf k x y z = ⟨4, x % 3, y % 3, 0, z % 9, 0, 0⟩ by simp [opOf, h])
  go_enter Try.func78, Try.ntmps78
  go_wp2
  refine bodyPost_ret (v := (Opr.val ⟨4, x % 3, y % 3, 0, z % 9, 0, 0⟩)) (by simp [Opr.val, results, Try.results78, go_sem]) rfl ?_
  rw [HV.out]
  exact Gives.mk rfl (by (repeat (first | (with_reducible assumption) | (with_reducible exact Ext.refl _) | (with_reducible exact Ext.more _ _ _ _) | apply Ext.alloc | refine Ext.setCell ?_ (by first | exact Nat.le_refl _ | exact Nat.le_add_right _ _ | assumption) _ | apply Ext.patch | apply Ext.drew | apply Ext.drewN)))

theorem one_8 (k x y z : Int) (w : World) (hk0 : 0 ≤ k) (hk1 : k ≤ 255) (hx0 : 0 ≤ x) (hx1 : x ≤ 255) (hy0 : 0 ≤ y) (hy1 : y ≤ 255) (hz0 : 0 ≤ z) (hz1 : z ≤ 255) (h : k % 20 = 8) :
    Calls Try.prog 78 #[.int .u8 k, .int .i64 x, .int .i64 y, .int .i64 z] w (Gives (opOf k x y z).val w) := by
  have HV := Lib.hid (show opOf k x y z = ⟨5, x % 3, y % 3, 0, z % 50, 0, 0⟩ by simp [opOf, h])
  go_enter Try.func78, Try.ntmps78
  go_wp2
  refine bodyPost_ret (v := (Opr.val ⟨5, x % 3, y % 3, 0, z % 50, 0, 0⟩)) (by simp [Opr.val, results, Try.results78, go_sem]) rfl ?_
  rw [HV.out]
  exact Gives.mk rfl (by (repeat (first | (with_reducible assumption) | (with_reducible exact Ext.refl _) | (with_reducible exact Ext.more _ _ _ _) | apply Ext.alloc | refine Ext.setCell ?_ (by first | exact Nat.le_refl _ | exact Nat.le_add_right _ _ | assumption) _ | apply Ext.patch | apply Ext.drew | apply Ext.drewN)))

theorem one_9 (k x y z : Int) (w : World) (hk0 : 0 ≤ k) (hk1 : k ≤ 255) (hx0 : 0 ≤ x) (hx1 : x ≤ 255) (hy0 : 0 ≤ y) (hy1 : y ≤ 255) (hz0 : 0 ≤ z) (hz1 : z ≤ 255) (h : k % 20 = 9) :
    Calls Try.prog 78 #[.int .u8 k, .int .i64 x, .int .i64 y, .int .i64 z] w (Gives (opOf k x y z).val w) := by
  have HV := Lib.hid (show opOf k x y z = ⟨6, x % 3, y % 3, 0, z % 50, 0, 0⟩ by simp [opOf, h])
  go_enter Try.func78, Try.ntmps78
  go_wp2
  refine bodyPost_ret (v := (Opr.val ⟨6, x % 3, y % 3, 0, z % 50, 0, 0⟩)) (by simp [Opr.val, results, Try.results78, go_sem]) rfl ?_
  rw [HV.out]
  exact Gives.mk rfl (by (repeat (first | (with_reducible assumption) | (with_reducible exact Ext.refl _) | (with_reducible exact Ext.more _ _ _ _) | apply Ext.alloc | refine Ext.setCell ?_ (by first | exact Nat.le_refl _ | exact Nat.le_add_right _ _ | assumption) _ | apply Ext.patch | apply Ext.drew | apply Ext.drewN)))

theorem one_10 (k x y z : Int) (w : World) (hk0 : 0 ≤ k) (hk1 : k ≤ 255) (hx0 : 0 ≤ x) (hx1 : x ≤ 255) (hy0 : 0 ≤ y) (hy1 : y ≤ 255) (hz0 : 0 ≤ z) (hz1 : z ≤ 255) (h : k % 20 = 10) :
    Calls Try.prog 78 #[.int .u8 k, .int .i64 x, .int .i64 y, .int .i64 z] w (Gives (opOf k x y z).val w) := by
  have HV := Lib.hid (show opOf k x y z = ⟨6, x % 3, y % 3, 0, z % 50, 0, 0⟩ by simp [opOf, h])
  go_enter Try.func78, Try.ntmps78
  go_wp2
  refine bodyPost_ret (v := (Opr.val ⟨6, x % 3, y % 3, 0, z % 50, 0, 0⟩)) (by simp [Opr.val, results, Try.results78, go_sem]) rfl ?_
  rw [HV.out]
  exact Gives.mk rfl (by (repeat (first | (with_reducible assumption) | (with_reducible exact Ext.refl _) | (with_reducible exact Ext.more _ _ _ _) | apply Ext.alloc | refine Ext.setCell ?_ (by first | exact Nat.le_refl _ | exact Nat.le_add_right _ _ | assumption) _ | apply Ext.patch | apply Ext.drew | apply Ext.drewN)))

theorem one_11 (k x y z : Int) (w : World) (hk0 : 0 ≤ k) (hk1 : k ≤ 255) (hx0 : 0 ≤ x) (hx1 : x ≤ 255) (hy0 : 0 ≤ y) (hy1 : y ≤ 255) (hz0 : 0 ≤ z) (hz1 : z ≤ 255) (h : k % 20 = 11) :
    Calls Try.prog 78 #[.int .u8 k, .int .i64 x, .int .i64 y, .int .i64 z] w (Gives (opOf k x y z).val w) := by
  have HV := Lib.hid (show opOf k x y z = ⟨7, x % 3, 0, 0, y % 2, 0, 0⟩ by simp [opOf, h])
  go_enter Try.func78, Try.ntmps78
  go_wp2
  refine bodyPost_ret (v := (Opr.val ⟨7, x % 3, 0, 0, y % 2, 0, 0⟩)) (by simp [Opr.val, results, Try.results78, go_sem]) rfl ?_
  rw [HV.out]
  exact Gives.mk rfl (by (repeat (first | (with_reducible assumption) | (with_reducible exact Ext.refl _) | (with_reducible exact Ext.more _ _ _ _) | apply Ext.alloc | refine Ext.setCell ?_ (by first | exact Nat.le_refl _ | exact Nat.le_add_right _ _ | assumption) _ | apply Ext.patch | apply Ext.drew | apply Ext.drewN)))

theorem one_12 (k x y z : Int) (w : World) (hk0 : 0 ≤ k) (hk1 : k ≤ 255) (hx0 : 0 ≤ x) (hx1 : x ≤ 255) (hy0 : 0 ≤ y) (hy1 : y ≤ 255) (hz0 : 0 ≤ z) (hz1 : z ≤ 255) (h : k % 20 = 12) :
    Calls Try.prog 78 #[.int .u8 k, .int .i64 x, .int .i64 y, .int .i64 z] w (Gives (opOf k x y z).val w) := by
  have HV := Lib.hid (show opOf k x y z = ⟨8, 0, x % 3, 0, y % 2, 0, 0⟩ by simp [opOf, h])
  go_enter Try.func78, Try.ntmps78
  go_wp2
  refine bodyPost_ret (v := (Opr.val ⟨8, 0, x % 3, 0, y % 2, 0, 0⟩)) (by simp [Opr.val, results, Try.results78, go_sem]) rfl ?_
  rw [HV.out]
  exact Gives.mk rfl (by (repeat (first | (with_reducible assumption) | (with_reducible exact Ext.refl _) | (with_reducible exact Ext.more _ _ _ _) | apply Ext.alloc | refine Ext.setCell ?_ (by first | exact Nat.le_refl _ | exact Nat.le_add_right _ _ | assumption) _ | apply Ext.patch | apply Ext.drew | apply Ext.drewN)))

theorem one_13 (k x y z : Int) (w : World) (hk0 : 0 ≤ k) (hk1 : k ≤ 255) (hx0 : 0 ≤ x) (hx1 : x ≤ 255) (hy0 : 0 ≤ y) (hy1 : y ≤ 255) (hz0 : 0 ≤ z) (hz1 : z ≤ 255) (h : k % 20 = 13) :
    Calls Try.prog 78 #[.int .u8 k, .int .i64 x, .int .i64 y, .int .i64 z] w (Gives (opOf k x y z).val w) := by
  have HV := Lib.hid (show opOf k x y z = ⟨13, x % 3, 0, 0, 0, 0, 0⟩ by simp [opOf, h])
  go_enter Try.func78, Try.ntmps78
  go_wp2
  refine bodyPost_ret (v := (Opr.val ⟨13, x % 3, 0, 0, 0, 0, 0⟩)) (by simp [Opr.val, results, Try.results78, go_sem]) rfl ?_
  rw [HV.out]
  exact Gives.mk rfl (by (repeat (first | (with_reducible assumption) | (with_reducible exact Ext.refl _) | (with_reducible exact Ext.more _ _ _ _) | apply Ext.alloc | refine Ext.setCell ?_ (by first | exact Nat.le_refl _ | exact Nat.le_add_right _ _ | assumption) _ | apply Ext.patch | apply Ext.drew | apply Ext.drewN)))

theorem one_14 (k x y z : Int) (w : World) (hk0 : 0 ≤ k) (hk1 : k ≤ 255) (hx0 : 0 ≤ x) (hx1 : x ≤ 255) (hy0 : 0 ≤ y) (hy1 : y ≤ 255) (hz0 : 0 ≤ z) (hz1 : z ≤ 255) (h : k % 20 = 14) :
    Calls Try.prog 78 #[.int .u8 k, .int .i64 x, .int .i64 y, .int .i64 z] w (Gives (opOf k x y z).val w) := by
  have HV := Lib.hid (show opOf k x y z = ⟨14, x % 3, y % 3, 0, 0, 0, 0⟩ by simp [opOf, h])
  go_enter Try.func78, Try.ntmps78
  go_wp2
  refine bodyPost_ret (v := (Opr.val ⟨14, x % 3, y % 3, 0, 0, 0, 0⟩)) (by simp [Opr.val, results, Try.results78, go_sem]) rfl ?_
  rw [HV.out]
  exact Gives.mk rfl (by (repeat (first | (with_reducible assumption) | (with_reducible exact Ext.refl _) | (with_reducible exact Ext.more _ _ _ _) | apply Ext.alloc | refine Ext.setCell ?_ (by first | exact Nat.le_refl _ | exact Nat.le_add_right _ _ | assumption) _ | apply Ext.patch | apply Ext.drew | apply Ext.drewN)))

theorem one_15 (k x y z : Int) (w : World) (hk0 : 0 ≤ k) (hk1 : k ≤ 255) (hx0 : 0 ≤ x) (hx1 : x ≤ 255) (hy0 : 0 ≤ y) (hy1 : y ≤ 255) (hz0 : 0 ≤ z) (hz1 : z ≤ 255) (h : k % 20 = 15) :
    Calls Try.prog 78 #[.int .u8 k, .int .i64 x, .int .i64 y, .int .i64 z] w (Gives (opOf k x y z).val w) := by
  have HV := Lib.hid (show opOf k x y z = ⟨12, x % 3, 0, 0, 0, floatOfInt .f64 x, floatOfInt .f64 y⟩ by simp [opOf, h])
  go_enter Try.func78, Try.ntmps78
  go_wp2
  refine bodyPost_ret (v := (Opr.val ⟨12, x % 3, 0, 0, 0, floatOfInt .f64 x, floatOfInt .f64 y⟩)) (by simp [Opr.val, results, Try.results78, go_sem]) rfl ?_
  rw [HV.out]
  exact Gives.mk rfl (by (repeat (first | (with_reducible assumption) | (with_reducible exact Ext.refl _) | (with_reducible exact Ext.more _ _ _ _) | apply Ext.alloc | refine Ext.setCell ?_ (by first | exact Nat.le_refl _ | exact Nat.le_add_right _ _ | assumption) _ | apply Ext.patch | apply Ext.drew | apply Ext.drewN)))

theorem one_16 (k x y z : Int) (w : World) (hk0 : 0 ≤ k) (hk1 : k ≤ 255) (hx0 : 0 ≤ x) (hx1 : x ≤ 255) (hy0 : 0 ≤ y) (hy1 : y ≤ 255) (hz0 : 0 ≤ z) (hz1 : z ≤ 255) (h : k % 20 = 16) :
    Calls Try.prog 78 #[.int .u8 k, .int .i64 x, .int .i64 y, .int .i64 z] w (Gives (opOf k x y z).val w) := by
  have HV := Lib.hid (show opOf k x y z = ⟨15 + z % 2, x % 3, y % 3, z % 3, 0, 0, 0⟩ by simp [opOf, h])
  go_enter Try.func78, Try.ntmps78
  go_wp2
  refine bodyPost_ret (v := (Opr.val ⟨15 + z % 2, x % 3, y % 3, z % 3, 0, 0, 0⟩)) (by simp [Opr.val, results, Try.results78, go_sem]) rfl ?_
  rw [HV.out]
  exact Gives.mk rfl (by (repeat (first | (with_reducible assumption) | (with_reducible exact Ext.refl _) | (with_reducible exact Ext.more _ _ _ _) | apply Ext.alloc | refine Ext.setCell ?_ (by first | exact Nat.le_refl _ | exact Nat.le_add_right _ _ | assumption) _ | apply Ext.patch | apply Ext.drew | apply Ext.drewN)))

theorem one_17 (k x y z : Int) (w : World) (hk0 : 0 ≤ k) (hk1 : k ≤ 255) (hx0 : 0 ≤ x) (hx1 : x ≤ 255) (hy0 : 0 ≤ y) (hy1 : y ≤ 255) (hz0 : 0 ≤ z) (hz1 : z ≤ 255) (h : k % 20 = 17) :
    Calls Try.prog 78 #[.int .u8 k, .int .i64 x, .int .i64 y, .int .i64 z] w (Gives (opOf k x y z).val w) := by
  have HV := Lib.hid (show opOf k x y z = ⟨9, x % 3, y % 3, z % 3, 0, 0, 0⟩ by simp [opOf, h])
  go_enter Try.func78, Try.ntmps78
  go_wp2
  refine bodyPost_ret (v := (Opr.val ⟨9, x % 3, y % 3, z % 3, 0, 0, 0⟩)) (by simp [Opr.val, results, Try.results78, go_sem]) rfl ?_
  rw [HV.out]
  exact Gives.mk rfl (by (repeat (first | (with_reducible assumption) | (with_reducible exact Ext.refl _) | (with_reducible exact Ext.more _ _ _ _) | apply Ext.alloc | refine Ext.setCell ?_ (by first | exact Nat.le_refl _ | exact Nat.le_add_right _ _ | assumption) _ | apply Ext.patch | apply Ext.drew | apply Ext.drewN)))

theorem one_18 (k x y z : Int) (w : World) (hk0 : 0 ≤ k) (hk1 : k ≤ 255) (hx0 : 0 ≤ x) (hx1 : x ≤ 255) (hy0 : 0 ≤ y) (hy1 : y ≤ 255) (hz0 : 0 ≤ z) (hz1 : z ≤ 255) (h : k % 20 = 18) :
    Calls Try.prog 78 #[.int .u8 k, .int .i64 x, .int .i64 y, .int .i64 z] w (Gives (opOf k x y z).val w) := by
  have HV := Lib.hid (show opOf k x y z = ⟨10 + z % 2, x % 3, y % 3, 0, 0, 0, 0⟩ by simp [opOf, h])
  go_enter Try.func78, Try.ntmps78
  go_wp2
  refine bodyPost_ret (v := (Opr.val ⟨10 + z % 2, x % 3, y % 3, 0, 0, 0, 0⟩)) (by simp [Opr.val, results, Try.results78, go_sem]) rfl ?_
  rw [HV.out]
  exact Gives.mk rfl (by (repeat (first | (with_reducible assumption) | (with_reducible exact Ext.refl _) | (with_reducible exact Ext.more _ _ _ _) | apply Ext.alloc | refine Ext.setCell ?_ (by first | exact Nat.le_refl _ | exact Nat.le_add_right _ _ | assumption) _ | apply Ext.patch | apply Ext.drew | apply Ext.drewN)))

theorem one_19 (k x y z : Int) (w : World) (hk0 : 0 ≤ k) (hk1 : k ≤ 255) (hx0 : 0 ≤ x) (hx1 : x ≤ 255) (hy0 : 0 ≤ y) (hy1 : y ≤ 255) (hz0 : 0 ≤ z) (hz1 : z ≤ 255) (h : k % 20 = 19) :
    Calls Try.prog 78 #[.int .u8 k, .int .i64 x, .int .i64 y, .int .i64 z] w (Gives (opOf k x y z).val w) := by
  have HV := Lib.hid (show opOf k x y z = ⟨17, 0, 0, 0, 0, 0, 0⟩ by simp [opOf, h])
  go_enter Try.func78, Try.ntmps78
  go_wp2
  refine bodyPost_ret (v := (Opr.val ⟨17, 0, 0, 0, 0, 0, 0⟩)) (by simp [Opr.val, results, Try.results78, go_sem]) rfl ?_
  rw [HV.out]
  exact Gives.mk rfl (by (repeat (first | (with_reducible assumption) | (with_reducible exact Ext.refl _) | (with_reducible exact Ext.more _ _ _ _) | apply Ext.alloc | refine Ext.setCell ?_ (by first | exact Nat.le_refl _ | exact Nat.le_add_right _ _ | assumption) _ | apply Ext.patch | apply Ext.drew | apply Ext.drewN)))

theorem one_any (k x y z : Int) (w : World) (hk : 0 ≤ k ∧ k ≤ 255) (hx : 0 ≤ x ∧ x ≤ 255) (hy : 0 ≤ y ∧ y ≤ 255) (hz : 0 ≤ z ∧ z ≤ 255) :
    Calls Try.prog 78 #[.int .u8 k, .int .i64 x, .int .i64 y, .int .i64 z] w (Gives (opOf k x y z).val w) := by
  obtain ⟨hk0, hk1⟩ := hk
  obtain ⟨hx0, hx1⟩ := hx
  obtain ⟨hy0, hy1⟩ := hy
  obtain ⟨hz0, hz1⟩ := hz
  have hr : k % 20 = 0 ∨ k % 20 = 1 ∨ k % 20 = 2 ∨ k % 20 = 3 ∨ k % 20 = 4 ∨ k % 20 = 5 ∨ k % 20 = 6 ∨ k % 20 = 7 ∨ k % 20 = 8 ∨ k % 20 = 9 ∨ k % 20 = 10 ∨ k % 20 = 11 ∨ k % 20 = 12 ∨ k % 20 = 13 ∨ k % 20 = 14 ∨ k % 20 = 15 ∨ k % 20 = 16 ∨ k % 20 = 17 ∨ k % 20 = 18 ∨ k % 20 = 19 := by omega
  have hb : y % 3 = 0 ∨ y % 3 = 1 ∨ y % 3 = 2 := by omega
  rcases hr with h | h | h | h | h | h | h | h | h | h | h | h | h | h | h | h | h | h | h | h
  · rcases hb with h' | h' | h'
    · exact one_0_0 k x y z w hk0 hk1 hx0 hx1 hy0 hy1 hz0 hz1 h h'
    · exact one_0_1 k x y z w hk0 hk1 hx0 hx1 hy0 hy1 hz0 hz1 h h'
    · exact one_0_2 k x y z w hk0 hk1 hx0 hx1 hy0 hy1 hz0 hz1 h h'
  · rcases hb with h' | h' | h'
    · exact one_1_0 k x y z w hk0 hk1 hx0 hx1 hy0 hy1 hz0 hz1 h h'
    · exact one_1_1 k x y z w hk0 hk1 hx0 hx1 hy0 hy1 hz0 hz1 h h'
    · exact one_1_2 k x y z w hk0 hk1 hx0 hx1 hy0 hy1 hz0 hz1 h h'
  · exact one_2 k x y z w hk0 hk1 hx0 hx1 hy0 hy1 hz0 hz1 h
  · exact one_3 k x y z w hk0 hk1 hx0 hx1 hy0 hy1 hz0 hz1 h
  · exact one_4 k x y z w hk0 hk1 hx0 hx1 hy0 hy1 hz0 hz1 h
  · exact one_5 k x y z w hk0 hk1 hx0 hx1 hy0 hy1 hz0 hz1 h
  · exact one_6 k x y z w hk0 hk1 hx0 hx1 hy0 hy1 hz0 hz1 h
  · exact one_7 k x y z w hk0 hk1 hx0 hx1 hy0 hy1 hz0 hz1 h
  · exact one_8 k x y z w hk0 hk1 hx0 hx1 hy0 hy1 hz0 hz1 h
  · exact one_9 k x y z w hk0 hk1 hx0 hx1 hy0 hy1 hz0 hz1 h
  · exact one_10 k x y z w hk0 hk1 hx0 hx1 hy0 hy1 hz0 hz1 h
  · exact one_11 k x y z w hk0 hk1 hx0 hx1 hy0 hy1 hz0 hz1 h
  · exact one_12 k x y z w hk0 hk1 hx0 hx1 hy0 hy1 hz0 hz1 h
  · exact one_13 k x y z w hk0 hk1 hx0 hx1 hy0 hy1 hz0 hz1 h
  · exact one_14 k x y z w hk0 hk1 hx0 hx1 hy0 hy1 hz0 hz1 h
  · exact one_15 k x y z w hk0 hk1 hx0 hx1 hy0 hy1 hz0 hz1 h
  · exact one_16 k x y z w hk0 hk1 hx0 hx1 hy0 hy1 hz0 hz1 h
  · exact one_17 k x y z w hk0 hk1 hx0 hx1 hy0 hy1 hz0 hz1 h
  · exact one_18 k x y z w hk0 hk1 hx0 hx1 hy0 hy1 hz0 hz1 h
  · exact one_19 k x y z w hk0 hk1 hx0 hx1 hy0 hy1 hz0 hz1 h
end Go.Proofs.Ytlddahifhefjiaa
