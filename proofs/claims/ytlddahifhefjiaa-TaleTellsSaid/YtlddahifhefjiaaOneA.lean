/-
  sporef25.one: the operation of four bytes. (The walks are printed by a program.)
-/
import Derived.Test.YtlddahifhefjiaaChecked
import Derived.Test.YtlddahifhefjiaaTale
namespace Go.Proofs.Ytlddahifhefjiaa
open Go Go.RowKit
set_option linter.unusedVariables false

set_option maxRecDepth 100000 in
theorem one25_0_0 (b o cap : Nat) (k x y z : Int) (w : World) (hk0 : 0 ≤ k) (hk1 : k ≤ 255) (hx0 : 0 ≤ x) (hx1 : x ≤ 255) (hy0 : 0 ≤ y) (hy1 : y ≤ 255) (hz0 : 0 ≤ z) (hz1 : z ≤ 255) (hb : b < w.heap.size) (g0 : w.cell? ⟨b, o, none⟩ = some (.int .u8 k)) (g1 : w.cell? ⟨b, o + 1, none⟩ = some (.int .u8 x)) (g2 : w.cell? ⟨b, o + 2, none⟩ = some (.int .u8 y)) (g3 : w.cell? ⟨b, o + 3, none⟩ = some (.int .u8 z)) (h : k % 20 = 0) (h' : y % 3 = 0) :
    Calls Try.prog 79 #[.slice (some ⟨b, o, none⟩) 4 cap] w (Gives (opOf k x y z).val w) := by
  have HV := Lib.hid (show opOf k x y z = ⟨1, x % 3, 0, 0, 0, 0, 0⟩ by simp [opOf, three, h, h'])
  have w0 := IntWalk.i64_in k (by omega)
  have w1 := IntWalk.i64_in x (by omega)
  have w2 := IntWalk.i64_in y (by omega)
  have w3 := IntWalk.i64_in z (by omega)
  go_enter Try.func79, Try.ntmps79
  go_wp2_with fail
  refine wp_region_mixed [true, true, true, true, true, true, true, true, true, true, true, true, true, true, true, true, true, true, true, true] 0 20 (by kernel_rfl) (by kernel_rfl) (by kernel_rfl) ?_ (by decide) (by decide) (by decide) (by kernel_rfl) ?_
  · intro c a d v w h; cases d <;> exact h
  intro X00
  simp only [pickOps]
  repeat (go_big_quiet_step (fail))
  refine wpQuiet_nil (fun X0 => ?_)
  clear X00
  refine wpAnyM_done (by kernel_rfl) (fun X0' => ?_) _
  clear g0 g1 g2 g3 w0 w1 w2 w3
  go_wp2
  refine bodyPost_ret (v := (Opr.val ⟨1, x % 3, 0, 0, 0, 0, 0⟩)) (by simp [Opr.val, results, Try.results79, go_sem]) rfl ?_
  rw [HV.out]
  exact Gives.mk rfl (by (repeat (first | (with_reducible assumption) | (with_reducible exact Ext.refl _) | (with_reducible exact Ext.more _ _ _ _) | apply Ext.alloc | refine Ext.setCell ?_ (by first | exact Nat.le_refl _ | exact Nat.le_add_right _ _ | assumption) _ | apply Ext.patch | apply Ext.drew | apply Ext.drewN)))

set_option maxRecDepth 100000 in
theorem one25_0_1 (b o cap : Nat) (k x y z : Int) (w : World) (hk0 : 0 ≤ k) (hk1 : k ≤ 255) (hx0 : 0 ≤ x) (hx1 : x ≤ 255) (hy0 : 0 ≤ y) (hy1 : y ≤ 255) (hz0 : 0 ≤ z) (hz1 : z ≤ 255) (hb : b < w.heap.size) (g0 : w.cell? ⟨b, o, none⟩ = some (.int .u8 k)) (g1 : w.cell? ⟨b, o + 1, none⟩ = some (.int .u8 x)) (g2 : w.cell? ⟨b, o + 2, none⟩ = some (.int .u8 y)) (g3 : w.cell? ⟨b, o + 3, none⟩ = some (.int .u8 z)) (h : k % 20 = 0) (h' : y % 3 = 1) :
    Calls Try.prog 79 #[.slice (some ⟨b, o, none⟩) 4 cap] w (Gives (opOf k x y z).val w) := by
  have HV := Lib.hid (show opOf k x y z = ⟨1, x % 3, 1, 0, 0, 0, 0⟩ by simp [opOf, three, h, h'])
  have w0 := IntWalk.i64_in k (by omega)
  have w1 := IntWalk.i64_in x (by omega)
  have w2 := IntWalk.i64_in y (by omega)
  have w3 := IntWalk.i64_in z (by omega)
  go_enter Try.func79, Try.ntmps79
  go_wp2_with fail
  refine wp_region_mixed [true, true, true, true, true, true, true, true, true, true, true, true, true, true, true, true, true, true, true, true] 0 20 (by kernel_rfl) (by kernel_rfl) (by kernel_rfl) ?_ (by decide) (by decide) (by decide) (by kernel_rfl) ?_
  · intro c a d v w h; cases d <;> exact h
  intro X00
  simp only [pickOps]
  repeat (go_big_quiet_step (fail))
  refine wpQuiet_nil (fun X0 => ?_)
  clear X00
  refine wpAnyM_done (by kernel_rfl) (fun X0' => ?_) _
  clear g0 g1 g2 g3 w0 w1 w2 w3
  go_wp2
  refine bodyPost_ret (v := (Opr.val ⟨1, x % 3, 1, 0, 0, 0, 0⟩)) (by simp [Opr.val, results, Try.results79, go_sem]) rfl ?_
  rw [HV.out]
  exact Gives.mk rfl (by (repeat (first | (with_reducible assumption) | (with_reducible exact Ext.refl _) | (with_reducible exact Ext.more _ _ _ _) | apply Ext.alloc | refine Ext.setCell ?_ (by first | exact Nat.le_refl _ | exact Nat.le_add_right _ _ | assumption) _ | apply Ext.patch | apply Ext.drew | apply Ext.drewN)))

set_option maxRecDepth 100000 in
theorem one25_0_2 (b o cap : Nat) (k x y z : Int) (w : World) (hk0 : 0 ≤ k) (hk1 : k ≤ 255) (hx0 : 0 ≤ x) (hx1 : x ≤ 255) (hy0 : 0 ≤ y) (hy1 : y ≤ 255) (hz0 : 0 ≤ z) (hz1 : z ≤ 255) (hb : b < w.heap.size) (g0 : w.cell? ⟨b, o, none⟩ = some (.int .u8 k)) (g1 : w.cell? ⟨b, o + 1, none⟩ = some (.int .u8 x)) (g2 : w.cell? ⟨b, o + 2, none⟩ = some (.int .u8 y)) (g3 : w.cell? ⟨b, o + 3, none⟩ = some (.int .u8 z)) (h : k % 20 = 0) (h' : y % 3 = 2) :
    Calls Try.prog 79 #[.slice (some ⟨b, o, none⟩) 4 cap] w (Gives (opOf k x y z).val w) := by
  have HV := Lib.hid (show opOf k x y z = ⟨1, x % 3, 4, 0, 0, 0, 0⟩ by simp [opOf, three, h, h'])
  have w0 := IntWalk.i64_in k (by omega)
  have w1 := IntWalk.i64_in x (by omega)
  have w2 := IntWalk.i64_in y (by omega)
  have w3 := IntWalk.i64_in z (by omega)
  go_enter Try.func79, Try.ntmps79
  go_wp2_with fail
  refine wp_region_mixed [true, true, true, true, true, true, true, true, true, true, true, true, true, true, true, true, true, true, true, true] 0 20 (by kernel_rfl) (by kernel_rfl) (by kernel_rfl) ?_ (by decide) (by decide) (by decide) (by kernel_rfl) ?_
  · intro c a d v w h; cases d <;> exact h
  intro X00
  simp only [pickOps]
  repeat (go_big_quiet_step (fail))
  refine wpQuiet_nil (fun X0 => ?_)
  clear X00
  refine wpAnyM_done (by kernel_rfl) (fun X0' => ?_) _
  clear g0 g1 g2 g3 w0 w1 w2 w3
  go_wp2
  refine bodyPost_ret (v := (Opr.val ⟨1, x % 3, 4, 0, 0, 0, 0⟩)) (by simp [Opr.val, results, Try.results79, go_sem]) rfl ?_
  rw [HV.out]
  exact Gives.mk rfl (by (repeat (first | (with_reducible assumption) | (with_reducible exact Ext.refl _) | (with_reducible exact Ext.more _ _ _ _) | apply Ext.alloc | refine Ext.setCell ?_ (by first | exact Nat.le_refl _ | exact Nat.le_add_right _ _ | assumption) _ | apply Ext.patch | apply Ext.drew | apply Ext.drewN)))

set_option maxRecDepth 100000 in
theorem one25_1_0 (b o cap : Nat) (k x y z : Int) (w : World) (hk0 : 0 ≤ k) (hk1 : k ≤ 255) (hx0 : 0 ≤ x) (hx1 : x ≤ 255) (hy0 : 0 ≤ y) (hy1 : y ≤ 255) (hz0 : 0 ≤ z) (hz1 : z ≤ 255) (hb : b < w.heap.size) (g0 : w.cell? ⟨b, o, none⟩ = some (.int .u8 k)) (g1 : w.cell? ⟨b, o + 1, none⟩ = some (.int .u8 x)) (g2 : w.cell? ⟨b, o + 2, none⟩ = some (.int .u8 y)) (g3 : w.cell? ⟨b, o + 3, none⟩ = some (.int .u8 z)) (h : k % 20 = 1) (h' : y % 3 = 0) :
    Calls Try.prog 79 #[.slice (some ⟨b, o, none⟩) 4 cap] w (Gives (opOf k x y z).val w) := by
  have HV := Lib.hid (show opOf k x y z = ⟨1, x % 3, 0, 0, 0, 0, 0⟩ by simp [opOf, three, h, h'])
  have w0 := IntWalk.i64_in k (by omega)
  have w1 := IntWalk.i64_in x (by omega)
  have w2 := IntWalk.i64_in y (by omega)
  have w3 := IntWalk.i64_in z (by omega)
  go_enter Try.func79, Try.ntmps79
  go_wp2_with fail
  refine wp_region_mixed [true, true, true, true, true, true, true, true, true, true, true, true, true, true, true, true, true, true, true, true] 0 20 (by kernel_rfl) (by kernel_rfl) (by kernel_rfl) ?_ (by decide) (by decide) (by decide) (by kernel_rfl) ?_
  · intro c a d v w h; cases d <;> exact h
  intro X00
  simp only [pickOps]
  repeat (go_big_quiet_step (fail))
  refine wpQuiet_nil (fun X0 => ?_)
  clear X00
  refine wpAnyM_done (by kernel_rfl) (fun X0' => ?_) _
  clear g0 g1 g2 g3 w0 w1 w2 w3
  go_wp2
  refine bodyPost_ret (v := (Opr.val ⟨1, x % 3, 0, 0, 0, 0, 0⟩)) (by simp [Opr.val, results, Try.results79, go_sem]) rfl ?_
  rw [HV.out]
  exact Gives.mk rfl (by (repeat (first | (with_reducible assumption) | (with_reducible exact Ext.refl _) | (with_reducible exact Ext.more _ _ _ _) | apply Ext.alloc | refine Ext.setCell ?_ (by first | exact Nat.le_refl _ | exact Nat.le_add_right _ _ | assumption) _ | apply Ext.patch | apply Ext.drew | apply Ext.drewN)))

set_option maxRecDepth 100000 in
theorem one25_1_1 (b o cap : Nat) (k x y z : Int) (w : World) (hk0 : 0 ≤ k) (hk1 : k ≤ 255) (hx0 : 0 ≤ x) (hx1 : x ≤ 255) (hy0 : 0 ≤ y) (hy1 : y ≤ 255) (hz0 : 0 ≤ z) (hz1 : z ≤ 255) (hb : b < w.heap.size) (g0 : w.cell? ⟨b, o, none⟩ = some (.int .u8 k)) (g1 : w.cell? ⟨b, o + 1, none⟩ = some (.int .u8 x)) (g2 : w.cell? ⟨b, o + 2, none⟩ = some (.int .u8 y)) (g3 : w.cell? ⟨b, o + 3, none⟩ = some (.int .u8 z)) (h : k % 20 = 1) (h' : y % 3 = 1) :
    Calls Try.prog 79 #[.slice (some ⟨b, o, none⟩) 4 cap] w (Gives (opOf k x y z).val w) := by
  have HV := Lib.hid (show opOf k x y z = ⟨1, x % 3, 1, 0, 0, 0, 0⟩ by simp [opOf, three, h, h'])
  have w0 := IntWalk.i64_in k (by omega)
  have w1 := IntWalk.i64_in x (by omega)
  have w2 := IntWalk.i64_in y (by omega)
  have w3 := IntWalk.i64_in z (by omega)
  go_enter Try.func79, Try.ntmps79
  go_wp2_with fail
  refine wp_region_mixed [true, true, true, true, true, true, true, true, true, true, true, true, true, true, true, true, true, true, true, true] 0 20 (by kernel_rfl) (by kernel_rfl) (by kernel_rfl) ?_ (by decide) (by decide) (by decide) (by kernel_rfl) ?_
  · intro c a d v w h; cases d <;> exact h
  intro X00
  simp only [pickOps]
  repeat (go_big_quiet_step (fail))
  refine wpQuiet_nil (fun X0 => ?_)
  clear X00
  refine wpAnyM_done (by kernel_rfl) (fun X0' => ?_) _
  clear g0 g1 g2 g3 w0 w1 w2 w3
  go_wp2
  refine bodyPost_ret (v := (Opr.val ⟨1, x % 3, 1, 0, 0, 0, 0⟩)) (by simp [Opr.val, results, Try.results79, go_sem]) rfl ?_
  rw [HV.out]
  exact Gives.mk rfl (by (repeat (first | (with_reducible assumption) | (with_reducible exact Ext.refl _) | (with_reducible exact Ext.more _ _ _ _) | apply Ext.alloc | refine Ext.setCell ?_ (by first | exact Nat.le_refl _ | exact Nat.le_add_right _ _ | assumption) _ | apply Ext.patch | apply Ext.drew | apply Ext.drewN)))

set_option maxRecDepth 100000 in
theorem one25_1_2 (b o cap : Nat) (k x y z : Int) (w : World) (hk0 : 0 ≤ k) (hk1 : k ≤ 255) (hx0 : 0 ≤ x) (hx1 : x ≤ 255) (hy0 : 0 ≤ y) (hy1 : y ≤ 255) (hz0 : 0 ≤ z) (hz1 : z ≤ 255) (hb : b < w.heap.size) (g0 : w.cell? ⟨b, o, none⟩ = some (.int .u8 k)) (g1 : w.cell? ⟨b, o + 1, none⟩ = some (.int .u8 x)) (g2 : w.cell? ⟨b, o + 2, none⟩ = some (.int .u8 y)) (g3 : w.cell? ⟨b, o + 3, none⟩ = some (.int .u8 z)) (h : k % 20 = 1) (h' : y % 3 = 2) :
    Calls Try.prog 79 #[.slice (some ⟨b, o, none⟩) 4 cap] w (Gives (opOf k x y z).val w) := by
  have HV := Lib.hid (show opOf k x y z = ⟨1, x % 3, 4, 0, 0, 0, 0⟩ by simp [opOf, three, h, h'])
  have w0 := IntWalk.i64_in k (by omega)
  have w1 := IntWalk.i64_in x (by omega)
  have w2 := IntWalk.i64_in y (by omega)
  have w3 := IntWalk.i64_in z (by omega)
  go_enter Try.func79, Try.ntmps79
  go_wp2_with fail
  refine wp_region_mixed [true, true, true, true, true, true, true, true, true, true, true, true, true, true, true, true, true, true, true, true] 0 20 (by kernel_rfl) (by kernel_rfl) (by kernel_rfl) ?_ (by decide) (by decide) (by decide) (by kernel_rfl) ?_
  · intro c a d v w h; cases d <;> exact h
  intro X00
  simp only [pickOps]
  repeat (go_big_quiet_step (fail))
  refine wpQuiet_nil (fun X0 => ?_)
  clear X00
  refine wpAnyM_done (by kernel_rfl) (fun X0' => ?_) _
  clear g0 g1 g2 g3 w0 w1 w2 w3
  go_wp2
  refine bodyPost_ret (v := (Opr.val ⟨1, x % 3, 4, 0, 0, 0, 0⟩)) (by simp [Opr.val, results, Try.results79, go_sem]) rfl ?_
  rw [HV.out]
  exact Gives.mk rfl (by (repeat (first | (with_reducible assumption) | (with_reducible exact Ext.refl _) | (with_reducible exact Ext.more _ _ _ _) | apply Ext.alloc | refine Ext.setCell ?_ (by first | exact Nat.le_refl _ | exact Nat.le_add_right _ _ | assumption) _ | apply Ext.patch | apply Ext.drew | apply Ext.drewN)))

set_option maxRecDepth 100000 in
theorem one25_2 (b o cap : Nat) (k x y z : Int) (w : World) (hk0 : 0 ≤ k) (hk1 : k ≤ 255) (hx0 : 0 ≤ x) (hx1 : x ≤ 255) (hy0 : 0 ≤ y) (hy1 : y ≤ 255) (hz0 : 0 ≤ z) (hz1 : z ≤ 255) (hb : b < w.heap.size) (g0 : w.cell? ⟨b, o, none⟩ = some (.int .u8 k)) (g1 : w.cell? ⟨b, o + 1, none⟩ = some (.int .u8 x)) (g2 : w.cell? ⟨b, o + 2, none⟩ = some (.int .u8 y)) (g3 : w.cell? ⟨b, o + 3, none⟩ = some (.int .u8 z)) (h : k % 20 = 2) :
    Calls Try.prog 79 #[.slice (some ⟨b, o, none⟩) 4 cap] w (Gives (opOf k x y z).val w) := by
  have HV := Lib.hid (show opOf k x y z = ⟨2, x % 3, 2 + y % 2, 0, z % 50, 0, 0⟩ by simp [opOf, h])
  have w0 := IntWalk.i64_in k (by omega)
  have w1 := IntWalk.i64_in x (by omega)
  have w2 := IntWalk.i64_in y (by omega)
  have w3 := IntWalk.i64_in z (by omega)
  go_enter Try.func79, Try.ntmps79
  go_wp2_with fail
  refine wp_region_mixed [true, true, true, true, true, true, true, true, true, true, true, true, true, true, true, true, true, true, true, true] 0 20 (by kernel_rfl) (by kernel_rfl) (by kernel_rfl) ?_ (by decide) (by decide) (by decide) (by kernel_rfl) ?_
  · intro c a d v w h; cases d <;> exact h
  intro X00
  simp only [pickOps]
  repeat (go_big_quiet_step (fail))
  refine wpQuiet_nil (fun X0 => ?_)
  clear X00
  refine wpAnyM_done (by kernel_rfl) (fun X0' => ?_) _
  clear g0 g1 g2 g3 w0 w1 w2 w3
  go_wp2
  refine bodyPost_ret (v := (Opr.val ⟨2, x % 3, 2 + y % 2, 0, z % 50, 0, 0⟩)) (by simp [Opr.val, results, Try.results79, go_sem]) rfl ?_
  rw [HV.out]
  exact Gives.mk rfl (by (repeat (first | (with_reducible assumption) | (with_reducible exact Ext.refl _) | (with_reducible exact Ext.more _ _ _ _) | apply Ext.alloc | refine Ext.setCell ?_ (by first | exact Nat.le_refl _ | exact Nat.le_add_right _ _ | assumption) _ | apply Ext.patch | apply Ext.drew | apply Ext.drewN)))

set_option maxRecDepth 100000 in
theorem one25_3 (b o cap : Nat) (k x y z : Int) (w : World) (hk0 : 0 ≤ k) (hk1 : k ≤ 255) (hx0 : 0 ≤ x) (hx1 : x ≤ 255) (hy0 : 0 ≤ y) (hy1 : y ≤ 255) (hz0 : 0 ≤ z) (hz1 : z ≤ 255) (hb : b < w.heap.size) (g0 : w.cell? ⟨b, o, none⟩ = some (.int .u8 k)) (g1 : w.cell? ⟨b, o + 1, none⟩ = some (.int .u8 x)) (g2 : w.cell? ⟨b, o + 2, none⟩ = some (.int .u8 y)) (g3 : w.cell? ⟨b, o + 3, none⟩ = some (.int .u8 z)) (h : k % 20 = 3) :
    Calls Try.prog 79 #[.slice (some ⟨b, o, none⟩) 4 cap] w (Gives (opOf k x y z).val w) := by
  have HV := Lib.hid (show opOf k x y z = ⟨3, x % 3, y % 3, 0, z % 9, 0, 0⟩ by simp [opOf, h])
  have w0 := IntWalk.i64_in k (by omega)
  have w1 := IntWalk.i64_in x (by omega)
  have w2 := IntWalk.i64_in y (by omega)
  have w3 := IntWalk.i64_in z (by omega)
  go_enter Try.func79, Try.ntmps79
  go_wp2_with fail
  refine wp_region_mixed [true, true, true, true, true, true, true, true, true, true, true, true, true, true, true, true, true, true, true, true] 0 20 (by kernel_rfl) (by kernel_rfl) (by kernel_rfl) ?_ (by decide) (by decide) (by decide) (by kernel_rfl) ?_
  · intro c a d v w h; cases d <;> exact h
  intro X00
  simp only [pickOps]
  repeat (go_big_quiet_step (fail))
  refine wpQuiet_nil (fun X0 => ?_)
  clear X00
  refine wpAnyM_done (by kernel_rfl) (fun X0' => ?_) _
  clear g0 g1 g2 g3 w0 w1 w2 w3
  go_wp2
  refine bodyPost_ret (v := (Opr.val ⟨3, x % 3, y % 3, 0, z % 9, 0, 0⟩)) (by simp [Opr.val, results, Try.results79, go_sem]) rfl ?_
  rw [HV.out]
  exact Gives.mk rfl (by (repeat (first | (with_reducible assumption) | (with_reducible exact Ext.refl _) | (with_reducible exact Ext.more _ _ _ _) | apply Ext.alloc | refine Ext.setCell ?_ (by first | exact Nat.le_refl _ | exact Nat.le_add_right _ _ | assumption) _ | apply Ext.patch | apply Ext.drew | apply Ext.drewN)))

set_option maxRecDepth 100000 in
theorem one25_4 (b o cap : Nat) (k x y z : Int) (w : World) (hk0 : 0 ≤ k) (hk1 : k ≤ 255) (hx0 : 0 ≤ x) (hx1 : x ≤ 255) (hy0 : 0 ≤ y) (hy1 : y ≤ 255) (hz0 : 0 ≤ z) (hz1 : z ≤ 255) (hb : b < w.heap.size) (g0 : w.cell? ⟨b, o, none⟩ = some (.int .u8 k)) (g1 : w.cell? ⟨b, o + 1, none⟩ = some (.int .u8 x)) (g2 : w.cell? ⟨b, o + 2, none⟩ = some (.int .u8 y)) (g3 : w.cell? ⟨b, o + 3, none⟩ = some (.int .u8 z)) (h : k % 20 = 4) :
    Calls Try.prog 79 #[.slice (some ⟨b, o, none⟩) 4 cap] w (Gives (opOf k x y z).val w) := by
  have HV := Lib.hid (show opOf k x y z = ⟨3, x % 3, y % 3, 0, z % 9, 0, 0⟩ by simp [opOf, h])
  have w0 := IntWalk.i64_in k (by omega)
  have w1 := IntWalk.i64_in x (by omega)
  have w2 := IntWalk.i64_in y (by omega)
  have w3 := IntWalk.i64_in z (by omega)
  go_enter Try.func79, Try.ntmps79
  go_wp2_with fail
  refine wp_region_mixed [true, true, true, true, true, true, true, true, true, true, true, true, true, true, true, true, true, true, true, true] 0 20 (by kernel_rfl) (by kernel_rfl) (by kernel_rfl) ?_ (by decide) (by decide) (by decide) (by kernel_rfl) ?_
  · intro c a d v w h; cases d <;> exact h
  intro X00
  simp only [pickOps]
  repeat (go_big_quiet_step (fail))
  refine wpQuiet_nil (fun X0 => ?_)
  clear X00
  refine wpAnyM_done (by kernel_rfl) (fun X0' => ?_) _
  clear g0 g1 g2 g3 w0 w1 w2 w3
  go_wp2
  refine bodyPost_ret (v := (Opr.val ⟨3, x % 3, y % 3, 0, z % 9, 0, 0⟩)) (by simp [Opr.val, results, Try.results79, go_sem]) rfl ?_
  rw [HV.out]
  exact Gives.mk rfl (by (repeat (first | (with_reducible assumption) | (with_reducible exact Ext.refl _) | (with_reducible exact Ext.more _ _ _ _) | apply Ext.alloc | refine Ext.setCell ?_ (by first | exact Nat.le_refl _ | exact Nat.le_add_right _ _ | assumption) _ | apply Ext.patch | apply Ext.drew | apply Ext.drewN)))

set_option maxRecDepth 100000 in
theorem one25_5 (b o cap : Nat) (k x y z : Int) (w : World) (hk0 : 0 ≤ k) (hk1 : k ≤ 255) (hx0 : 0 ≤ x) (hx1 : x ≤ 255) (hy0 : 0 ≤ y) (hy1 : y ≤ 255) (hz0 : 0 ≤ z) (hz1 : z ≤ 255) (hb : b < w.heap.size) (g0 : w.cell? ⟨b, o, none⟩ = some (.int .u8 k)) (g1 : w.cell? ⟨b, o + 1, none⟩ = some (.int .u8 x)) (g2 : w.cell? ⟨b, o + 2, none⟩ = some (.int .u8 y)) (g3 : w.cell? ⟨b, o + 3, none⟩ = some (.int .u8 z)) (h : k % 20 = 5) :
    Calls Try.prog 79 #[.slice (some ⟨b, o, none⟩) 4 cap] w (Gives (opOf k x y z).val w) := by
  have HV := Lib.hid (show opOf k x y z = ⟨4, x % 3, y % 3, 0, z % 9, 0, 0⟩ by simp [opOf, h])
  have w0 := IntWalk.i64_in k (by omega)
  have w1 := IntWalk.i64_in x (by omega)
  have w2 := IntWalk.i64_in y (by omega)
  have w3 := IntWalk.i64_in z (by omega)
  go_enter Try.func79, Try.ntmps79
  go_wp2_with fail
  refine wp_region_mixed [true, true, true, true, true, true, true, true, true, true, true, true, true, true, true, true, true, true, true, true] 0 20 (by kernel_rfl) (by kernel_rfl) (by kernel_rfl) ?_ (by decide) (by decide) (by decide) (by kernel_rfl) ?_
  · intro c a d v w h; cases d <;> exact h
  intro X00
  simp only [pickOps]
  repeat (go_big_quiet_step (fail))
  refine wpQuiet_nil (fun X0 => ?_)
  clear X00
  refine wpAnyM_done (by kernel_rfl) (fun X0' => ?_) _
  clear g0 g1 g2 g3 w0 w1 w2 w3
  go_wp2
  refine bodyPost_ret (v := (Opr.val ⟨4, x % 3, y % 3, 0, z % 9, 0, 0⟩)) (by simp [Opr.val, results, Try.results79, go_sem]) rfl ?_
  rw [HV.out]
  exact Gives.mk rfl (by (repeat (first | (with_reducible assumption) | (with_reducible exact Ext.refl _) | (with_reducible exact Ext.more _ _ _ _) | apply Ext.alloc | refine Ext.setCell ?_ (by first | exact Nat.le_refl _ | exact Nat.le_add_right _ _ | assumption) _ | apply Ext.patch | apply Ext.drew | apply Ext.drewN)))

set_option maxRecDepth 100000 in
theorem one25_6 (b o cap : Nat) (k x y z : Int) (w : World) (hk0 : 0 ≤ k) (hk1 : k ≤ 255) (hx0 : 0 ≤ x) (hx1 : x ≤ 255) (hy0 : 0 ≤ y) (hy1 : y ≤ 255) (hz0 : 0 ≤ z) (hz1 : z ≤ 255) (hb : b < w.heap.size) (g0 : w.cell? ⟨b, o, none⟩ = some (.int .u8 k)) (g1 : w.cell? ⟨b, o + 1, none⟩ = some (.int .u8 x)) (g2 : w.cell? ⟨b, o + 2, none⟩ = some (.int .u8 y)) (g3 : w.cell? ⟨b, o + 3, none⟩ = some (.int .u8 z)) (h : k % 20 = 6) :
    Calls Try.prog 79 #[.slice (some ⟨b, o, none⟩) 4 cap] w (Gives (opOf k x y z).val w) := by
  have HV := Lib.hid (show opOf k x y z = ⟨4, x % 3, y % 3, 0, z % 9, 0, 0⟩ by simp [opOf, h])
  have w0 := IntWalk.i64_in k (by omega)
  have w1 := IntWalk.i64_in x (by omega)
  have w2 := IntWalk.i64_in y (by omega)
  have w3 := IntWalk.i64_in z (by omega)
  go_enter Try.func79, Try.ntmps79
  go_wp2_with fail
  refine wp_region_mixed [true, true, true, true, true, true, true, true, true, true, true, true, true, true, true, true, true, true, true, true] 0 20 (by kernel_rfl) (by kernel_rfl) (by kernel_rfl) ?_ (by decide) (by decide) (by decide) (by kernel_rfl) ?_
  · intro c a d v w h; cases d <;> exact h
  intro X00
  simp only [pickOps]
  repeat (go_big_quiet_step (fail))
  refine wpQuiet_nil (fun X0 => ?_)
  clear X00
  refine wpAnyM_done (by kernel_rfl) (fun X0' => ?_) _
  clear g0 g1 g2 g3 w0 w1 w2 w3
  go_wp2
  refine bodyPost_ret (v := (Opr.val ⟨4, x % 3, y % 3, 0, z % 9, 0, 0⟩)) (by simp [Opr.val, results, Try.results79, go_sem]) rfl ?_
  rw [HV.out]
  exact Gives.mk rfl (by (repeat (first | (with_reducible assumption) | (with_reducible exact Ext.refl _) | (with_reducible exact Ext.more _ _ _ _) | apply Ext.alloc | refine Ext.setCell ?_ (by first | exact Nat.le_refl _ | exact Nat.le_add_right _ _ | assumption) _ | apply Ext.patch | apply Ext.drew | apply Ext.drewN)))

set_option maxRecDepth 100000 in
theorem one25_7 (b o cap : Nat) (k x y z : Int) (w : World) (hk0 : 0 ≤ k) (hk1 : k ≤ 255) (hx0 : 0 ≤ x) (hx1 : x ≤ 255) (hy0 : 0 ≤ y) (hy1 : y ≤ 255) (hz0 : 0 ≤ z) (hz1 : z ≤ 255) (hb : b < w.heap.size) (g0 : w.cell? ⟨b, o, none⟩ = some (.int .u8 k)) (g1 : w.cell? ⟨b, o + 1, none⟩ = some (.int .u8 x)) (g2 : w.cell? ⟨b, o + 2, none⟩ = some (.int .u8 y)) (g3 : w.cell? ⟨b, o + 3, none⟩ = some (.int .u8 z)) (h : k % 20 = 7) :
    Calls Try.prog 79 #[.slice (some ⟨b, o, none⟩) 4 cap] w (Gives (opOf k x y z).val w) := by
  have HV := Lib.hid (show opOf k x y z = ⟨4, x % 3, y % 3, 0, z % 9, 0, 0⟩ by simp [opOf, h])
  have w0 := IntWalk.i64_in k (by omega)
  have w1 := IntWalk.i64_in x (by omega)
  have w2 := IntWalk.i64_in y (by omega)
  have w3 := IntWalk.i64_in z (by omega)
  go_enter Try.func79, Try.ntmps79
  go_wp2_with fail
  refine wp_region_mixed [true, true, true, true, true, true, true, true, true, true, true, true, true, true, true, true, true, true, true, true] 0 20 (by kernel_rfl) (by kernel_rfl) (by kernel_rfl) ?_ (by decide) (by decide) (by decide) (by kernel_rfl) ?_
  · intro c a d v w h; cases d <;> exact h
  intro X00
  simp only [pickOps]
  repeat (go_big_quiet_step (fail))
  refine wpQuiet_nil (fun X0 => ?_)
  clear X00
  refine wpAnyM_done (by kernel_rfl) (fun X0' => ?_) _
  clear g0 g1 g2 g3 w0 w1 w2 w3
  go_wp2
  refine bodyPost_ret (v := (Opr.val ⟨4, x % 3, y % 3, 0, z % 9, 0, 0⟩)) (by simp [Opr.val, results, Try.results79, go_sem]) rfl ?_
  rw [HV.out]
  exact Gives.mk rfl (by (repeat (first | (with_reducible assumption) | (with_reducible exact Ext.refl _) | (with_reducible exact Ext.more _ _ _ _) | apply Ext.alloc | refine Ext.setCell ?_ (by first | exact Nat.le_refl _ | exact Nat.le_add_right _ _ | assumption) _ | apply Ext.patch | apply Ext.drew | apply Ext.drewN)))

set_option maxRecDepth 100000 in
theorem one25_8 (b o cap : Nat) (k x y z : Int) (w : World) (hk0 : 0 ≤ k) (hk1 : k ≤ 255) (hx0 : 0 ≤ x) (hx1 : x ≤ 255) (hy0 : 0 ≤ y) (hy1 : y ≤ 255) (hz0 : 0 ≤ z) (hz1 : z ≤ 255) (hb : b < w.heap.size) (g0 : w.cell? ⟨b, o, none⟩ = some (.int .u8 k)) (g1 : w.cell? ⟨b, o + 1, none⟩ = some (.int .u8 x)) (g2 : w.cell? ⟨b, o + 2, none⟩ = some (.int .u8 y)) (g3 : w.cell? ⟨b, o + 3, none⟩ = some (.int .u8 z)) (h : k % 20 = 8) :
    Calls Try.prog 79 #[.slice (some ⟨b, o, none⟩) 4 cap] w (Gives (opOf k x y z).val w) := by
  have HV := Lib.hid (show opOf k x y z = ⟨5, x % 3, y % 3, 0, z % 50, 0, 0⟩ by simp [opOf, h])
  have w0 := IntWalk.i64_in k (by omega)
  have w1 := IntWalk.i64_in x (by omega)
  have w2 := IntWalk.i64_in y (by omega)
  have w3 := IntWalk.i64_in z (by omega)
  go_enter Try.func79, Try.ntmps79
  go_wp2_with fail
  refine wp_region_mixed [true, true, true, true, true, true, true, true, true, true, true, true, true, true, true, true, true, true, true, true] 0 20 (by kernel_rfl) (by kernel_rfl) (by kernel_rfl) ?_ (by decide) (by decide) (by decide) (by kernel_rfl) ?_
  · intro c a d v w h; cases d <;> exact h
  intro X00
  simp only [pickOps]
  repeat (go_big_quiet_step (fail))
  refine wpQuiet_nil (fun X0 => ?_)
  clear X00
  refine wpAnyM_done (by kernel_rfl) (fun X0' => ?_) _
  clear g0 g1 g2 g3 w0 w1 w2 w3
  go_wp2
  refine bodyPost_ret (v := (Opr.val ⟨5, x % 3, y % 3, 0, z % 50, 0, 0⟩)) (by simp [Opr.val, results, Try.results79, go_sem]) rfl ?_
  rw [HV.out]
  exact Gives.mk rfl (by (repeat (first | (with_reducible assumption) | (with_reducible exact Ext.refl _) | (with_reducible exact Ext.more _ _ _ _) | apply Ext.alloc | refine Ext.setCell ?_ (by first | exact Nat.le_refl _ | exact Nat.le_add_right _ _ | assumption) _ | apply Ext.patch | apply Ext.drew | apply Ext.drewN)))
end Go.Proofs.Ytlddahifhefjiaa
