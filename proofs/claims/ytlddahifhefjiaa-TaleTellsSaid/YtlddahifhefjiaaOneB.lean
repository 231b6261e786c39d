/-
  sporef25.one: the operation of four bytes. (The walks are printed by a program.)
-/
import Derived.Test.YtlddahifhefjiaaChecked
import Derived.Test.YtlddahifhefjiaaOneA
namespace Go.Proofs.Ytlddahifhefjiaa
open Go Go.RowKit
set_option linter.unusedVariables false

set_option maxRecDepth 100000 in
theorem one25_9 (b o cap : Nat) (k x y z : Int) (w : World) (hk0 : 0 ≤ k) (hk1 : k ≤ 255) (hx0 : 0 ≤ x) (hx1 : x ≤ 255) (hy0 : 0 ≤ y) (hy1 : y ≤ 255) (hz0 : 0 ≤ z) (hz1 : z ≤ 255) (hb : b < w.heap.size) (g0 : w.cell? ⟨b, o, none⟩ = some (.int .u8 k)) (g1 : w.cell? ⟨b, o + 1, none⟩ = some (.int .u8 x)) (g2 : w.cell? ⟨b, o + 2, none⟩ = some (.int .u8 y)) (g3 : w.cell? ⟨b, o + 3, none⟩ = some (.int .u8 z)) (h : k % 20 = 9) :
    Calls Try.prog 79 #[.slice (some ⟨b, o, none⟩) 4 cap] w (Gives (opOf k x y z).val w) := by
  have HV := Lib.hid (show opOf k x y z = ⟨6, x % 3, y % 3, 0, z % 50, 0, 0⟩ by simp [opOf, h])
  have w0 := IntWalk.i64_in k (by omega)
  have w1 := IntWalk.i64_in x (by omega)
  have w2 := IntWalk.i64_in y (by omega)
  have w3 := IntWalk.i64_in z (by omega)
  go_enter Try.func79, Try.ntmps79
  go_wp2_with fail
  refine wp_region_mixed [true, true, true, true, true, true, true, true, true, true, true, true, true, true, true, true, true, true, true, true] 0 20 (by kernel_rfl) (by kernel_rfl) (by kernel_rfl) ?_ (by decide) (by decide) (by decide) (by kernel_rfl) ?_
  · intro c a d v w h; cases d <;> exact h
  intro X00
  simp only [pickOps]
  repeat (go_big_quiet_step (fail))
  refine wpQuiet_nil (fun X0 => ?_)
  clear X00
  refine wpAnyM_done (by kernel_rfl) (fun X0' => ?_) _
  clear g0 g1 g2 g3 w0 w1 w2 w3
  go_wp2
  refine bodyPost_ret (v := (Opr.val ⟨6, x % 3, y % 3, 0, z % 50, 0, 0⟩)) (by simp [Opr.val, results, Try.results79, go_sem]) rfl ?_
  rw [HV.out]
  exact Gives.mk rfl (by (repeat (first | (with_reducible assumption) | (with_reducible exact Ext.refl _) | (with_reducible exact Ext.more _ _ _ _) | apply Ext.alloc | refine Ext.setCell ?_ (by first | exact Nat.le_refl _ | exact Nat.le_add_right _ _ | assumption) _ | apply Ext.patch | apply Ext.drew | apply Ext.drewN)))

set_option maxRecDepth 100000 in
theorem one25_10 (b o cap : Nat) (k x y z : Int) (w : World) (hk0 : 0 ≤ k) (hk1 : k ≤ 255) (hx0 : 0 ≤ x) (hx1 : x ≤ 255) (hy0 : 0 ≤ y) (hy1 : y ≤ 255) (hz0 : 0 ≤ z) (hz1 : z ≤ 255) (hb : b < w.heap.size) (g0 : w.cell? ⟨b, o, none⟩ = some (.int .u8 k)) (g1 : w.cell? ⟨b, o + 1, none⟩ = some (.int .u8 x)) (g2 : w.cell? ⟨b, o + 2, none⟩ = some (.int .u8 y)) (g3 : w.cell? ⟨b, o + 3, none⟩ = some (.int .u8 z)) (h : k % 20 = 10) :
    Calls Try.prog 79 #[.slice (some ⟨b, o, none⟩) 4 cap] w (Gives (opOf k x y z).val w) := by
  have HV := Lib.hid (show opOf k x y z = ⟨6, x % 3, y % 3, 0, z % 50, 0, 0⟩ by simp [opOf, h])
  have w0 := IntWalk.i64_in k (by omega)
  have w1 := IntWalk.i64_in x (by omega)
  have w2 := IntWalk.i64_in y (by omega)
  have w3 := IntWalk.i64_in z (by omega)
  go_enter Try.func79, Try.ntmps79
  go_wp2_with fail
  refine wp_region_mixed [true, true, true, true, true, true, true, true, true, true, true, true, true, true, true, true, true, true, true, true] 0 20 (by kernel_rfl) (by kernel_rfl) (by kernel_rfl) ?_ (by decide) (by decide) (by decide) (by kernel_rfl) ?_
  · intro c a d v w h; cases d <;> exact h
  intro X00
  simp only [pickOps]
  repeat (go_big_quiet_step (fail))
  refine wpQuiet_nil (fun X0 => ?_)
  clear X00
  refine wpAnyM_done (by kernel_rfl) (fun X0' => ?_) _
  clear g0 g1 g2 g3 w0 w1 w2 w3
  go_wp2
  refine bodyPost_ret (v := (Opr.val ⟨6, x % 3, y % 3, 0, z % 50, 0, 0⟩)) (by simp [Opr.val, results, Try.results79, go_sem]) rfl ?_
  rw [HV.out]
  exact Gives.mk rfl (by (repeat (first | (with_reducible assumption) | (with_reducible exact Ext.refl _) | (with_reducible exact Ext.more _ _ _ _) | apply Ext.alloc | refine Ext.setCell ?_ (by first | exact Nat.le_refl _ | exact Nat.le_add_right _ _ | assumption) _ | apply Ext.patch | apply Ext.drew | apply Ext.drewN)))

set_option maxRecDepth 100000 in
theorem one25_11 (b o cap : Nat) (k x y z : Int) (w : World) (hk0 : 0 ≤ k) (hk1 : k ≤ 255) (hx0 : 0 ≤ x) (hx1 : x ≤ 255) (hy0 : 0 ≤ y) (hy1 : y ≤ 255) (hz0 : 0 ≤ z) (hz1 : z ≤ 255) (hb : b < w.heap.size) (g0 : w.cell? ⟨b, o, none⟩ = some (.int .u8 k)) (g1 : w.cell? ⟨b, o + 1, none⟩ = some (.int .u8 x)) (g2 : w.cell? ⟨b, o + 2, none⟩ = some (.int .u8 y)) (g3 : w.cell? ⟨b, o + 3, none⟩ = some (.int .u8 z)) (h : k % 20 = 11) :
    Calls Try.prog 79 #[.slice (some ⟨b, o, none⟩) 4 cap] w (Gives (opOf k x y z).val w) := by
  have HV := Lib.hid (show opOf k x y z = ⟨7, x % 3, 0, 0, y % 2, 0, 0⟩ by simp [opOf, h])
  have w0 := IntWalk.i64_in k (by omega)
  have w1 := IntWalk.i64_in x (by omega)
  have w2 := IntWalk.i64_in y (by omega)
  have w3 := IntWalk.i64_in z (by omega)
  go_enter Try.func79, Try.ntmps79
  go_wp2_with fail
  refine wp_region_mixed [true, true, true, true, true, true, true, true, true, true, true, true, true, true, true, true, true, true, true, true] 0 20 (by kernel_rfl) (by kernel_rfl) (by kernel_rfl) ?_ (by decide) (by decide) (by decide) (by kernel_rfl) ?_
  · intro c a d v w h; cases d <;> exact h
  intro X00
  simp only [pickOps]
  repeat (go_big_quiet_step (fail))
  refine wpQuiet_nil (fun X0 => ?_)
  clear X00
  refine wpAnyM_done (by kernel_rfl) (fun X0' => ?_) _
  clear g0 g1 g2 g3 w0 w1 w2 w3
  go_wp2
  refine bodyPost_ret (v := (Opr.val ⟨7, x % 3, 0, 0, y % 2, 0, 0⟩)) (by simp [Opr.val, results, Try.results79, go_sem]) rfl ?_
  rw [HV.out]
  exact Gives.mk rfl (by (repeat (first | (with_reducible assumption) | (with_reducible exact Ext.refl _) | (with_reducible exact Ext.more _ _ _ _) | apply Ext.alloc | refine Ext.setCell ?_ (by first | exact Nat.le_refl _ | exact Nat.le_add_right _ _ | assumption) _ | apply Ext.patch | apply Ext.drew | apply Ext.drewN)))

set_option maxRecDepth 100000 in
theorem one25_12 (b o cap : Nat) (k x y z : Int) (w : World) (hk0 : 0 ≤ k) (hk1 : k ≤ 255) (hx0 : 0 ≤ x) (hx1 : x ≤ 255) (hy0 : 0 ≤ y) (hy1 : y ≤ 255) (hz0 : 0 ≤ z) (hz1 : z ≤ 255) (hb : b < w.heap.size) (g0 : w.cell? ⟨b, o, none⟩ = some (.int .u8 k)) (g1 : w.cell? ⟨b, o + 1, none⟩ = some (.int .u8 x)) (g2 : w.cell? ⟨b, o + 2, none⟩ = some (.int .u8 y)) (g3 : w.cell? ⟨b, o + 3, none⟩ = some (.int .u8 z)) (h : k % 20 = 12) :
    Calls Try.prog 79 #[.slice (some ⟨b, o, none⟩) 4 cap] w (Gives (opOf k x y z).val w) := by
  have HV := Lib.hid (show opOf k x y z = ⟨8, 0, x % 3, 0, y % 2, 0, 0⟩ by simp [opOf, h])
  have w0 := IntWalk.i64_in k (by omega)
  have w1 := IntWalk.i64_in x (by omega)
  have w2 := IntWalk.i64_in y (by omega)
  have w3 := IntWalk.i64_in z (by omega)
  go_enter Try.func79, Try.ntmps79
  go_wp2_with fail
  refine wp_region_mixed [true, true, true, true, true, true, true, true, true, true, true, true, true, true, true, true, true, true, true, true] 0 20 (by kernel_rfl) (by kernel_rfl) (by kernel_rfl) ?_ (by decide) (by decide) (by decide) (by kernel_rfl) ?_
  · intro c a d v w h; cases d <;> exact h
  intro X00
  simp only [pickOps]
  repeat (go_big_quiet_step (fail))
  refine wpQuiet_nil (fun X0 => ?_)
  clear X00
  refine wpAnyM_done (by kernel_rfl) (fun X0' => ?_) _
  clear g0 g1 g2 g3 w0 w1 w2 w3
  go_wp2
  refine bodyPost_ret (v := (Opr.val ⟨8, 0, x % 3, 0, y % 2, 0, 0⟩)) (by simp [Opr.val, results, Try.results79, go_sem]) rfl ?_
  rw [HV.out]
  exact Gives.mk rfl (by (repeat (first | (with_reducible assumption) | (with_reducible exact Ext.refl _) | (with_reducible exact Ext.more _ _ _ _) | apply Ext.alloc | refine Ext.setCell ?_ (by first | exact Nat.le_refl _ | exact Nat.le_add_right _ _ | assumption) _ | apply Ext.patch | apply Ext.drew | apply Ext.drewN)))

set_option maxRecDepth 100000 in
theorem one25_13 (b o cap : Nat) (k x y z : Int) (w : World) (hk0 : 0 ≤ k) (hk1 : k ≤ 255) (hx0 : 0 ≤ x) (hx1 : x ≤ 255) (hy0 : 0 ≤ y) (hy1 : y ≤ 255) (hz0 : 0 ≤ z) (hz1 : z ≤ 255) (hb : b < w.heap.size) (g0 : w.cell? ⟨b, o, none⟩ = some (.int .u8 k)) (g1 : w.cell? ⟨b, o + 1, none⟩ = some (.int .u8 x)) (g2 : w.cell? ⟨b, o + 2, none⟩ = some (.int .u8 y)) (g3 : w.cell? ⟨b, o + 3, none⟩ = some (.int .u8 z)) (h : k % 20 = 13) :
    Calls Try.prog 79 #[.slice (some ⟨b, o, none⟩) 4 cap] w (Gives (opOf k x y z).val w) := by
  have HV := Lib.hid (show opOf k x y z = ⟨13, x % 3, 0, 0, 0, 0, 0⟩ by simp [opOf, h])
  have w0 := IntWalk.i64_in k (by omega)
  have w1 := IntWalk.i64_in x (by omega)
  have w2 := IntWalk.i64_in y (by omega)
  have w3 := IntWalk.i64_in z (by omega)
  go_enter Try.func79, Try.ntmps79
  go_wp2_with fail
  refine wp_region_mixed [true, true, true, true, true, true, true, true, true, true, true, true, true, true, true, true, true, true, true, true] 0 20 (by kernel_rfl) (by kernel_rfl) (by kernel_rfl) ?_ (by decide) (by decide) (by decide) (by kernel_rfl) ?_
  · intro c a d v w h; cases d <;> exact h
  intro X00
  simp only [pickOps]
  repeat (go_big_quiet_step (fail))
  refine wpQuiet_nil (fun X0 => ?_)
  clear X00
  refine wpAnyM_done (by kernel_rfl) (fun X0' => ?_) _
  clear g0 g1 g2 g3 w0 w1 w2 w3
  go_wp2
  refine bodyPost_ret (v := (Opr.val ⟨13, x % 3, 0, 0, 0, 0, 0⟩)) (by simp [Opr.val, results, Try.results79, go_sem]) rfl ?_
  rw [HV.out]
  exact Gives.mk rfl (by (repeat (first | (with_reducible assumption) | (with_reducible exact Ext.refl _) | (with_reducible exact Ext.more _ _ _ _) | apply Ext.alloc | refine Ext.setCell ?_ (by first | exact Nat.le_refl _ | exact Nat.le_add_right _ _ | assumption) _ | apply Ext.patch | apply Ext.drew | apply Ext.drewN)))

set_option maxRecDepth 100000 in
theorem one25_14 (b o cap : Nat) (k x y z : Int) (w : World) (hk0 : 0 ≤ k) (hk1 : k ≤ 255) (hx0 : 0 ≤ x) (hx1 : x ≤ 255) (hy0 : 0 ≤ y) (hy1 : y ≤ 255) (hz0 : 0 ≤ z) (hz1 : z ≤ 255) (hb : b < w.heap.size) (g0 : w.cell? ⟨b, o, none⟩ = some (.int .u8 k)) (g1 : w.cell? ⟨b, o + 1, none⟩ = some (.int .u8 x)) (g2 : w.cell? ⟨b, o + 2, none⟩ = some (.int .u8 y)) (g3 : w.cell? ⟨b, o + 3, none⟩ = some (.int .u8 z)) (h : k % 20 = 14) :
    Calls Try.prog 79 #[.slice (some ⟨b, o, none⟩) 4 cap] w (Gives (opOf k x y z).val w) := by
  have HV := Lib.hid (show opOf k x y z = ⟨14, x % 3, y % 3, 0, 0, 0, 0⟩ by simp [opOf, h])
  have w0 := IntWalk.i64_in k (by omega)
  have w1 := IntWalk.i64_in x (by omega)
  have w2 := IntWalk.i64_in y (by omega)
  have w3 := IntWalk.i64_in z (by omega)
  go_enter Try.func79, Try.ntmps79
  go_wp2_with fail
  refine wp_region_mixed [true, true, true, true, true, true, true, true, true, true, true, true, true, true, true, true, true, true, true, true] 0 20 (by kernel_rfl) (by kernel_rfl) (by kernel_rfl) ?_ (by decide) (by decide) (by decide) (by kernel_rfl) ?_
  · intro c a d v w h; cases d <;> exact h
  intro X00
  simp only [pickOps]
  repeat (go_big_quiet_step (fail))
  refine wpQuiet_nil (fun X0 => ?_)
  clear X00
  refine wpAnyM_done (by kernel_rfl) (fun X0' => ?_) _
  clear g0 g1 g2 g3 w0 w1 w2 w3
  go_wp2
  refine bodyPost_ret (v := (Opr.val ⟨14, x % 3, y % 3, 0, 0, 0, 0⟩)) (by simp [Opr.val, results, Try.results79, go_sem]) rfl ?_
  rw [HV.out]
  exact Gives.mk rfl (by (repeat (first | (with_reducible assumption) | (with_reducible exact Ext.refl _) | (with_reducible exact Ext.more _ _ _ _) | apply Ext.alloc | refine Ext.setCell ?_ (by first | exact Nat.le_refl _ | exact Nat.le_add_right _ _ | assumption) _ | apply Ext.patch | apply Ext.drew | apply Ext.drewN)))

set_option maxRecDepth 100000 in
theorem one25_15 (b o cap : Nat) (k x y z : Int) (w : World) (hk0 : 0 ≤ k) (hk1 : k ≤ 255) (hx0 : 0 ≤ x) (hx1 : x ≤ 255) (hy0 : 0 ≤ y) (hy1 : y ≤ 255) (hz0 : 0 ≤ z) (hz1 : z ≤ 255) (hb : b < w.heap.size) (g0 : w.cell? ⟨b, o, none⟩ = some (.int .u8 k)) (g1 : w.cell? ⟨b, o + 1, none⟩ = some (.int .u8 x)) (g2 : w.cell? ⟨b, o + 2, none⟩ = some (.int .u8 y)) (g3 : w.cell? ⟨b, o + 3, none⟩ = some (.int .u8 z)) (h : k % 20 = 15) :
    Calls Try.prog 79 #[.slice (some ⟨b, o, none⟩) 4 cap] w (Gives (opOf k x y z).val w) := by
  have HV := Lib.hid (show opOf k x y z = ⟨12, x % 3, 0, 0, 0, floatOfInt .f64 x, floatOfInt .f64 y⟩ by simp [opOf, h])
  have w0 := IntWalk.i64_in k (by omega)
  have w1 := IntWalk.i64_in x (by omega)
  have w2 := IntWalk.i64_in y (by omega)
  have w3 := IntWalk.i64_in z (by omega)
  go_enter Try.func79, Try.ntmps79
  go_wp2_with fail
  refine wp_region_mixed [true, true, true, true, true, true, true, true, true, true, true, true, true, true, true, true, true, true, true, true] 0 20 (by kernel_rfl) (by kernel_rfl) (by kernel_rfl) ?_ (by decide) (by decide) (by decide) (by kernel_rfl) ?_
  · intro c a d v w h; cases d <;> exact h
  intro X00
  simp only [pickOps]
  repeat (go_big_quiet_step (fail))
  refine wpQuiet_nil (fun X0 => ?_)
  clear X00
  refine wpAnyM_done (by kernel_rfl) (fun X0' => ?_) _
  clear g0 g1 g2 g3 w0 w1 w2 w3
  go_wp2
  refine bodyPost_ret (v := (Opr.val ⟨12, x % 3, 0, 0, 0, floatOfInt .f64 x, floatOfInt .f64 y⟩)) (by simp [Opr.val, results, Try.results79, go_sem]) rfl ?_
  rw [HV.out]
  exact Gives.mk rfl (by (repeat (first | (with_reducible assumption) | (with_reducible exact Ext.refl _) | (with_reducible exact Ext.more _ _ _ _) | apply Ext.alloc | refine Ext.setCell ?_ (by first | exact Nat.le_refl _ | exact Nat.le_add_right _ _ | assumption) _ | apply Ext.patch | apply Ext.drew | apply Ext.drewN)))

set_option maxRecDepth 100000 in
theorem one25_16 (b o cap : Nat) (k x y z : Int) (w : World) (hk0 : 0 ≤ k) (hk1 : k ≤ 255) (hx0 : 0 ≤ x) (hx1 : x ≤ 255) (hy0 : 0 ≤ y) (hy1 : y ≤ 255) (hz0 : 0 ≤ z) (hz1 : z ≤ 255) (hb : b < w.heap.size) (g0 : w.cell? ⟨b, o, none⟩ = some (.int .u8 k)) (g1 : w.cell? ⟨b, o + 1, none⟩ = some (.int .u8 x)) (g2 : w.cell? ⟨b, o + 2, none⟩ = some (.int .u8 y)) (g3 : w.cell? ⟨b, o + 3, none⟩ = some (.int .u8 z)) (h : k % 20 = 16) :
    Calls Try.prog 79 #[.slice (some ⟨b, o, none⟩) 4 cap] w (Gives (opOf k x y z).val w) := by
  have HV := Lib.hid (show opOf k x y z = ⟨15 + z % 2, x % 3, y % 3, z % 3, 0, 0, 0⟩ by simp [opOf, h])
  have w0 := IntWalk.i64_in k (by omega)
  have w1 := IntWalk.i64_in x (by omega)
  have w2 := IntWalk.i64_in y (by omega)
  have w3 := IntWalk.i64_in z (by omega)
  go_enter Try.func79, Try.ntmps79
  go_wp2_with fail
  refine wp_region_mixed [true, true, true, true, true, true, true, true, true, true, true, true, true, true, true, true, true, true, true, true] 0 20 (by kernel_rfl) (by kernel_rfl) (by kernel_rfl) ?_ (by decide) (by decide) (by decide) (by kernel_rfl) ?_
  · intro c a d v w h; cases d <;> exact h
  intro X00
  simp only [pickOps]
  repeat (go_big_quiet_step (fail))
  refine wpQuiet_nil (fun X0 => ?_)
  clear X00
  refine wpAnyM_done (by kernel_rfl) (fun X0' => ?_) _
  clear g0 g1 g2 g3 w0 w1 w2 w3
  go_wp2
  refine bodyPost_ret (v := (Opr.val ⟨15 + z % 2, x % 3, y % 3, z % 3, 0, 0, 0⟩)) (by simp [Opr.val, results, Try.results79, go_sem]) rfl ?_
  rw [HV.out]
  exact Gives.mk rfl (by (repeat (first | (with_reducible assumption) | (with_reducible exact Ext.refl _) | (with_reducible exact Ext.more _ _ _ _) | apply Ext.alloc | refine Ext.setCell ?_ (by first | exact Nat.le_refl _ | exact Nat.le_add_right _ _ | assumption) _ | apply Ext.patch | apply Ext.drew | apply Ext.drewN)))

set_option maxRecDepth 100000 in
theorem one25_17 (b o cap : Nat) (k x y z : Int) (w : World) (hk0 : 0 ≤ k) (hk1 : k ≤ 255) (hx0 : 0 ≤ x) (hx1 : x ≤ 255) (hy0 : 0 ≤ y) (hy1 : y ≤ 255) (hz0 : 0 ≤ z) (hz1 : z ≤ 255) (hb : b < w.heap.size) (g0 : w.cell? ⟨b, o, none⟩ = some (.int .u8 k)) (g1 : w.cell? ⟨b, o + 1, none⟩ = some (.int .u8 x)) (g2 : w.cell? ⟨b, o + 2, none⟩ = some (.int .u8 y)) (g3 : w.cell? ⟨b, o + 3, none⟩ = some (.int .u8 z)) (h : k % 20 = 17) :
    Calls Try.prog 79 #[.slice (some ⟨b, o, none⟩) 4 cap] w (Gives (opOf k x y z).val w) := by
  have HV := Lib.hid (show opOf k x y z = ⟨9, x % 3, y % 3, z % 3, 0, 0, 0⟩ by simp [opOf, h])
  have w0 := IntWalk.i64_in k (by omega)
  have w1 := IntWalk.i64_in x (by omega)
  have w2 := IntWalk.i64_in y (by omega)
  have w3 := IntWalk.i64_in z (by omega)
  go_enter Try.func79, Try.ntmps79
  go_wp2_with fail
  refine wp_region_mixed [true, true, true, true, true, true, true, true, true, true, true, true, true, true, true, true, true, true, true, true] 0 20 (by kernel_rfl) (by kernel_rfl) (by kernel_rfl) ?_ (by decide) (by decide) (by decide) (by kernel_rfl) ?_
  · intro c a d v w h; cases d <;> exact h
  intro X00
  simp only [pickOps]
  repeat (go_big_quiet_step (fail))
  refine wpQuiet_nil (fun X0 => ?_)
  clear X00
  refine wpAnyM_done (by kernel_rfl) (fun X0' => ?_) _
  clear g0 g1 g2 g3 w0 w1 w2 w3
  go_wp2
  refine bodyPost_ret (v := (Opr.val ⟨9, x % 3, y % 3, z % 3, 0, 0, 0⟩)) (by simp [Opr.val, results, Try.results79, go_sem]) rfl ?_
  rw [HV.out]
  exact Gives.mk rfl (by (repeat (first | (with_reducible assumption) | (with_reducible exact Ext.refl _) | (with_reducible exact Ext.more _ _ _ _) | apply Ext.alloc | refine Ext.setCell ?_ (by first | exact Nat.le_refl _ | exact Nat.le_add_right _ _ | assumption) _ | apply Ext.patch | apply Ext.drew | apply Ext.drewN)))

set_option maxRecDepth 100000 in
theorem one25_18 (b o cap : Nat) (k x y z : Int) (w : World) (hk0 : 0 ≤ k) (hk1 : k ≤ 255) (hx0 : 0 ≤ x) (hx1 : x ≤ 255) (hy0 : 0 ≤ y) (hy1 : y ≤ 255) (hz0 : 0 ≤ z) (hz1 : z ≤ 255) (hb : b < w.heap.size) (g0 : w.cell? ⟨b, o, none⟩ = some (.int .u8 k)) (g1 : w.cell? ⟨b, o + 1, none⟩ = some (.int .u8 x)) (g2 : w.cell? ⟨b, o + 2, none⟩ = some (.int .u8 y)) (g3 : w.cell? ⟨b, o + 3, none⟩ = some (.int .u8 z)) (h : k % 20 = 18) :
    Calls Try.prog 79 #[.slice (some ⟨b, o, none⟩) 4 cap] w (Gives (opOf k x y z).val w) := by
  have HV := Lib.hid (show opOf k x y z = ⟨10 + z % 2, x % 3, y % 3, 0, 0, 0, 0⟩ by simp [opOf, h])
  have w0 := IntWalk.i64_in k (by omega)
  have w1 := IntWalk.i64_in x (by omega)
  have w2 := IntWalk.i64_in y (by omega)
  have w3 := IntWalk.i64_in z (by omega)
  go_enter Try.func79, Try.ntmps79
  go_wp2_with fail
  refine wp_region_mixed [true, true, true, true, true, true, true, true, true, true, true, true, true, true, true, true, true, true, true, true] 0 20 (by kernel_rfl) (by kernel_rfl) (by kernel_rfl) ?_ (by decide) (by decide) (by decide) (by kernel_rfl) ?_
  · intro c a d v w h; cases d <;> exact h
  intro X00
  simp only [pickOps]
  repeat (go_big_quiet_step (fail))
  refine wpQuiet_nil (fun X0 => ?_)
  clear X00
  refine wpAnyM_done (by kernel_rfl) (fun X0' => ?_) _
  clear g0 g1 g2 g3 w0 w1 w2 w3
  go_wp2
  refine bodyPost_ret (v := (Opr.val ⟨10 + z % 2, x % 3, y % 3, 0, 0, 0, 0⟩)) (by simp [Opr.val, results, Try.results79, go_sem]) rfl ?_
  rw [HV.out]
  exact Gives.mk rfl (by (repeat (first | (with_reducible assumption) | (with_reducible exact Ext.refl _) | (with_reducible exact Ext.more _ _ _ _) | apply Ext.alloc | refine Ext.setCell ?_ (by first | exact Nat.le_refl _ | exact Nat.le_add_right _ _ | assumption) _ | apply Ext.patch | apply Ext.drew | apply Ext.drewN)))

set_option maxRecDepth 100000 in
theorem one25_19 (b o cap : Nat) (k x y z : Int) (w : World) (hk0 : 0 ≤ k) (hk1 : k ≤ 255) (hx0 : 0 ≤ x) (hx1 : x ≤ 255) (hy0 : 0 ≤ y) (hy1 : y ≤ 255) (hz0 : 0 ≤ z) (hz1 : z ≤ 255) (hb : b < w.heap.size) (g0 : w.cell? ⟨b, o, none⟩ = some (.int .u8 k)) (g1 : w.cell? ⟨b, o + 1, none⟩ = some (.int .u8 x)) (g2 : w.cell? ⟨b, o + 2, none⟩ = some (.int .u8 y)) (g3 : w.cell? ⟨b, o + 3, none⟩ = some (.int .u8 z)) (h : k % 20 = 19) :
    Calls Try.prog 79 #[.slice (some ⟨b, o, none⟩) 4 cap] w (Gives (opOf k x y z).val w) := by
  have HV := Lib.hid (show opOf k x y z = ⟨17, 0, 0, 0, 0, 0, 0⟩ by simp [opOf, h])
  have w0 := IntWalk.i64_in k (by omega)
  have w1 := IntWalk.i64_in x (by omega)
  have w2 := IntWalk.i64_in y (by omega)
  have w3 := IntWalk.i64_in z (by omega)
  go_enter Try.func79, Try.ntmps79
  go_wp2_with fail
  refine wp_region_mixed [true, true, true, true, true, true, true, true, true, true, true, true, true, true, true, true, true, true, true, true] 0 20 (by kernel_rfl) (by kernel_rfl) (by kernel_rfl) ?_ (by decide) (by decide) (by decide) (by kernel_rfl) ?_
  · intro c a d v w h; cases d <;> exact h
  intro X00
  simp only [pickOps]
  repeat (go_big_quiet_step (fail))
  refine wpQuiet_nil (fun X0 => ?_)
  clear X00
  refine wpAnyM_done (by kernel_rfl) (fun X0' => ?_) _
  clear g0 g1 g2 g3 w0 w1 w2 w3
  go_wp2
  refine bodyPost_ret (v := (Opr.val ⟨17, 0, 0, 0, 0, 0, 0⟩)) (by simp [Opr.val, results, Try.results79, go_sem]) rfl ?_
  rw [HV.out]
  exact Gives.mk rfl (by (repeat (first | (with_reducible assumption) | (with_reducible exact Ext.refl _) | (with_reducible exact Ext.more _ _ _ _) | apply Ext.alloc | refine Ext.setCell ?_ (by first | exact Nat.le_refl _ | exact Nat.le_add_right _ _ | assumption) _ | apply Ext.patch | apply Ext.drew | apply Ext.drewN)))

theorem one25_any (b o cap : Nat) (k x y z : Int) (w : World) (hk0 : 0 ≤ k) (hk1 : k ≤ 255) (hx0 : 0 ≤ x) (hx1 : x ≤ 255) (hy0 : 0 ≤ y) (hy1 : y ≤ 255) (hz0 : 0 ≤ z) (hz1 : z ≤ 255) (hb : b < w.heap.size) (g0 : w.cell? ⟨b, o, none⟩ = some (.int .u8 k)) (g1 : w.cell? ⟨b, o + 1, none⟩ = some (.int .u8 x)) (g2 : w.cell? ⟨b, o + 2, none⟩ = some (.int .u8 y)) (g3 : w.cell? ⟨b, o + 3, none⟩ = some (.int .u8 z)) :
    Calls Try.prog 79 #[.slice (some ⟨b, o, none⟩) 4 cap] w (Gives (opOf k x y z).val w) := by
  have hr : k % 20 = 0 ∨ k % 20 = 1 ∨ k % 20 = 2 ∨ k % 20 = 3 ∨ k % 20 = 4 ∨ k % 20 = 5 ∨ k % 20 = 6 ∨ k % 20 = 7 ∨ k % 20 = 8 ∨ k % 20 = 9 ∨ k % 20 = 10 ∨ k % 20 = 11 ∨ k % 20 = 12 ∨ k % 20 = 13 ∨ k % 20 = 14 ∨ k % 20 = 15 ∨ k % 20 = 16 ∨ k % 20 = 17 ∨ k % 20 = 18 ∨ k % 20 = 19 := by omega
  have hm : y % 3 = 0 ∨ y % 3 = 1 ∨ y % 3 = 2 := by omega
  rcases hr with h | h | h | h | h | h | h | h | h | h | h | h | h | h | h | h | h | h | h | h
  · rcases hm with h' | h' | h'
    · exact one25_0_0 b o cap k x y z w hk0 hk1 hx0 hx1 hy0 hy1 hz0 hz1 hb g0 g1 g2 g3 h h'
    · exact one25_0_1 b o cap k x y z w hk0 hk1 hx0 hx1 hy0 hy1 hz0 hz1 hb g0 g1 g2 g3 h h'
    · exact one25_0_2 b o cap k x y z w hk0 hk1 hx0 hx1 hy0 hy1 hz0 hz1 hb g0 g1 g2 g3 h h'
  · rcases hm with h' | h' | h'
    · exact one25_1_0 b o cap k x y z w hk0 hk1 hx0 hx1 hy0 hy1 hz0 hz1 hb g0 g1 g2 g3 h h'
    · exact one25_1_1 b o cap k x y z w hk0 hk1 hx0 hx1 hy0 hy1 hz0 hz1 hb g0 g1 g2 g3 h h'
    · exact one25_1_2 b o cap k x y z w hk0 hk1 hx0 hx1 hy0 hy1 hz0 hz1 hb g0 g1 g2 g3 h h'
  · exact one25_2 b o cap k x y z w hk0 hk1 hx0 hx1 hy0 hy1 hz0 hz1 hb g0 g1 g2 g3 h
  · exact one25_3 b o cap k x y z w hk0 hk1 hx0 hx1 hy0 hy1 hz0 hz1 hb g0 g1 g2 g3 h
  · exact one25_4 b o cap k x y z w hk0 hk1 hx0 hx1 hy0 hy1 hz0 hz1 hb g0 g1 g2 g3 h
  · exact one25_5 b o cap k x y z w hk0 hk1 hx0 hx1 hy0 hy1 hz0 hz1 hb g0 g1 g2 g3 h
  · exact one25_6 b o cap k x y z w hk0 hk1 hx0 hx1 hy0 hy1 hz0 hz1 hb g0 g1 g2 g3 h
  · exact one25_7 b o cap k x y z w hk0 hk1 hx0 hx1 hy0 hy1 hz0 hz1 hb g0 g1 g2 g3 h
  · exact one25_8 b o cap k x y z w hk0 hk1 hx0 hx1 hy0 hy1 hz0 hz1 hb g0 g1 g2 g3 h
  · exact one25_9 b o cap k x y z w hk0 hk1 hx0 hx1 hy0 hy1 hz0 hz1 hb g0 g1 g2 g3 h
  · exact one25_10 b o cap k x y z w hk0 hk1 hx0 hx1 hy0 hy1 hz0 hz1 hb g0 g1 g2 g3 h
  · exact one25_11 b o cap k x y z w hk0 hk1 hx0 hx1 hy0 hy1 hz0 hz1 hb g0 g1 g2 g3 h
  · exact one25_12 b o cap k x y z w hk0 hk1 hx0 hx1 hy0 hy1 hz0 hz1 hb g0 g1 g2 g3 h
  · exact one25_13 b o cap k x y z w hk0 hk1 hx0 hx1 hy0 hy1 hz0 hz1 hb g0 g1 g2 g3 h
  · exact one25_14 b o cap k x y z w hk0 hk1 hx0 hx1 hy0 hy1 hz0 hz1 hb g0 g1 g2 g3 h
  · exact one25_15 b o cap k x y z w hk0 hk1 hx0 hx1 hy0 hy1 hz0 hz1 hb g0 g1 g2 g3 h
  · exact one25_16 b o cap k x y z w hk0 hk1 hx0 hx1 hy0 hy1 hz0 hz1 hb g0 g1 g2 g3 h
  · exact one25_17 b o cap k x y z w hk0 hk1 hx0 hx1 hy0 hy1 hz0 hz1 hb g0 g1 g2 g3 h
  · exact one25_18 b o cap k x y z w hk0 hk1 hx0 hx1 hy0 hy1 hz0 hz1 hb g0 g1 g2 g3 h
  · exact one25_19 b o cap k x y z w hk0 hk1 hx0 hx1 hy0 hy1 hz0 hz1 hb g0 g1 g2 g3 h
end Go.Proofs.Ytlddahifhefjiaa
