/-
  heap: what a fresh one tells; audit: looks, Look, roots, Reach, Sound of a fresh heap.
-/
import Derived.Test.YthdijbkcjmeilaaGreatHeapZ
namespace Go.Proofs.YthdijbkcjmeilaaGreat
open Go Go.RowKit
set_option linter.unusedVariables false
set_option linter.unnecessarySimpa false
set_option linter.unusedSimpArgs false
set_option maxHeartbeats 4000000
set_option maxRecDepth 100000
section
variable {w : World} {h : Nat} {c : Cnf}
theorem heap_head (H : HpAt w h c) : Calls Tryz.prog 156 #[.pointer (some ⟨h, 0, none⟩), .int .i64 0] w (Gives (.bool false) w) := by
  obtain ⟨own, k, y, bm, bs, bt, bp, bsp, bh, cm, H⟩ := H
  obtain ⟨tab, -⟩ : ∃ _ : SpaceAt ⟨own, w⟩ 100 bsp bt (CoreS.fresh c).sp, True := ⟨H.core.sp, trivial⟩
  obtain ⟨qp, qk, ql, As, cs, cq, qs, hq⟩ := tab
  have HT := Lib.hid (fun w' (he : Ext w w') => (show Calls Tryz.prog 20 #[.pointer (some ⟨bt, 0, none⟩), .int .i64 0] w' (fun e w2 => e = .returned (.bool false) ∧ w' = w2) from by
    obtain ⟨own', m⟩ := Mod.ofExt he own
    have := tab_head ⟨own', w'⟩ (100 + 50) bt 0 _ (hq.tab.keep m id)
    rw [show (CoreS.fresh c).sp.tab.head 0 = false from by
      show (TabS.fresh c.frags.toNat).head 0 = false
      unfold TabS.head TabS.at_ TabS.fresh
      split
      · rw [List.getElem?_replicate]
        split <;> rfl
      · rfl] at this
    exact this))
  have a0 := H.blk.cell (i := 0) rfl
  have a1 := H.blk.cell (i := 1) rfl
  have a2 := H.blk.cell (i := 2) rfl
  have a3 := H.blk.cell (i := 3) rfl
  have al := H.blk.lt
  (try simp only [GW.to] at a0 a1 a2 a3 al)
  have c0 := H.core.blk.cell (i := 0) rfl
  have c1 := H.core.blk.cell (i := 1) rfl
  have c2 := H.core.blk.cell (i := 2) rfl
  have c3 := H.core.blk.cell (i := 3) rfl
  have c4 := H.core.blk.cell (i := 4) rfl
  have c5 := H.core.blk.cell (i := 5) rfl
  have c6 := H.core.blk.cell (i := 6) rfl
  have c7 := H.core.blk.cell (i := 7) rfl
  have c8 := H.core.blk.cell (i := 8) rfl
  have c9 := H.core.blk.cell (i := 9) rfl
  have c10 := H.core.blk.cell (i := 10) rfl
  have c11 := H.core.blk.cell (i := 11) rfl
  have c12 := H.core.blk.cell (i := 12) rfl
  have cl := H.core.blk.lt
  (try simp only [GW.to] at c0 c1 c2 c3 c4 c5 c6 c7 c8 c9 c10 c11 c12 cl)
  have s0 := H.core.sh.cell (i := 0) rfl
  have s1 := H.core.sh.cell (i := 1) rfl
  have s2 := H.core.sh.cell (i := 2) rfl
  have sl := H.core.sh.lt
  (try simp only [GW.to] at s0 s1 s2 sl)
  clear H hq
  go_enter Tryz.func156, Tryz.ntmps156
  go_wp2_with fail
  refine (shade_table bt _).mono ?_
  rintro e w1 ⟨rfl, hX⟩
  have HX := Lib.hid hX
  clear hX
  go_wp2_with fail
  refine (HT.out _ HX.out).mono ?_
  rintro e w2 ⟨rfl, rfl⟩
  go_wp2_with fail
  go_ret
  exact Gives.mk rfl HX.out
theorem heap_counts (hck : c.check = 0) (H : HpAt w h c) : Calls Tryz.prog 92 #[.pointer (some ⟨h, 0, none⟩)] w (Gives (.tuple #[.int .i64 c.frags, .int .i64 0, .int .i64 0]) w) := by
  obtain ⟨⟨r0, r1⟩, -⟩ := Cnf.ranged (Cnf.check_zero hck).1
  obtain ⟨own, k, y, bm, bs, bt, bp, bsp, bh, cm, H⟩ := H
  obtain ⟨tab, -⟩ : ∃ _ : SpaceAt ⟨own, w⟩ 100 bsp bt (CoreS.fresh c).sp, True := ⟨H.core.sp, trivial⟩
  obtain ⟨qp, qk, ql, As, cs, cq, qs, hq⟩ := tab
  have k0 : ((TabS.cnt (CoreS.fresh c).sp.tab 0 : Nat) : Int) = c.frags := by
    show (((List.replicate c.frags.toNat One.zero).countP (fun o => o.state == 0) : Nat) : Int) = c.frags
    rw [List.countP_replicate]
    simp [One.zero]
    omega
  have k1 : ((TabS.cnt (CoreS.fresh c).sp.tab 1 : Nat) : Int) = 0 := by
    show (((List.replicate c.frags.toNat One.zero).countP (fun o => o.state == 1) : Nat) : Int) = 0
    rw [List.countP_replicate]
    simp [One.zero]
  have k2 : ((TabS.cnt (CoreS.fresh c).sp.tab 2 : Nat) : Int) = 0 := by
    show (((List.replicate c.frags.toNat One.zero).countP (fun o => o.state == 2) : Nat) : Int) = 0
    rw [List.countP_replicate]
    simp [One.zero]
  have HT := Lib.hid (fun w' (he : Ext w w') => (show Calls Tryz.prog 16 #[.pointer (some ⟨bt, 0, none⟩)] w' (Gives (.tuple #[.int .i64 c.frags, .int .i64 0, .int .i64 0]) w') from by
    obtain ⟨own', m⟩ := Mod.ofExt he own
    have := tab_counts ⟨own', w'⟩ (100 + 50) bt _ (hq.tab.keep m id)
    rw [k0, k1, k2] at this
    exact this))
  have a0 := H.blk.cell (i := 0) rfl
  have a1 := H.blk.cell (i := 1) rfl
  have a2 := H.blk.cell (i := 2) rfl
  have a3 := H.blk.cell (i := 3) rfl
  have al := H.blk.lt
  (try simp only [GW.to] at a0 a1 a2 a3 al)
  have c0 := H.core.blk.cell (i := 0) rfl
  have c1 := H.core.blk.cell (i := 1) rfl
  have c2 := H.core.blk.cell (i := 2) rfl
  have c3 := H.core.blk.cell (i := 3) rfl
  have c4 := H.core.blk.cell (i := 4) rfl
  have c5 := H.core.blk.cell (i := 5) rfl
  have c6 := H.core.blk.cell (i := 6) rfl
  have c7 := H.core.blk.cell (i := 7) rfl
  have c8 := H.core.blk.cell (i := 8) rfl
  have c9 := H.core.blk.cell (i := 9) rfl
  have c10 := H.core.blk.cell (i := 10) rfl
  have c11 := H.core.blk.cell (i := 11) rfl
  have c12 := H.core.blk.cell (i := 12) rfl
  have cl := H.core.blk.lt
  (try simp only [GW.to] at c0 c1 c2 c3 c4 c5 c6 c7 c8 c9 c10 c11 c12 cl)
  have s0 := H.core.sh.cell (i := 0) rfl
  have s1 := H.core.sh.cell (i := 1) rfl
  have s2 := H.core.sh.cell (i := 2) rfl
  have sl := H.core.sh.lt
  (try simp only [GW.to] at s0 s1 s2 sl)
  clear H hq k0 k1 k2 r0 r1
  go_enter Tryz.func92, Tryz.ntmps92
  go_wp2_with fail
  refine (shade_table bt _).mono ?_
  rintro e w1 ⟨rfl, hX⟩
  have HX := Lib.hid hX
  clear hX
  go_wp2_with fail
  refine (HT.out _ HX.out).mono ?_
  rintro e w2 ⟨rfl, hX2⟩
  have HX2 := Lib.hid (show Ext w1 w2 from hX2)
  clear hX2
  go_wp2_with fail
  go_ret3
  exact Gives.mk rfl (Ext.trans HX.out HX2.out)
theorem heap_thread (i : Int) (hi : 0 ≤ i ∧ i ≤ 100) (H : HpAt w h c) : Calls Tryz.prog 162 #[.pointer (some ⟨h, 0, none⟩), .int .i64 i] w (Gives (.tuple #[.int .i64 (-1), .int .i64 (-1), .slice none 0 0]) w) := by
  obtain ⟨own, k, y, bm, bs, bt, bp, bsp, bh, cm, H⟩ := H
  have a0 := H.blk.cell (i := 0) rfl
  have a1 := H.blk.cell (i := 1) rfl
  have a2 := H.blk.cell (i := 2) rfl
  have a3 := H.blk.cell (i := 3) rfl
  have al := H.blk.lt
  (try simp only [GW.to] at a0 a1 a2 a3 al)
  obtain ⟨h0, h1⟩ := hi
  have d0 : decide (i < 0) = false := decide_eq_false (by omega)
  have d1 : decide (0 ≤ i) = true := decide_eq_true h0
  clear H
  go_enter Tryz.func162, Tryz.ntmps162
  go_wp2_with fail
  go_ret3
  exact Gives.mk rfl (by (repeat (first | (with_reducible assumption) | (with_reducible exact Ext.refl _) | (with_reducible exact Ext.more _ _ _ _) | apply Ext.alloc | refine Ext.setCell ?_ (by first | exact Nat.le_refl _ | exact Nat.le_add_right _ _ | assumption) _ | apply Ext.patch | apply Ext.drew | apply Ext.drewN)))
theorem heap_errno (y : Nat) (h : ∀ w' , Ext w w' → w'.cell? ⟨y, 13, none⟩ = some (.int .i64 0)) : Calls Tryz.prog 93 #[.agg #[.pointer (some ⟨y, 0, none⟩)]] w (Gives (.int .i64 0) w) := by
  have HC := Lib.hid (fun w' (he : Ext w w') => (show Calls Tryz.prog 167 #[.pointer (some ⟨y, 0, none⟩)] w' (Gives (.int .i64 0) w') from by
    have c13 := h w' he
    clear h he
    go_enter Tryz.func167, Tryz.ntmps167
    go_wp2_with fail
    go_ret
    exact Gives.int rfl (by (repeat (first | (with_reducible assumption) | (with_reducible exact Ext.refl _) | (with_reducible exact Ext.more _ _ _ _) | apply Ext.alloc | refine Ext.setCell ?_ (by first | exact Nat.le_refl _ | exact Nat.le_add_right _ _ | assumption) _ | apply Ext.patch | apply Ext.drew | apply Ext.drewN)))))
  clear h
  go_enter Tryz.func93, Tryz.ntmps93
  go_wp2_with fail
  refine (HC.out _ (by (repeat (first | (with_reducible assumption) | (with_reducible exact Ext.refl _) | (with_reducible exact Ext.more _ _ _ _) | apply Ext.alloc | refine Ext.setCell ?_ (by first | exact Nat.le_refl _ | exact Nat.le_add_right _ _ | assumption) _ | apply Ext.patch | apply Ext.drew | apply Ext.drewN)))).mono ?_
  rintro e w1 ⟨rfl, hX⟩
  obtain ⟨X1, rfl⟩ := hX
  go_wp2_with fail
  go_ret
  exact Gives.int rfl (by (repeat (first | (with_reducible assumption) | (with_reducible exact Ext.refl _) | (with_reducible exact Ext.more _ _ _ _) | apply Ext.alloc | refine Ext.setCell ?_ (by first | exact Nat.le_refl _ | exact Nat.le_add_right _ _ | assumption) _ | apply Ext.patch | apply Ext.drew | apply Ext.drewN)))
end
end Go.Proofs.YthdijbkcjmeilaaGreat
