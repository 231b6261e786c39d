/-
  heap: one without threads: New, Conf, Head, Counts, Thread, Errno.
-/
import Derived.Test.YthdijbkcjmeilaaGreatCore
import Derived.Test.YthdijbkcjmeilaaGreatCopy
namespace Go.Proofs.YthdijbkcjmeilaaGreat
open Go Go.RowKit
set_option linter.unusedVariables false
set_option linter.unnecessarySimpa false
set_option linter.unusedSimpArgs false
set_option maxHeartbeats 4000000
set_option maxRecDepth 100000
def cyZero : List Value := [.int .i64 0, .int .i64 0, .int .i64 0, .int .i64 0, .bool false, .pointer none, .pointer none, .bool false, .int .i64 0, .int .i64 0, .int .i64 0, .int .i64 0, .int .i64 0, .int .i64 0]
structure Hp0 (g : GW) (h k y bm bs bt bp bsp bh : Nat) (c cm : Cnf) : Prop where
  blk : Blk g 90 h 139 [.pointer (some ⟨k, 0, none⟩), .pointer (some ⟨y, 0, none⟩), .slice none 0 0, .int .i64 0]
  core : CoreIn g 100 k (CoreS.fresh c) bm bs bt bp bsp bh cm
  cyc : Blk g 91 y 213 cyZero
theorem Hp0.keep {g g' : GW} {h k y bm bs bt bp bsp bh : Nat} {c cm : Cnf} (H : Hp0 g h k y bm bs bt bp bsp bh c cm) (m : Mod (fun _ => False) g g') : Hp0 g' h k y bm bs bt bp bsp bh c cm :=
  ⟨H.blk.keep m id, H.core.keep m (fun _ => False.elim), H.cyc.keep m id⟩
def HpAt (w : World) (h : Nat) (c : Cnf) : Prop := ∃ own k y bm bs bt bp bsp bh cm, Hp0 ⟨own, w⟩ h k y bm bs bt bp bsp bh c cm
theorem HpAt.ext {w w' : World} {h : Nat} {c : Cnf} (H : HpAt w h c) (e : Ext w w') : HpAt w' h c := by
  obtain ⟨own, k, y, bm, bs, bt, bp, bsp, bh, cm, H⟩ := H
  obtain ⟨own', m⟩ := Mod.ofExt e own
  exact ⟨own', k, y, bm, bs, bt, bp, bsp, bh, cm, H.keep m⟩
theorem cyc_new (g : GW) (t : Nat) : Calls Tryz.prog 87 #[] g.w (fun e w' => ∃ own' b, e = .returned (.pointer (some ⟨b, 0, none⟩)) ∧ Mod (fun _ => False) g ⟨own', w'⟩ ∧ Blk ⟨own', w'⟩ t b 213 cyZero) := by
  go_enter Tryz.func87, Tryz.ntmps87
  go_wp2_with fail
  go_ret
  exact ⟨_, g.w.heap.size, rfl, Mod.ext (show Ext g.w (g.w.alloc (.cells (cyZero.toArray) 213)) by (repeat (first | (with_reducible assumption) | (with_reducible exact Ext.refl _) | (with_reducible exact Ext.more _ _ _ _) | apply Ext.alloc | refine Ext.setCell ?_ (by first | exact Nat.le_refl _ | exact Nat.le_add_right _ _ | assumption) _ | apply Ext.patch | apply Ext.drew | apply Ext.drewN))) t, Blk.new g t 213 cyZero⟩
theorem heap_new (c : Cnf) (w : World) (hck : c.check = 0) (hc : c.Ok w) : Calls Tryz.prog 33 #[c.val, .slice none 0 0] w (fun e w' => ∃ h, e = .returned (.tuple #[.pointer (some ⟨h, 0, none⟩), .int .i64 0]) ∧ Ext w w' ∧ HpAt w' h c) := by
  obtain ⟨own0, b0⟩ : ∃ own0, Blk ⟨own0, w.alloc (.cells #[.int .i64 c.frags, .int .i64 c.spine, .int .i64 c.globals, .int .i64 c.threads, .int .i64 c.locals, .int .i64 c.cache, .int .i64 c.stack, .int .i64 c.low, .slice c.A c.shapes.length c.cap] 24)⟩ 9 w.heap.size 24 [.int .i64 c.frags, .int .i64 c.spine, .int .i64 c.globals, .int .i64 c.threads, .int .i64 c.locals, .int .i64 c.cache, .int .i64 c.stack, .int .i64 c.low, .slice c.A c.shapes.length c.cap] := ⟨_, Blk.new ⟨fun _ => 0, w⟩ 9 24 [.int .i64 c.frags, .int .i64 c.spine, .int .i64 c.globals, .int .i64 c.threads, .int .i64 c.locals, .int .i64 c.cache, .int .i64 c.stack, .int .i64 c.low, .slice c.A c.shapes.length c.cap]⟩
  have B0 := Lib.hid b0
  have HCKZ := Lib.hid hck
  have HE := Lib.hid (show Ext w (w.alloc (.cells #[.int .i64 c.frags, .int .i64 c.spine, .int .i64 c.globals, .int .i64 c.threads, .int .i64 c.locals, .int .i64 c.cache, .int .i64 c.stack, .int .i64 c.low, .slice c.A c.shapes.length c.cap] 24)) by (repeat (first | (with_reducible assumption) | (with_reducible exact Ext.refl _) | (with_reducible exact Ext.more _ _ _ _) | apply Ext.alloc | refine Ext.setCell ?_ (by first | exact Nat.le_refl _ | exact Nat.le_add_right _ _ | assumption) _ | apply Ext.patch | apply Ext.drew | apply Ext.drewN)))
  have HNW := Lib.hid (show Calls Tryz.prog 86 #[c.val] (w.alloc (.cells #[.int .i64 c.frags, .int .i64 c.spine, .int .i64 c.globals, .int .i64 c.threads, .int .i64 c.locals, .int .i64 c.cache, .int .i64 c.stack, .int .i64 c.low, .slice c.A c.shapes.length c.cap] 24)) (CoreMade c 100 ⟨fun k => if k = w.heap.size then 9 else 0, w.alloc (.cells #[.int .i64 c.frags, .int .i64 c.spine, .int .i64 c.globals, .int .i64 c.threads, .int .i64 c.locals, .int .i64 c.cache, .int .i64 c.stack, .int .i64 c.low, .slice c.A c.shapes.length c.cap] 24)⟩) from core_new c 100 ⟨fun k => if k = w.heap.size then 9 else 0, w.alloc (.cells #[.int .i64 c.frags, .int .i64 c.spine, .int .i64 c.globals, .int .i64 c.threads, .int .i64 c.locals, .int .i64 c.cache, .int .i64 c.stack, .int .i64 c.low, .slice c.A c.shapes.length c.cap] 24)⟩ (hc.ext HE.out) (by omega) (fun k _ => by simp only; split <;> omega))
  obtain ⟨-, -, -, ⟨r6, r7⟩, -⟩ := Cnf.ranged (Cnf.check_zero hck).1
  have dT : decide (c.threads < 0) = false := decide_eq_false (by omega)
  have a0 := B0.out.cell (i := 0) rfl
  have a1 := B0.out.cell (i := 1) rfl
  have a2 := B0.out.cell (i := 2) rfl
  have a3 := B0.out.cell (i := 3) rfl
  have a4 := B0.out.cell (i := 4) rfl
  have a5 := B0.out.cell (i := 5) rfl
  have a6 := B0.out.cell (i := 6) rfl
  have a7 := B0.out.cell (i := 7) rfl
  have a8 := B0.out.cell (i := 8) rfl
  have al := B0.out.lt
  (try simp only [GW.to] at a0 a1 a2 a3 a4 a5 a6 a7 a8 al)
  unfold Cnf.val at HNW ⊢
  clear hc b0 hck
  go_enter Tryz.func33, Tryz.ntmps33
  go_wp2_with fail
  refine HNW.out.mono ?_
  rintro e w5 hh
  unfold CoreMade at hh
  rw [if_pos HCKZ.out] at hh
  obtain ⟨own5, k, rfl, m5, h5⟩ := hh
  have B5 := Lib.hid (Blk.keep (t := 9) (g := ⟨fun k => if k = w.heap.size then 9 else 0, w.alloc (.cells #[.int .i64 c.frags, .int .i64 c.spine, .int .i64 c.globals, .int .i64 c.threads, .int .i64 c.locals, .int .i64 c.cache, .int .i64 c.stack, .int .i64 c.low, .slice c.A c.shapes.length c.cap] 24)⟩) ⟨B0.out.row, by simp⟩ m5 id)
  have E5 := Lib.hid (HE.out.trans m5.toExt)
  obtain ⟨bm, bs, bt, bp, bsp, bh, cm, h5⟩ := h5
  have H5 := Lib.hid h5
  clear m5 h5 HNW a0 a1 a2 a3 a4 a5 a6 a7 a8 al B0 HE
  have a0 := B5.out.cell (i := 0) rfl
  have a1 := B5.out.cell (i := 1) rfl
  have a2 := B5.out.cell (i := 2) rfl
  have a3 := B5.out.cell (i := 3) rfl
  have a4 := B5.out.cell (i := 4) rfl
  have a5 := B5.out.cell (i := 5) rfl
  have a6 := B5.out.cell (i := 6) rfl
  have a7 := B5.out.cell (i := 7) rfl
  have a8 := B5.out.cell (i := 8) rfl
  have al := B5.out.lt
  (try simp only [GW.to] at a0 a1 a2 a3 a4 a5 a6 a7 a8 al)
  go_wp2_with fail
  refine (cyc_new ⟨own5, w5⟩ 91).mono ?_
  rintro e w6 ⟨own6, y, rfl, m6, h6⟩
  have E6 := Lib.hid (E5.out.trans m6.toExt)
  have H6 := Lib.hid (H5.out.keep m6 (fun _ => False.elim))
  have Y6 := Lib.hid h6
  clear m6 h6 H5 B5 a0 a1 a2 a3 a4 a5 a6 a7 a8 al E5
  go_wp2_with fail
  go_loopw [31] (fun i wr => i = .int .i64 0 ∧ wr = w6.alloc (.cells #[.pointer (some ⟨k, 0, none⟩), .pointer (some ⟨y, 0, none⟩), .slice none 0 0, .int .i64 0] 139)) (fun i _ => 0)
  case atStart => exact ⟨rfl, rfl⟩
  case round =>
    obtain ⟨rfl, rfl⟩ := hrel
    go_wp2_with fail
    go_ret2
    have mh := Mod.ext (T := fun _ => False) (g := ⟨own6, w6⟩) (show Ext w6 (w6.alloc (.cells #[.pointer (some ⟨k, 0, none⟩), .pointer (some ⟨y, 0, none⟩), .slice none 0 0, .int .i64 0] 139)) by (repeat (first | (with_reducible assumption) | (with_reducible exact Ext.refl _) | (with_reducible exact Ext.more _ _ _ _) | apply Ext.alloc | refine Ext.setCell ?_ (by first | exact Nat.le_refl _ | exact Nat.le_add_right _ _ | assumption) _ | apply Ext.patch | apply Ext.drew | apply Ext.drewN))) 90
    exact ⟨w6.heap.size, rfl, E6.out.trans (by (repeat (first | (with_reducible assumption) | (with_reducible exact Ext.refl _) | (with_reducible exact Ext.more _ _ _ _) | apply Ext.alloc | refine Ext.setCell ?_ (by first | exact Nat.le_refl _ | exact Nat.le_add_right _ _ | assumption) _ | apply Ext.patch | apply Ext.drew | apply Ext.drewN))), _, k, y, bm, bs, bt, bp, bsp, bh, cm, ⟨Blk.new ⟨own6, w6⟩ 90 139 [.pointer (some ⟨k, 0, none⟩), .pointer (some ⟨y, 0, none⟩), .slice none 0 0, .int .i64 0], H6.out.keep mh (fun _ => False.elim), Y6.out.keep mh id⟩⟩
end Go.Proofs.YthdijbkcjmeilaaGreat
