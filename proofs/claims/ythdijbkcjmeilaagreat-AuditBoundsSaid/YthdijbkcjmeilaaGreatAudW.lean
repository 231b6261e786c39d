/-
  audit: sorting nothing; Reach, Sound of a fresh heap.
-/
import Derived.Test.YthdijbkcjmeilaaGreatAudX
import Derived.Carry
namespace Go.Proofs.YthdijbkcjmeilaaGreat
open Go Go.RowKit
set_option linter.unusedVariables false
set_option linter.unnecessarySimpa false
set_option linter.unusedSimpArgs false
set_option maxHeartbeats 400000
set_option maxRecDepth 100000
theorem blen64_0 (w : World) : Calls Tryz.prog 220 #[.int .u64 0] w (fun e w' => e = .returned (.int .i64 0) ∧ w = w') := by
  go_enter Tryz.func220, Tryz.ntmps220
  go_wp2_with fail
  go_ret
  exact ⟨by kernel_rfl, rfl⟩
theorem blen_0 (w : World) : Calls Tryz.prog 166 #[.int .u64 0] w (fun e w' => e = .returned (.int .i64 0) ∧ w = w') := by
  go_enter Tryz.func166, Tryz.ntmps166
  go_wp2_with fail
  refine (blen64_0 w).mono ?_
  rintro e w1 ⟨rfl, rfl⟩
  go_wp2_with fail
  go_ret
  exact ⟨rfl, rfl⟩
theorem ins_0 (w : World) : Calls Tryz.prog 210 #[.slice none 0 0, .int .i64 0, .int .i64 0] w (fun e w' => e = .returned (.tuple #[]) ∧ w = w') := by
  go_enter Tryz.func210, Tryz.ntmps210
  go_wp2_with fail
  go_loopw [6] (fun i wr => i = .int .i64 1 ∧ wr = w) (fun i _ => 0)
  case atStart => exact ⟨rfl, rfl⟩
  case round =>
    obtain ⟨rfl, rfl⟩ := hrel
    go_wp2_with fail
    exact bodyPost_end (results_none rfl _ _ _) rfl ⟨rfl, rfl⟩
theorem pdq_0 (w : World) : Calls Tryz.prog 165 #[.slice none 0 0, .int .i64 0, .int .i64 0, .int .i64 0] w (fun e w' => e = .returned (.tuple #[]) ∧ w = w') := by
  go_enter Tryz.func165, Tryz.ntmps165
  go_wp2_with fail
  go_loopw [1, 2] (fun a b wr => a = .int .i64 0 ∧ b = .int .i64 0 ∧ wr = w) (fun _ _ _ => 0)
  case atStart => exact ⟨rfl, rfl, rfl⟩
  case round =>
    obtain ⟨rfl, rfl, rfl⟩ := hrel
    go_wp2_with fail
    refine (ins_0 _).mono ?_
    rintro e w1 ⟨rfl, rfl⟩
    go_wp2_with fail
    exact bodyPost_ret (results_none rfl _ _ _) rfl ⟨rfl, rfl⟩
theorem sort_0 (w : World) : Calls Tryz.prog 91 #[.slice none 0 0] w (fun e w' => e = .returned (.tuple #[]) ∧ w = w') := by
  go_enter Tryz.func91, Tryz.ntmps91
  go_wp2_with fail
  refine (blen_0 w).mono ?_
  rintro e w1 ⟨rfl, rfl⟩
  go_wp2_with fail
  refine (pdq_0 w).mono ?_
  rintro e w1 ⟨rfl, rfl⟩
  go_wp2_with fail
  exact bodyPost_end (results_none rfl _ _ _) rfl ⟨rfl, rfl⟩
theorem conf_field0 (x0 x1 x2 x3 x4 x5 x6 x7 : Int) (A : Option Addr) (n k : Nat) (w : World) : (Instr.field 24 (.agg #[.int .i64 x0, .int .i64 x1, .int .i64 x2, .int .i64 x3, .int .i64 x4, .int .i64 x5, .int .i64 x6, .int .i64 x7, .slice A n k]) 0).run Tryz.prog w = .ok (.int .i64 x0) w := by kernel_rfl
section
variable {w : World} {h : Nat} {c : Cnf}
theorem reach_none (hck : c.check = 0) (hg : c.globals = 0) (H : HpAt w h c) : Calls Tryz.prog 35 #[.pointer (some ⟨h, 0, none⟩)] w (Gives (.slice none 0 0) w) := by
  have HR := Lib.hid (fun w' (he : Ext w w') => roots_none hck hg (H.ext he))
  clear H hck hg
  have hmm := @run_makeMap Tryz.prog
  go_enter Tryz.func35, Tryz.ntmps35
  go_wp2_with fail
  refine (HR.out _ (by (repeat (first | (with_reducible assumption) | (with_reducible exact Ext.refl _) | (with_reducible exact Ext.more _ _ _ _) | apply Ext.alloc | refine Ext.setCell ?_ (by first | exact Nat.le_refl _ | exact Nat.le_add_right _ _ | assumption) _ | apply Ext.patch | apply Ext.drew | apply Ext.drewN)))).mono ?_
  rintro e w1 ⟨rfl, hX⟩
  have E1 := Lib.hid (show Ext _ w1 from hX)
  clear hX
  go_wp2_with fail
  go_loopw [4, 5] (fun s t wr => s = .slice none 0 0 ∧ t = .slice none 0 0 ∧ wr = w1) (fun _ _ _ => 0)
  case atStart => exact ⟨rfl, rfl, rfl⟩
  case round =>
    obtain ⟨rfl, rfl, rfl⟩ := hrel
    go_wp2_with fail
    refine (sort_0 _).mono ?_
    rintro e w2 ⟨rfl, rfl⟩
    go_wp2_with fail
    go_ret
    exact Gives.mk rfl (Ext.trans (by (repeat (first | (with_reducible assumption) | (with_reducible exact Ext.refl _) | (with_reducible exact Ext.more _ _ _ _) | apply Ext.alloc | refine Ext.setCell ?_ (by first | exact Nat.le_refl _ | exact Nat.le_add_right _ _ | assumption) _ | apply Ext.patch | apply Ext.drew | apply Ext.drewN))) E1.out)
theorem sound_ok (hck : c.check = 0) (hg : c.globals = 0) (H : HpAt w h c) : Calls Tryz.prog 36 #[.pointer (some ⟨h, 0, none⟩)] w (Gives (.int .i64 0) w) := by
  obtain ⟨⟨r0, r1⟩, -⟩ := Cnf.ranged (Cnf.check_zero hck).1
  have HH := Lib.hid H
  have HCO := Lib.hid (fun w' (he : Ext w w') => heap_counts hck (H.ext he))
  have HRE := Lib.hid (fun w' (he : Ext w w') => reach_none hck hg (H.ext he))
  obtain ⟨own, k, y, bm, bs, bt, bp, bsp, bh, cm, H⟩ := H
  have HER := Lib.hid (fun w' (he : Ext w w') => heap_errno (w := w') y (fun w2 he2 => by
    obtain ⟨own', m⟩ := Mod.ofExt (he.trans he2) own
    exact (H.keep m).cyc.cell (i := 13) rfl))
  have HA := Lib.hid (fun w' (he : Ext w w') => (show w'.cell? ⟨h, 1, none⟩ = some (.pointer (some ⟨y, 0, none⟩)) from by
    obtain ⟨own', m⟩ := Mod.ofExt he own
    exact (H.keep m).blk.cell (i := 1) rfl))
  clear H hck hg
  have hmm := @run_makeMap Tryz.prog
  go_enter Tryz.func36, Tryz.ntmps36
  go_wp2_with fail
  refine (HCO.out _ (Ext.refl _)).mono ?_
  rintro e w1 ⟨rfl, hX⟩
  have E1 := Lib.hid (show Ext w w1 from hX)
  have a1 := HA.out w1 E1.out
  clear hX
  go_wp2_with fail
  refine (HER.out _ E1.out).mono ?_
  rintro e w2 ⟨rfl, hX⟩
  have E2 := Lib.hid (E1.out.trans (show Ext w1 w2 from hX))
  clear hX a1
  go_wp2_with fail
  refine (heap_conf (HH.out.ext E2.out)).mono ?_
  rintro e w3 ⟨c', rfl, hs, hX⟩
  have hfr : c'.frags = c.frags := hs.frags
  have E3 := Lib.hid (E2.out.trans (show Ext w2 w3 from hX))
  clear hX hs
  unfold Cnf.val
  rw [hfr]
  have hcf := conf_field0 c.frags c'.spine c'.globals c'.threads c'.locals c'.cache c'.stack c'.low c'.A c'.shapes.length c'.cap
  go_wp2_with fail
  have E3b := E3.out
  refine (HRE.out _ (by (repeat (first | (with_reducible assumption) | (with_reducible exact Ext.refl _) | (with_reducible exact Ext.more _ _ _ _) | apply Ext.alloc | refine Ext.setCell ?_ (by first | exact Nat.le_refl _ | exact Nat.le_add_right _ _ | assumption) _ | apply Ext.patch | apply Ext.drew | apply Ext.drewN)))).mono ?_
  rintro e w4 ⟨rfl, hX⟩
  have E4 := Lib.hid (show Ext _ w4 from hX)
  clear hX
  go_wp2_with fail
  go_loopw [43] (fun i wr => i = .int .i64 0 ∧ wr = w4) (fun _ _ => 0)
  case atStart => exact ⟨rfl, rfl⟩
  case round =>
    obtain ⟨rfl, rfl⟩ := hrel
    go_wp2_with fail
    go_ret
    exact Gives.mk rfl (Ext.trans (by (repeat (first | (with_reducible assumption) | (with_reducible exact Ext.refl _) | (with_reducible exact Ext.more _ _ _ _) | apply Ext.alloc | refine Ext.setCell ?_ (by first | exact Nat.le_refl _ | exact Nat.le_add_right _ _ | assumption) _ | apply Ext.patch | apply Ext.drew | apply Ext.drewN))) E4.out)
end
end Go.Proofs.YthdijbkcjmeilaaGreat
