import Derived.Test.YtcpeoflomdhidaaGreatKW13
/-
  Packed: CyE, GlobalsP, CyP, CyQ, CyF, CyO.
-/
open Go.Ext renaming alloc → zA, patch → zP, drew → zD, drewN → zN, more → zM, refl → zR, setCell → zS
open Nat renaming le_refl → zL, le_add_right → zK
/-
  cycle: Step, stage by stage.
-/
namespace Go.Proofs.YtcpeoflomdhidaaGreat
open Go Go.RowKit
set_option linter.unusedVariables false
set_option linter.unnecessarySimpa false
set_option linter.unusedSimpArgs false
set_option maxHeartbeats 4000000
set_option maxRecDepth 100000
namespace CyW
def tick1 (W : CyW) : CyW := if 0 < W.y.started then { W with y := { W.y with steps := W.y.steps + 1 } } else W
end CyW
section
variable {g : GW} {t B b k : Nat} {W : CyW}
theorem cy_step_starts (A : CyApart t B) (hd : W.Bd) (hd1 : W.tick1.Bd) (he : W.y.e = 0) (hst : W.y.stage = 1) (H : CyWAt g t B b k W) : Calls Tryz.prog 36 #[.pointer (some ⟨b, 0, none⟩), .pointer (some ⟨k, 0, none⟩)] g.w (Does (.tuple #[]) g (cyT t B) (fun g' => CyWAt g' t B b k W.tick1.starts)) := by
  obtain ⟨tp, hp, bm, bs, bt, bp, bsp, bh, cm, H⟩ := H
  have HH := Lib.hid H
  have HD1 := Lib.hid hd1
  obtain ⟨a0, a1, a2, a3, a4, a5, a6, a7, a8, a9, a10, a11, a12, a13, al⟩ := H.y.blk.c14
  have af12 := H.y.blk.live 12
  (try simp only [GW.to] at a0 a1 a2 a3 a4 a5 a6 a7 a8 a9 a10 a11 a12 a13 af12 al)
  obtain ⟨c0, c1, c2, c3, c4, c5, c6, c7, c8, c9, c10, c11, c12, cl⟩ := H.c.blk.c13
  (try simp only [GW.to] at c0 c1 c2 c3 c4 c5 c6 c7 c8 c9 c10 c11 c12 cl)
  rw [hst] at a0
  rw [he] at a13
  obtain ⟨hs0, hs1⟩ := hd.steps
  clear H hd hd1 hst he
  by_cases hs : 0 < W.y.started
  · have d1 : decide (0 < W.y.started) = true := decide_eq_true hs
    have HT := Lib.hid (show W.tick1 = { W with y := { W.y with steps := W.y.steps + 1 } } from if_pos hs)
    have H1 := Lib.hid (show CyWAt ⟨g.own, g.w.setCell ⟨b, 12, none⟩ (.int .i64 (W.y.steps + 1))⟩ t B b k W.tick1 from by rw [HT.out]; exact (HH.out.set A 12 (.int .i64 (W.y.steps + 1)) { W.y with steps := W.y.steps + 1 } rfl).at_)
    have M1 := Lib.hid (show Mod (cyT t B) g ⟨g.own, g.w.setCell ⟨b, 12, none⟩ (.int .i64 (W.y.steps + 1))⟩ from Mod.st Mod.self HH.out.modY)
    clear hs
    go_enter Tryz.func36, Tryz.ntmps36
    go_wp2_with fail
    refine (cy_starts A HD1.out H1.out).mono ?_
    rintro e w2 ⟨rfl, own2, m2, h2⟩
    have M2 := Lib.hid (M1.out.trans m2)
    have H2 := Lib.hid h2
    clear m2 h2
    go_wp2_with fail
    exact bodyPost_end (results_none rfl _ _ _) rfl (Does.of ⟨own2, w2⟩ rfl rfl M2.out H2.out)
  · have d1 : decide (0 < W.y.started) = false := decide_eq_false hs
    have HT := Lib.hid (show W.tick1 = W from if_neg hs)
    have H1 := Lib.hid (show CyWAt ⟨g.own, g.w⟩ t B b k W.tick1 from by rw [HT.out]; exact HH.out.at_)
    clear hs
    go_enter Tryz.func36, Tryz.ntmps36
    go_wp2_with fail
    refine (cy_starts A HD1.out H1.out).mono ?_
    rintro e w2 ⟨rfl, own2, m2, h2⟩
    have M2 := Lib.hid m2
    have H2 := Lib.hid h2
    clear m2 h2
    go_wp2_with fail
    exact bodyPost_end (results_none rfl _ _ _) rfl (Does.of ⟨own2, w2⟩ rfl rfl M2.out H2.out)
theorem cy_step_first (A : CyApart t B) (hd : W.Bd) (hd1 : W.tick1.Bd) (he : W.y.e = 0) (hst : W.y.stage = 2) (H : CyWAt g t B b k W) : Calls Tryz.prog 36 #[.pointer (some ⟨b, 0, none⟩), .pointer (some ⟨k, 0, none⟩)] g.w (Does (.tuple #[]) g (cyT t B) (fun g' => CyWAt g' t B b k (W.tick1.hands 2 3))) := by
  obtain ⟨tp, hp, bm, bs, bt, bp, bsp, bh, cm, H⟩ := H
  have HH := Lib.hid H
  have HD1 := Lib.hid hd1
  obtain ⟨a0, a1, a2, a3, a4, a5, a6, a7, a8, a9, a10, a11, a12, a13, al⟩ := H.y.blk.c14
  have af12 := H.y.blk.live 12
  (try simp only [GW.to] at a0 a1 a2 a3 a4 a5 a6 a7 a8 a9 a10 a11 a12 a13 af12 al)
  obtain ⟨c0, c1, c2, c3, c4, c5, c6, c7, c8, c9, c10, c11, c12, cl⟩ := H.c.blk.c13
  (try simp only [GW.to] at c0 c1 c2 c3 c4 c5 c6 c7 c8 c9 c10 c11 c12 cl)
  rw [hst] at a0
  rw [he] at a13
  obtain ⟨hs0, hs1⟩ := hd.steps
  clear H hd hd1 hst he
  by_cases hs : 0 < W.y.started
  · have d1 : decide (0 < W.y.started) = true := decide_eq_true hs
    have HT := Lib.hid (show W.tick1 = { W with y := { W.y with steps := W.y.steps + 1 } } from if_pos hs)
    have H1 := Lib.hid (show CyWAt ⟨g.own, g.w.setCell ⟨b, 12, none⟩ (.int .i64 (W.y.steps + 1))⟩ t B b k W.tick1 from by rw [HT.out]; exact (HH.out.set A 12 (.int .i64 (W.y.steps + 1)) { W.y with steps := W.y.steps + 1 } rfl).at_)
    have M1 := Lib.hid (show Mod (cyT t B) g ⟨g.own, g.w.setCell ⟨b, 12, none⟩ (.int .i64 (W.y.steps + 1))⟩ from Mod.st Mod.self HH.out.modY)
    clear hs
    go_enter Tryz.func36, Tryz.ntmps36
    go_wp2_with fail
    refine (cy_hands A HD1.out 2 3 H1.out).mono ?_
    rintro e w2 ⟨rfl, own2, m2, h2⟩
    have M2 := Lib.hid (M1.out.trans m2)
    have H2 := Lib.hid h2
    clear m2 h2
    go_wp2_with fail
    exact bodyPost_end (results_none rfl _ _ _) rfl (Does.of ⟨own2, w2⟩ rfl rfl M2.out H2.out)
  · have d1 : decide (0 < W.y.started) = false := decide_eq_false hs
    have HT := Lib.hid (show W.tick1 = W from if_neg hs)
    have H1 := Lib.hid (show CyWAt ⟨g.own, g.w⟩ t B b k W.tick1 from by rw [HT.out]; exact HH.out.at_)
    clear hs
    go_enter Tryz.func36, Tryz.ntmps36
    go_wp2_with fail
    refine (cy_hands A HD1.out 2 3 H1.out).mono ?_
    rintro e w2 ⟨rfl, own2, m2, h2⟩
    have M2 := Lib.hid m2
    have H2 := Lib.hid h2
    clear m2 h2
    go_wp2_with fail
    exact bodyPost_end (results_none rfl _ _ _) rfl (Does.of ⟨own2, w2⟩ rfl rfl M2.out H2.out)
theorem cy_step_both (A : CyApart t B) (hd : W.Bd) (hd1 : W.tick1.Bd) (he : W.y.e = 0) (hst : W.y.stage = 3) (H : CyWAt g t B b k W) : Calls Tryz.prog 36 #[.pointer (some ⟨b, 0, none⟩), .pointer (some ⟨k, 0, none⟩)] g.w (Does (.tuple #[]) g (cyT t B) (fun g' => CyWAt g' t B b k (W.tick1.hands 3 4))) := by
  obtain ⟨tp, hp, bm, bs, bt, bp, bsp, bh, cm, H⟩ := H
  have HH := Lib.hid H
  have HD1 := Lib.hid hd1
  obtain ⟨a0, a1, a2, a3, a4, a5, a6, a7, a8, a9, a10, a11, a12, a13, al⟩ := H.y.blk.c14
  have af12 := H.y.blk.live 12
  (try simp only [GW.to] at a0 a1 a2 a3 a4 a5 a6 a7 a8 a9 a10 a11 a12 a13 af12 al)
  obtain ⟨c0, c1, c2, c3, c4, c5, c6, c7, c8, c9, c10, c11, c12, cl⟩ := H.c.blk.c13
  (try simp only [GW.to] at c0 c1 c2 c3 c4 c5 c6 c7 c8 c9 c10 c11 c12 cl)
  rw [hst] at a0
  rw [he] at a13
  obtain ⟨hs0, hs1⟩ := hd.steps
  clear H hd hd1 hst he
  by_cases hs : 0 < W.y.started
  · have d1 : decide (0 < W.y.started) = true := decide_eq_true hs
    have HT := Lib.hid (show W.tick1 = { W with y := { W.y with steps := W.y.steps + 1 } } from if_pos hs)
    have H1 := Lib.hid (show CyWAt ⟨g.own, g.w.setCell ⟨b, 12, none⟩ (.int .i64 (W.y.steps + 1))⟩ t B b k W.tick1 from by rw [HT.out]; exact (HH.out.set A 12 (.int .i64 (W.y.steps + 1)) { W.y with steps := W.y.steps + 1 } rfl).at_)
    have M1 := Lib.hid (show Mod (cyT t B) g ⟨g.own, g.w.setCell ⟨b, 12, none⟩ (.int .i64 (W.y.steps + 1))⟩ from Mod.st Mod.self HH.out.modY)
    clear hs
    go_enter Tryz.func36, Tryz.ntmps36
    go_wp2_with fail
    refine (cy_hands A HD1.out 3 4 H1.out).mono ?_
    rintro e w2 ⟨rfl, own2, m2, h2⟩
    have M2 := Lib.hid (M1.out.trans m2)
    have H2 := Lib.hid h2
    clear m2 h2
    go_wp2_with fail
    exact bodyPost_end (results_none rfl _ _ _) rfl (Does.of ⟨own2, w2⟩ rfl rfl M2.out H2.out)
  · have d1 : decide (0 < W.y.started) = false := decide_eq_false hs
    have HT := Lib.hid (show W.tick1 = W from if_neg hs)
    have H1 := Lib.hid (show CyWAt ⟨g.own, g.w⟩ t B b k W.tick1 from by rw [HT.out]; exact HH.out.at_)
    clear hs
    go_enter Tryz.func36, Tryz.ntmps36
    go_wp2_with fail
    refine (cy_hands A HD1.out 3 4 H1.out).mono ?_
    rintro e w2 ⟨rfl, own2, m2, h2⟩
    have M2 := Lib.hid m2
    have H2 := Lib.hid h2
    clear m2 h2
    go_wp2_with fail
    exact bodyPost_end (results_none rfl _ _ _) rfl (Does.of ⟨own2, w2⟩ rfl rfl M2.out H2.out)
theorem cy_step_roots_poll (A : CyApart t B) (hd : W.Bd) (hd1 : W.tick1.Bd) (he : W.y.e = 0) (hst : W.y.stage = 4) (h3 : W.tick1.y.at_ ≠ 3) (hp : W.tick1.K.c.globals ≤ W.tick1.y.i ∨ W.tick1.y.at_ = 1) (H : CyWAt g t B b k W) : Calls Tryz.prog 36 #[.pointer (some ⟨b, 0, none⟩), .pointer (some ⟨k, 0, none⟩)] g.w (Does (.tuple #[]) g (cyT t B) (fun g' => CyWAt g' t B b k W.tick1.rootsPoll)) := by
  have HP := Lib.hid (And.intro h3 hp)
  clear h3 hp
  obtain ⟨tp, hp, bm, bs, bt, bp, bsp, bh, cm, H⟩ := H
  have HH := Lib.hid H
  have HD1 := Lib.hid hd1
  obtain ⟨a0, a1, a2, a3, a4, a5, a6, a7, a8, a9, a10, a11, a12, a13, al⟩ := H.y.blk.c14
  have af12 := H.y.blk.live 12
  (try simp only [GW.to] at a0 a1 a2 a3 a4 a5 a6 a7 a8 a9 a10 a11 a12 a13 af12 al)
  obtain ⟨c0, c1, c2, c3, c4, c5, c6, c7, c8, c9, c10, c11, c12, cl⟩ := H.c.blk.c13
  (try simp only [GW.to] at c0 c1 c2 c3 c4 c5 c6 c7 c8 c9 c10 c11 c12 cl)
  rw [hst] at a0
  rw [he] at a13
  obtain ⟨hs0, hs1⟩ := hd.steps
  clear H hd hd1 hst he
  by_cases hs : 0 < W.y.started
  · have d1 : decide (0 < W.y.started) = true := decide_eq_true hs
    have HT := Lib.hid (show W.tick1 = { W with y := { W.y with steps := W.y.steps + 1 } } from if_pos hs)
    have H1 := Lib.hid (show CyWAt ⟨g.own, g.w.setCell ⟨b, 12, none⟩ (.int .i64 (W.y.steps + 1))⟩ t B b k W.tick1 from by rw [HT.out]; exact (HH.out.set A 12 (.int .i64 (W.y.steps + 1)) { W.y with steps := W.y.steps + 1 } rfl).at_)
    have M1 := Lib.hid (show Mod (cyT t B) g ⟨g.own, g.w.setCell ⟨b, 12, none⟩ (.int .i64 (W.y.steps + 1))⟩ from Mod.st Mod.self HH.out.modY)
    clear hs
    go_enter Tryz.func36, Tryz.ntmps36
    go_wp2_with fail
    refine (cy_roots_poll A HD1.out HP.out.1 HP.out.2 H1.out).mono ?_
    rintro e w2 ⟨rfl, own2, m2, h2⟩
    have M2 := Lib.hid (M1.out.trans m2)
    have H2 := Lib.hid h2
    clear m2 h2
    go_wp2_with fail
    exact bodyPost_end (results_none rfl _ _ _) rfl (Does.of ⟨own2, w2⟩ rfl rfl M2.out H2.out)
  · have d1 : decide (0 < W.y.started) = false := decide_eq_false hs
    have HT := Lib.hid (show W.tick1 = W from if_neg hs)
    have H1 := Lib.hid (show CyWAt ⟨g.own, g.w⟩ t B b k W.tick1 from by rw [HT.out]; exact HH.out.at_)
    clear hs
    go_enter Tryz.func36, Tryz.ntmps36
    go_wp2_with fail
    refine (cy_roots_poll A HD1.out HP.out.1 HP.out.2 H1.out).mono ?_
    rintro e w2 ⟨rfl, own2, m2, h2⟩
    have M2 := Lib.hid m2
    have H2 := Lib.hid h2
    clear m2 h2
    go_wp2_with fail
    exact bodyPost_end (results_none rfl _ _ _) rfl (Does.of ⟨own2, w2⟩ rfl rfl M2.out H2.out)
theorem cy_step_roots_none (A : CyApart t B) (hd : W.Bd) (hd1 : W.tick1.Bd) (he : W.y.e = 0) (hst : W.y.stage = 4) (h0 : W.tick1.y.at_ = 0) (hi : 0 ≤ W.tick1.y.i ∧ W.tick1.y.i < W.tick1.K.c.globals) (hck : W.tick1.K.c.check = 0) (hin : inB (W.tick1.y.i + cAhead W.tick1.K.c 3) W.tick1.K.mem.l.length = true) (hw : wIndex (W.tick1.K.mem.peek (W.tick1.y.i + cAhead W.tick1.K.c 3)) = none) (H : CyWAt g t B b k W) : Calls Tryz.prog 36 #[.pointer (some ⟨b, 0, none⟩), .pointer (some ⟨k, 0, none⟩)] g.w (Does (.tuple #[]) g (cyT t B) (fun g' => CyWAt g' t B b k W.tick1.rootsNone)) := by
  have HP := Lib.hid (And.intro h0 (And.intro hi (And.intro hck (And.intro hin hw))))
  clear h0 hi hck hin hw
  obtain ⟨tp, hp, bm, bs, bt, bp, bsp, bh, cm, H⟩ := H
  have HH := Lib.hid H
  have HD1 := Lib.hid hd1
  obtain ⟨a0, a1, a2, a3, a4, a5, a6, a7, a8, a9, a10, a11, a12, a13, al⟩ := H.y.blk.c14
  have af12 := H.y.blk.live 12
  (try simp only [GW.to] at a0 a1 a2 a3 a4 a5 a6 a7 a8 a9 a10 a11 a12 a13 af12 al)
  obtain ⟨c0, c1, c2, c3, c4, c5, c6, c7, c8, c9, c10, c11, c12, cl⟩ := H.c.blk.c13
  (try simp only [GW.to] at c0 c1 c2 c3 c4 c5 c6 c7 c8 c9 c10 c11 c12 cl)
  rw [hst] at a0
  rw [he] at a13
  obtain ⟨hs0, hs1⟩ := hd.steps
  clear H hd hd1 hst he
  by_cases hs : 0 < W.y.started
  · have d1 : decide (0 < W.y.started) = true := decide_eq_true hs
    have HT := Lib.hid (show W.tick1 = { W with y := { W.y with steps := W.y.steps + 1 } } from if_pos hs)
    have H1 := Lib.hid (show CyWAt ⟨g.own, g.w.setCell ⟨b, 12, none⟩ (.int .i64 (W.y.steps + 1))⟩ t B b k W.tick1 from by rw [HT.out]; exact (HH.out.set A 12 (.int .i64 (W.y.steps + 1)) { W.y with steps := W.y.steps + 1 } rfl).at_)
    have M1 := Lib.hid (show Mod (cyT t B) g ⟨g.own, g.w.setCell ⟨b, 12, none⟩ (.int .i64 (W.y.steps + 1))⟩ from Mod.st Mod.self HH.out.modY)
    clear hs
    go_enter Tryz.func36, Tryz.ntmps36
    go_wp2_with fail
    refine (cy_roots_none A HD1.out HP.out.1 HP.out.2.1 HP.out.2.2.1 HP.out.2.2.2.1 HP.out.2.2.2.2 H1.out).mono ?_
    rintro e w2 ⟨rfl, own2, m2, h2⟩
    have M2 := Lib.hid (M1.out.trans m2)
    have H2 := Lib.hid h2
    clear m2 h2
    go_wp2_with fail
    exact bodyPost_end (results_none rfl _ _ _) rfl (Does.of ⟨own2, w2⟩ rfl rfl M2.out H2.out)
  · have d1 : decide (0 < W.y.started) = false := decide_eq_false hs
    have HT := Lib.hid (show W.tick1 = W from if_neg hs)
    have H1 := Lib.hid (show CyWAt ⟨g.own, g.w⟩ t B b k W.tick1 from by rw [HT.out]; exact HH.out.at_)
    clear hs
    go_enter Tryz.func36, Tryz.ntmps36
    go_wp2_with fail
    refine (cy_roots_none A HD1.out HP.out.1 HP.out.2.1 HP.out.2.2.1 HP.out.2.2.2.1 HP.out.2.2.2.2 H1.out).mono ?_
    rintro e w2 ⟨rfl, own2, m2, h2⟩
    have M2 := Lib.hid m2
    have H2 := Lib.hid h2
    clear m2 h2
    go_wp2_with fail
    exact bodyPost_end (results_none rfl _ _ _) rfl (Does.of ⟨own2, w2⟩ rfl rfl M2.out H2.out)
theorem cy_step_marks_empty (A : CyApart t B) (hd : W.Bd) (hd1 : W.tick1.Bd) (he : W.y.e = 0) (hst : W.y.stage = 5) (h0 : W.tick1.y.at_ = 0) (hp : W.tick1.K.pile.some_ = false) (H : CyWAt g t B b k W) : Calls Tryz.prog 36 #[.pointer (some ⟨b, 0, none⟩), .pointer (some ⟨k, 0, none⟩)] g.w (Does (.tuple #[]) g (cyT t B) (fun g' => CyWAt g' t B b k W.tick1.marksEmpty)) := by
  have HP := Lib.hid (And.intro h0 hp)
  clear h0 hp
  obtain ⟨tp, hp, bm, bs, bt, bp, bsp, bh, cm, H⟩ := H
  have HH := Lib.hid H
  have HD1 := Lib.hid hd1
  obtain ⟨a0, a1, a2, a3, a4, a5, a6, a7, a8, a9, a10, a11, a12, a13, al⟩ := H.y.blk.c14
  have af12 := H.y.blk.live 12
  (try simp only [GW.to] at a0 a1 a2 a3 a4 a5 a6 a7 a8 a9 a10 a11 a12 a13 af12 al)
  obtain ⟨c0, c1, c2, c3, c4, c5, c6, c7, c8, c9, c10, c11, c12, cl⟩ := H.c.blk.c13
  (try simp only [GW.to] at c0 c1 c2 c3 c4 c5 c6 c7 c8 c9 c10 c11 c12 cl)
  rw [hst] at a0
  rw [he] at a13
  obtain ⟨hs0, hs1⟩ := hd.steps
  clear H hd hd1 hst he
  by_cases hs : 0 < W.y.started
  · have d1 : decide (0 < W.y.started) = true := decide_eq_true hs
    have HT := Lib.hid (show W.tick1 = { W with y := { W.y with steps := W.y.steps + 1 } } from if_pos hs)
    have H1 := Lib.hid (show CyWAt ⟨g.own, g.w.setCell ⟨b, 12, none⟩ (.int .i64 (W.y.steps + 1))⟩ t B b k W.tick1 from by rw [HT.out]; exact (HH.out.set A 12 (.int .i64 (W.y.steps + 1)) { W.y with steps := W.y.steps + 1 } rfl).at_)
    have M1 := Lib.hid (show Mod (cyT t B) g ⟨g.own, g.w.setCell ⟨b, 12, none⟩ (.int .i64 (W.y.steps + 1))⟩ from Mod.st Mod.self HH.out.modY)
    clear hs
    go_enter Tryz.func36, Tryz.ntmps36
    go_wp2_with fail
    refine (cy_marks_empty A HD1.out HP.out.1 HP.out.2 H1.out).mono ?_
    rintro e w2 ⟨rfl, own2, m2, h2⟩
    have M2 := Lib.hid (M1.out.trans m2)
    have H2 := Lib.hid h2
    clear m2 h2
    go_wp2_with fail
    exact bodyPost_end (results_none rfl _ _ _) rfl (Does.of ⟨own2, w2⟩ rfl rfl M2.out H2.out)
  · have d1 : decide (0 < W.y.started) = false := decide_eq_false hs
    have HT := Lib.hid (show W.tick1 = W from if_neg hs)
    have H1 := Lib.hid (show CyWAt ⟨g.own, g.w⟩ t B b k W.tick1 from by rw [HT.out]; exact HH.out.at_)
    clear hs
    go_enter Tryz.func36, Tryz.ntmps36
    go_wp2_with fail
    refine (cy_marks_empty A HD1.out HP.out.1 HP.out.2 H1.out).mono ?_
    rintro e w2 ⟨rfl, own2, m2, h2⟩
    have M2 := Lib.hid m2
    have H2 := Lib.hid h2
    clear m2 h2
    go_wp2_with fail
    exact bodyPost_end (results_none rfl _ _ _) rfl (Does.of ⟨own2, w2⟩ rfl rfl M2.out H2.out)
theorem cy_step_marks_found (A : CyApart t B) (hd : W.Bd) (hd1 : W.tick1.Bd) (he : W.y.e = 0) (hst : W.y.stage = 5) (h0 : W.tick1.y.at_ = 5) (hp : W.tick1.K.pile.lost = false) (H : CyWAt g t B b k W) : Calls Tryz.prog 36 #[.pointer (some ⟨b, 0, none⟩), .pointer (some ⟨k, 0, none⟩)] g.w (Does (.tuple #[]) g (cyT t B) (fun g' => CyWAt g' t B b k W.tick1.marksFound)) := by
  have HP := Lib.hid (And.intro h0 hp)
  clear h0 hp
  obtain ⟨tp, hp, bm, bs, bt, bp, bsp, bh, cm, H⟩ := H
  have HH := Lib.hid H
  have HD1 := Lib.hid hd1
  obtain ⟨a0, a1, a2, a3, a4, a5, a6, a7, a8, a9, a10, a11, a12, a13, al⟩ := H.y.blk.c14
  have af12 := H.y.blk.live 12
  (try simp only [GW.to] at a0 a1 a2 a3 a4 a5 a6 a7 a8 a9 a10 a11 a12 a13 af12 al)
  obtain ⟨c0, c1, c2, c3, c4, c5, c6, c7, c8, c9, c10, c11, c12, cl⟩ := H.c.blk.c13
  (try simp only [GW.to] at c0 c1 c2 c3 c4 c5 c6 c7 c8 c9 c10 c11 c12 cl)
  rw [hst] at a0
  rw [he] at a13
  obtain ⟨hs0, hs1⟩ := hd.steps
  clear H hd hd1 hst he
  by_cases hs : 0 < W.y.started
  · have d1 : decide (0 < W.y.started) = true := decide_eq_true hs
    have HT := Lib.hid (show W.tick1 = { W with y := { W.y with steps := W.y.steps + 1 } } from if_pos hs)
    have H1 := Lib.hid (show CyWAt ⟨g.own, g.w.setCell ⟨b, 12, none⟩ (.int .i64 (W.y.steps + 1))⟩ t B b k W.tick1 from by rw [HT.out]; exact (HH.out.set A 12 (.int .i64 (W.y.steps + 1)) { W.y with steps := W.y.steps + 1 } rfl).at_)
    have M1 := Lib.hid (show Mod (cyT t B) g ⟨g.own, g.w.setCell ⟨b, 12, none⟩ (.int .i64 (W.y.steps + 1))⟩ from Mod.st Mod.self HH.out.modY)
    clear hs
    go_enter Tryz.func36, Tryz.ntmps36
    go_wp2_with fail
    refine (cy_marks_found A HD1.out HP.out.1 HP.out.2 H1.out).mono ?_
    rintro e w2 ⟨rfl, own2, m2, h2⟩
    have M2 := Lib.hid (M1.out.trans m2)
    have H2 := Lib.hid h2
    clear m2 h2
    go_wp2_with fail
    exact bodyPost_end (results_none rfl _ _ _) rfl (Does.of ⟨own2, w2⟩ rfl rfl M2.out H2.out)
  · have d1 : decide (0 < W.y.started) = false := decide_eq_false hs
    have HT := Lib.hid (show W.tick1 = W from if_neg hs)
    have H1 := Lib.hid (show CyWAt ⟨g.own, g.w⟩ t B b k W.tick1 from by rw [HT.out]; exact HH.out.at_)
    clear hs
    go_enter Tryz.func36, Tryz.ntmps36
    go_wp2_with fail
    refine (cy_marks_found A HD1.out HP.out.1 HP.out.2 H1.out).mono ?_
    rintro e w2 ⟨rfl, own2, m2, h2⟩
    have M2 := Lib.hid m2
    have H2 := Lib.hid h2
    clear m2 h2
    go_wp2_with fail
    exact bodyPost_end (results_none rfl _ _ _) rfl (Does.of ⟨own2, w2⟩ rfl rfl M2.out H2.out)
theorem cy_step_turns (A : CyApart t B) (hd : W.Bd) (hd1 : W.tick1.Bd) (he : W.y.e = 0) (hst : W.y.stage = 6) (H : CyWAt g t B b k W) : Calls Tryz.prog 36 #[.pointer (some ⟨b, 0, none⟩), .pointer (some ⟨k, 0, none⟩)] g.w (Does (.tuple #[]) g (cyT t B) (fun g' => CyWAt g' t B b k W.tick1.turns)) := by
  obtain ⟨tp, hp, bm, bs, bt, bp, bsp, bh, cm, H⟩ := H
  have HH := Lib.hid H
  have HD1 := Lib.hid hd1
  obtain ⟨a0, a1, a2, a3, a4, a5, a6, a7, a8, a9, a10, a11, a12, a13, al⟩ := H.y.blk.c14
  have af12 := H.y.blk.live 12
  (try simp only [GW.to] at a0 a1 a2 a3 a4 a5 a6 a7 a8 a9 a10 a11 a12 a13 af12 al)
  obtain ⟨c0, c1, c2, c3, c4, c5, c6, c7, c8, c9, c10, c11, c12, cl⟩ := H.c.blk.c13
  (try simp only [GW.to] at c0 c1 c2 c3 c4 c5 c6 c7 c8 c9 c10 c11 c12 cl)
  rw [hst] at a0
  rw [he] at a13
  obtain ⟨hs0, hs1⟩ := hd.steps
  clear H hd hd1 hst he
  by_cases hs : 0 < W.y.started
  · have d1 : decide (0 < W.y.started) = true := decide_eq_true hs
    have HT := Lib.hid (show W.tick1 = { W with y := { W.y with steps := W.y.steps + 1 } } from if_pos hs)
    have H1 := Lib.hid (show CyWAt ⟨g.own, g.w.setCell ⟨b, 12, none⟩ (.int .i64 (W.y.steps + 1))⟩ t B b k W.tick1 from by rw [HT.out]; exact (HH.out.set A 12 (.int .i64 (W.y.steps + 1)) { W.y with steps := W.y.steps + 1 } rfl).at_)
    have M1 := Lib.hid (show Mod (cyT t B) g ⟨g.own, g.w.setCell ⟨b, 12, none⟩ (.int .i64 (W.y.steps + 1))⟩ from Mod.st Mod.self HH.out.modY)
    clear hs
    go_enter Tryz.func36, Tryz.ntmps36
    go_wp2_with fail
    refine (cy_turns A HD1.out H1.out).mono ?_
    rintro e w2 ⟨rfl, own2, m2, h2⟩
    have M2 := Lib.hid (M1.out.trans m2)
    have H2 := Lib.hid h2
    clear m2 h2
    go_wp2_with fail
    exact bodyPost_end (results_none rfl _ _ _) rfl (Does.of ⟨own2, w2⟩ rfl rfl M2.out H2.out)
  · have d1 : decide (0 < W.y.started) = false := decide_eq_false hs
    have HT := Lib.hid (show W.tick1 = W from if_neg hs)
    have H1 := Lib.hid (show CyWAt ⟨g.own, g.w⟩ t B b k W.tick1 from by rw [HT.out]; exact HH.out.at_)
    clear hs
    go_enter Tryz.func36, Tryz.ntmps36
    go_wp2_with fail
    refine (cy_turns A HD1.out H1.out).mono ?_
    rintro e w2 ⟨rfl, own2, m2, h2⟩
    have M2 := Lib.hid m2
    have H2 := Lib.hid h2
    clear m2 h2
    go_wp2_with fail
    exact bodyPost_end (results_none rfl _ _ _) rfl (Does.of ⟨own2, w2⟩ rfl rfl M2.out H2.out)
theorem cy_step_hauls_none (A : CyApart t B) (hd : W.Bd) (hd1 : W.tick1.Bd) (he : W.y.e = 0) (hst : W.y.stage = 7) (h0 : W.tick1.y.at_ = 0) (hh : W.tick1.h = none) (hck : W.tick1.K.c.check = 0) (hu : W.tick1.K.sp.coil.used (1 - W.tick1.K.sp.coil.cur) = 0) (H : CyWAt g t B b k W) : Calls Tryz.prog 36 #[.pointer (some ⟨b, 0, none⟩), .pointer (some ⟨k, 0, none⟩)] g.w (Does (.tuple #[]) g (cyT t B) (fun g' => CyWAt g' t B b k W.tick1.haulsNone)) := by
  have HP := Lib.hid (And.intro h0 (And.intro hh (And.intro hck hu)))
  clear h0 hh hck hu
  obtain ⟨tp, hp, bm, bs, bt, bp, bsp, bh, cm, H⟩ := H
  have HH := Lib.hid H
  have HD1 := Lib.hid hd1
  obtain ⟨a0, a1, a2, a3, a4, a5, a6, a7, a8, a9, a10, a11, a12, a13, al⟩ := H.y.blk.c14
  have af12 := H.y.blk.live 12
  (try simp only [GW.to] at a0 a1 a2 a3 a4 a5 a6 a7 a8 a9 a10 a11 a12 a13 af12 al)
  obtain ⟨c0, c1, c2, c3, c4, c5, c6, c7, c8, c9, c10, c11, c12, cl⟩ := H.c.blk.c13
  (try simp only [GW.to] at c0 c1 c2 c3 c4 c5 c6 c7 c8 c9 c10 c11 c12 cl)
  rw [hst] at a0
  rw [he] at a13
  obtain ⟨hs0, hs1⟩ := hd.steps
  clear H hd hd1 hst he
  by_cases hs : 0 < W.y.started
  · have d1 : decide (0 < W.y.started) = true := decide_eq_true hs
    have HT := Lib.hid (show W.tick1 = { W with y := { W.y with steps := W.y.steps + 1 } } from if_pos hs)
    have H1 := Lib.hid (show CyWAt ⟨g.own, g.w.setCell ⟨b, 12, none⟩ (.int .i64 (W.y.steps + 1))⟩ t B b k W.tick1 from by rw [HT.out]; exact (HH.out.set A 12 (.int .i64 (W.y.steps + 1)) { W.y with steps := W.y.steps + 1 } rfl).at_)
    have M1 := Lib.hid (show Mod (cyT t B) g ⟨g.own, g.w.setCell ⟨b, 12, none⟩ (.int .i64 (W.y.steps + 1))⟩ from Mod.st Mod.self HH.out.modY)
    clear hs
    go_enter Tryz.func36, Tryz.ntmps36
    go_wp2_with fail
    refine (cy_hauls_none A HD1.out HP.out.1 HP.out.2.1 HP.out.2.2.1 HP.out.2.2.2 H1.out).mono ?_
    rintro e w2 ⟨rfl, own2, m2, h2⟩
    have M2 := Lib.hid (M1.out.trans m2)
    have H2 := Lib.hid h2
    clear m2 h2
    go_wp2_with fail
    exact bodyPost_end (results_none rfl _ _ _) rfl (Does.of ⟨own2, w2⟩ rfl rfl M2.out H2.out)
  · have d1 : decide (0 < W.y.started) = false := decide_eq_false hs
    have HT := Lib.hid (show W.tick1 = W from if_neg hs)
    have H1 := Lib.hid (show CyWAt ⟨g.own, g.w⟩ t B b k W.tick1 from by rw [HT.out]; exact HH.out.at_)
    clear hs
    go_enter Tryz.func36, Tryz.ntmps36
    go_wp2_with fail
    refine (cy_hauls_none A HD1.out HP.out.1 HP.out.2.1 HP.out.2.2.1 HP.out.2.2.2 H1.out).mono ?_
    rintro e w2 ⟨rfl, own2, m2, h2⟩
    have M2 := Lib.hid m2
    have H2 := Lib.hid h2
    clear m2 h2
    go_wp2_with fail
    exact bodyPost_end (results_none rfl _ _ _) rfl (Does.of ⟨own2, w2⟩ rfl rfl M2.out H2.out)
theorem cy_step_hauls_post (A : CyApart t B) (hd : W.Bd) (hd1 : W.tick1.Bd) (he : W.y.e = 0) (hst : W.y.stage = 7) (h0 : W.tick1.y.at_ = 2) (H : CyWAt g t B b k W) : Calls Tryz.prog 36 #[.pointer (some ⟨b, 0, none⟩), .pointer (some ⟨k, 0, none⟩)] g.w (Does (.tuple #[]) g (cyT t B) (fun g' => CyWAt g' t B b k W.tick1.haulsPost)) := by
  have HP := Lib.hid h0
  clear h0
  obtain ⟨tp, hp, bm, bs, bt, bp, bsp, bh, cm, H⟩ := H
  have HH := Lib.hid H
  have HD1 := Lib.hid hd1
  obtain ⟨a0, a1, a2, a3, a4, a5, a6, a7, a8, a9, a10, a11, a12, a13, al⟩ := H.y.blk.c14
  have af12 := H.y.blk.live 12
  (try simp only [GW.to] at a0 a1 a2 a3 a4 a5 a6 a7 a8 a9 a10 a11 a12 a13 af12 al)
  obtain ⟨c0, c1, c2, c3, c4, c5, c6, c7, c8, c9, c10, c11, c12, cl⟩ := H.c.blk.c13
  (try simp only [GW.to] at c0 c1 c2 c3 c4 c5 c6 c7 c8 c9 c10 c11 c12 cl)
  rw [hst] at a0
  rw [he] at a13
  obtain ⟨hs0, hs1⟩ := hd.steps
  clear H hd hd1 hst he
  by_cases hs : 0 < W.y.started
  · have d1 : decide (0 < W.y.started) = true := decide_eq_true hs
    have HT := Lib.hid (show W.tick1 = { W with y := { W.y with steps := W.y.steps + 1 } } from if_pos hs)
    have H1 := Lib.hid (show CyWAt ⟨g.own, g.w.setCell ⟨b, 12, none⟩ (.int .i64 (W.y.steps + 1))⟩ t B b k W.tick1 from by rw [HT.out]; exact (HH.out.set A 12 (.int .i64 (W.y.steps + 1)) { W.y with steps := W.y.steps + 1 } rfl).at_)
    have M1 := Lib.hid (show Mod (cyT t B) g ⟨g.own, g.w.setCell ⟨b, 12, none⟩ (.int .i64 (W.y.steps + 1))⟩ from Mod.st Mod.self HH.out.modY)
    clear hs
    go_enter Tryz.func36, Tryz.ntmps36
    go_wp2_with fail
    refine (cy_hauls_post A HD1.out HP.out H1.out).mono ?_
    rintro e w2 ⟨rfl, own2, m2, h2⟩
    have M2 := Lib.hid (M1.out.trans m2)
    have H2 := Lib.hid h2
    clear m2 h2
    go_wp2_with fail
    exact bodyPost_end (results_none rfl _ _ _) rfl (Does.of ⟨own2, w2⟩ rfl rfl M2.out H2.out)
  · have d1 : decide (0 < W.y.started) = false := decide_eq_false hs
    have HT := Lib.hid (show W.tick1 = W from if_neg hs)
    have H1 := Lib.hid (show CyWAt ⟨g.own, g.w⟩ t B b k W.tick1 from by rw [HT.out]; exact HH.out.at_)
    clear hs
    go_enter Tryz.func36, Tryz.ntmps36
    go_wp2_with fail
    refine (cy_hauls_post A HD1.out HP.out H1.out).mono ?_
    rintro e w2 ⟨rfl, own2, m2, h2⟩
    have M2 := Lib.hid m2
    have H2 := Lib.hid h2
    clear m2 h2
    go_wp2_with fail
    exact bodyPost_end (results_none rfl _ _ _) rfl (Does.of ⟨own2, w2⟩ rfl rfl M2.out H2.out)
theorem cy_step_settles (A : CyApart t B) (hd : W.Bd) (hd1 : W.tick1.Bd) (he : W.y.e = 0) (hst : W.y.stage = 8) (hk : W.tick1.y.at_ ≠ 0 → W.tick1.K.sp.coil.kept ≤ 0) (H : CyWAt g t B b k W) : Calls Tryz.prog 36 #[.pointer (some ⟨b, 0, none⟩), .pointer (some ⟨k, 0, none⟩)] g.w (Does (.tuple #[]) g (cyT t B) (fun g' => CyWAt g' t B b k W.tick1.settles)) := by
  have HP := Lib.hid hk
  clear hk
  obtain ⟨tp, hp, bm, bs, bt, bp, bsp, bh, cm, H⟩ := H
  have HH := Lib.hid H
  have HD1 := Lib.hid hd1
  obtain ⟨a0, a1, a2, a3, a4, a5, a6, a7, a8, a9, a10, a11, a12, a13, al⟩ := H.y.blk.c14
  have af12 := H.y.blk.live 12
  (try simp only [GW.to] at a0 a1 a2 a3 a4 a5 a6 a7 a8 a9 a10 a11 a12 a13 af12 al)
  obtain ⟨c0, c1, c2, c3, c4, c5, c6, c7, c8, c9, c10, c11, c12, cl⟩ := H.c.blk.c13
  (try simp only [GW.to] at c0 c1 c2 c3 c4 c5 c6 c7 c8 c9 c10 c11 c12 cl)
  rw [hst] at a0
  rw [he] at a13
  obtain ⟨hs0, hs1⟩ := hd.steps
  clear H hd hd1 hst he
  by_cases hs : 0 < W.y.started
  · have d1 : decide (0 < W.y.started) = true := decide_eq_true hs
    have HT := Lib.hid (show W.tick1 = { W with y := { W.y with steps := W.y.steps + 1 } } from if_pos hs)
    have H1 := Lib.hid (show CyWAt ⟨g.own, g.w.setCell ⟨b, 12, none⟩ (.int .i64 (W.y.steps + 1))⟩ t B b k W.tick1 from by rw [HT.out]; exact (HH.out.set A 12 (.int .i64 (W.y.steps + 1)) { W.y with steps := W.y.steps + 1 } rfl).at_)
    have M1 := Lib.hid (show Mod (cyT t B) g ⟨g.own, g.w.setCell ⟨b, 12, none⟩ (.int .i64 (W.y.steps + 1))⟩ from Mod.st Mod.self HH.out.modY)
    clear hs
    go_enter Tryz.func36, Tryz.ntmps36
    go_wp2_with fail
    refine (cy_settles A HD1.out HP.out H1.out).mono ?_
    rintro e w2 ⟨rfl, own2, m2, h2⟩
    have M2 := Lib.hid (M1.out.trans m2)
    have H2 := Lib.hid h2
    clear m2 h2
    go_wp2_with fail
    exact bodyPost_end (results_none rfl _ _ _) rfl (Does.of ⟨own2, w2⟩ rfl rfl M2.out H2.out)
  · have d1 : decide (0 < W.y.started) = false := decide_eq_false hs
    have HT := Lib.hid (show W.tick1 = W from if_neg hs)
    have H1 := Lib.hid (show CyWAt ⟨g.own, g.w⟩ t B b k W.tick1 from by rw [HT.out]; exact HH.out.at_)
    clear hs
    go_enter Tryz.func36, Tryz.ntmps36
    go_wp2_with fail
    refine (cy_settles A HD1.out HP.out H1.out).mono ?_
    rintro e w2 ⟨rfl, own2, m2, h2⟩
    have M2 := Lib.hid m2
    have H2 := Lib.hid h2
    clear m2 h2
    go_wp2_with fail
    exact bodyPost_end (results_none rfl _ _ _) rfl (Does.of ⟨own2, w2⟩ rfl rfl M2.out H2.out)
theorem cy_step_sweeps (A : CyApart t B) (hd : W.Bd) (hd1 : W.tick1.Bd) (he : W.y.e = 0) (hst : W.y.stage = 9) (H : CyWAt g t B b k W) : Calls Tryz.prog 36 #[.pointer (some ⟨b, 0, none⟩), .pointer (some ⟨k, 0, none⟩)] g.w (Does (.tuple #[]) g (cyT t B) (fun g' => CyWAt g' t B b k W.tick1.sweepsY)) := by
  obtain ⟨tp, hp, bm, bs, bt, bp, bsp, bh, cm, H⟩ := H
  have HH := Lib.hid H
  have HD1 := Lib.hid hd1
  obtain ⟨a0, a1, a2, a3, a4, a5, a6, a7, a8, a9, a10, a11, a12, a13, al⟩ := H.y.blk.c14
  have af12 := H.y.blk.live 12
  (try simp only [GW.to] at a0 a1 a2 a3 a4 a5 a6 a7 a8 a9 a10 a11 a12 a13 af12 al)
  obtain ⟨c0, c1, c2, c3, c4, c5, c6, c7, c8, c9, c10, c11, c12, cl⟩ := H.c.blk.c13
  (try simp only [GW.to] at c0 c1 c2 c3 c4 c5 c6 c7 c8 c9 c10 c11 c12 cl)
  rw [hst] at a0
  rw [he] at a13
  obtain ⟨hs0, hs1⟩ := hd.steps
  clear H hd hd1 hst he
  by_cases hs : 0 < W.y.started
  · have d1 : decide (0 < W.y.started) = true := decide_eq_true hs
    have HT := Lib.hid (show W.tick1 = { W with y := { W.y with steps := W.y.steps + 1 } } from if_pos hs)
    have H1 := Lib.hid (show CyWAt ⟨g.own, g.w.setCell ⟨b, 12, none⟩ (.int .i64 (W.y.steps + 1))⟩ t B b k W.tick1 from by rw [HT.out]; exact (HH.out.set A 12 (.int .i64 (W.y.steps + 1)) { W.y with steps := W.y.steps + 1 } rfl).at_)
    have M1 := Lib.hid (show Mod (cyT t B) g ⟨g.own, g.w.setCell ⟨b, 12, none⟩ (.int .i64 (W.y.steps + 1))⟩ from Mod.st Mod.self HH.out.modY)
    clear hs
    go_enter Tryz.func36, Tryz.ntmps36
    go_wp2_with fail
    refine (cy_sweeps A HD1.out H1.out).mono ?_
    rintro e w2 ⟨rfl, own2, m2, h2⟩
    have M2 := Lib.hid (M1.out.trans m2)
    have H2 := Lib.hid h2
    clear m2 h2
    go_wp2_with fail
    exact bodyPost_end (results_none rfl _ _ _) rfl (Does.of ⟨own2, w2⟩ rfl rfl M2.out H2.out)
  · have d1 : decide (0 < W.y.started) = false := decide_eq_false hs
    have HT := Lib.hid (show W.tick1 = W from if_neg hs)
    have H1 := Lib.hid (show CyWAt ⟨g.own, g.w⟩ t B b k W.tick1 from by rw [HT.out]; exact HH.out.at_)
    clear hs
    go_enter Tryz.func36, Tryz.ntmps36
    go_wp2_with fail
    refine (cy_sweeps A HD1.out H1.out).mono ?_
    rintro e w2 ⟨rfl, own2, m2, h2⟩
    have M2 := Lib.hid m2
    have H2 := Lib.hid h2
    clear m2 h2
    go_wp2_with fail
    exact bodyPost_end (results_none rfl _ _ _) rfl (Does.of ⟨own2, w2⟩ rfl rfl M2.out H2.out)
theorem cy_step_serves (A : CyApart t B) (hd : W.Bd) (hd1 : W.tick1.Bd) (he : W.y.e = 0) (hst : W.y.stage = 10) (hl : ∀ e ∈ W.tick1.K.sp.line, (0 ≤ e.cycles ∧ e.cycles ≤ 1099511627776) ∧ e.fair) (H : CyWAt g t B b k W) : Calls Tryz.prog 36 #[.pointer (some ⟨b, 0, none⟩), .pointer (some ⟨k, 0, none⟩)] g.w (Does (.tuple #[]) g (cyT t B) (fun g' => CyWAt g' t B b k W.tick1.serves)) := by
  have HP := Lib.hid hl
  clear hl
  obtain ⟨tp, hp, bm, bs, bt, bp, bsp, bh, cm, H⟩ := H
  have HH := Lib.hid H
  have HD1 := Lib.hid hd1
  obtain ⟨a0, a1, a2, a3, a4, a5, a6, a7, a8, a9, a10, a11, a12, a13, al⟩ := H.y.blk.c14
  have af12 := H.y.blk.live 12
  (try simp only [GW.to] at a0 a1 a2 a3 a4 a5 a6 a7 a8 a9 a10 a11 a12 a13 af12 al)
  obtain ⟨c0, c1, c2, c3, c4, c5, c6, c7, c8, c9, c10, c11, c12, cl⟩ := H.c.blk.c13
  (try simp only [GW.to] at c0 c1 c2 c3 c4 c5 c6 c7 c8 c9 c10 c11 c12 cl)
  rw [hst] at a0
  rw [he] at a13
  obtain ⟨hs0, hs1⟩ := hd.steps
  clear H hd hd1 hst he
  by_cases hs : 0 < W.y.started
  · have d1 : decide (0 < W.y.started) = true := decide_eq_true hs
    have HT := Lib.hid (show W.tick1 = { W with y := { W.y with steps := W.y.steps + 1 } } from if_pos hs)
    have H1 := Lib.hid (show CyWAt ⟨g.own, g.w.setCell ⟨b, 12, none⟩ (.int .i64 (W.y.steps + 1))⟩ t B b k W.tick1 from by rw [HT.out]; exact (HH.out.set A 12 (.int .i64 (W.y.steps + 1)) { W.y with steps := W.y.steps + 1 } rfl).at_)
    have M1 := Lib.hid (show Mod (cyT t B) g ⟨g.own, g.w.setCell ⟨b, 12, none⟩ (.int .i64 (W.y.steps + 1))⟩ from Mod.st Mod.self HH.out.modY)
    clear hs
    go_enter Tryz.func36, Tryz.ntmps36
    go_wp2_with fail
    refine (cy_serves A HD1.out HP.out H1.out).mono ?_
    rintro e w2 ⟨rfl, own2, m2, h2⟩
    have M2 := Lib.hid (M1.out.trans m2)
    have H2 := Lib.hid h2
    clear m2 h2
    go_wp2_with fail
    exact bodyPost_end (results_none rfl _ _ _) rfl (Does.of ⟨own2, w2⟩ rfl rfl M2.out H2.out)
  · have d1 : decide (0 < W.y.started) = false := decide_eq_false hs
    have HT := Lib.hid (show W.tick1 = W from if_neg hs)
    have H1 := Lib.hid (show CyWAt ⟨g.own, g.w⟩ t B b k W.tick1 from by rw [HT.out]; exact HH.out.at_)
    clear hs
    go_enter Tryz.func36, Tryz.ntmps36
    go_wp2_with fail
    refine (cy_serves A HD1.out HP.out H1.out).mono ?_
    rintro e w2 ⟨rfl, own2, m2, h2⟩
    have M2 := Lib.hid m2
    have H2 := Lib.hid h2
    clear m2 h2
    go_wp2_with fail
    exact bodyPost_end (results_none rfl _ _ _) rfl (Does.of ⟨own2, w2⟩ rfl rfl M2.out H2.out)
end
end Go.Proofs.YtcpeoflomdhidaaGreat

/-
  core: the memory that New lays. No walk here.
-/
namespace Go.Proofs.YtcpeoflomdhidaaGreat
open Go Go.RowKit
set_option linter.unusedVariables false
end Go.Proofs.YtcpeoflomdhidaaGreat

/-
  cycle: the idle collector, in plain Lean: how a state goes on. No program here.
-/
namespace Go.Proofs.YtcpeoflomdhidaaGreat
open Go Go.RowKit
set_option linter.unusedVariables false
set_option linter.unnecessarySimpa false
set_option linter.unusedSimpArgs false
structure IdleK (c : Cnf) (N : Int) (K : CoreS) : Prop where
  cc : K.c = c
  own : ∀ i, K.hand.own i = -1
  line : K.sp.line = []
  free : (K.sp.pool.free : Int) = c.frags
  cur : K.sp.coil.cur < 2
  u0 : K.sp.coil.u0 = 0
  u1 : K.sp.coil.u1 = 0
  kept : K.sp.coil.kept = 0
  tab : ∀ i, K.sp.tab.state i = 0
  pl : K.pile.l = []
  lost : K.pile.lost = false
  mem : ∀ i, 0 ≤ i → i < c.globals → inB (i + cAhead c 3) K.mem.l.length = true ∧ wIndex (K.mem.peek (i + cAhead c 3)) = none
  hc : 0 ≤ K.hand.count ∧ K.hand.count ≤ N
  sc : 0 ≤ K.sp.count ∧ K.sp.count ≤ N
  mc : 0 ≤ K.mem.count ∧ K.mem.count ≤ N
  nc : 0 ≤ K.n ∧ K.n ≤ N
theorem up {a N M : Int} (h : a ≤ N) (hm : N ≤ M) : a ≤ M := Int.le_trans h hm
namespace IdleK
variable {c : Cnf} {N : Int} {K : CoreS}
theorem mono (h : IdleK c N K) {M : Int} (hm : N ≤ M) : IdleK c M K := ⟨h.cc, h.own, h.line, h.free, h.cur, h.u0, h.u1, h.kept, h.tab, h.pl, h.lost, h.mem, ⟨h.hc.1, up h.hc.2 (by omega)⟩, ⟨h.sc.1, up h.sc.2 (by omega)⟩, ⟨h.mc.1, up h.mc.2 (by omega)⟩, ⟨h.nc.1, up h.nc.2 (by omega)⟩⟩
theorem hand (h : IdleK c N K) {H : HandS} (hl : H.l = K.hand.l) (hc : H.count = K.hand.count + 1) : IdleK c (N + 1) { K with hand := H } := by
  obtain ⟨a0, a1⟩ := h.hc
  exact ⟨h.cc, (fun i => by have := h.own i; unfold HandS.own at this ⊢; simp only [hl]; exact this), h.line, h.free, h.cur, h.u0, h.u1, h.kept, h.tab, h.pl, h.lost, h.mem, ⟨by show 0 ≤ H.count; omega, by show H.count ≤ _; omega⟩, ⟨h.sc.1, up h.sc.2 (by omega)⟩, ⟨h.mc.1, up h.mc.2 (by omega)⟩, ⟨h.nc.1, up h.nc.2 (by omega)⟩⟩
theorem post_l (H : HandS) (s : Int) (f : Bool) : (H.post s f).l = H.l ∧ (H.post s f).count = H.count + 1 := by
  unfold HandS.post HandS.tick
  split <;> exact ⟨rfl, rfl⟩
theorem post (h : IdleK c N K) (s : Int) (f : Bool) : IdleK c (N + 1) { K with hand := K.hand.post s f } := h.hand (post_l _ s f).1 (post_l _ s f).2
theorem tick (h : IdleK c N K) : IdleK c (N + 1) { K with hand := K.hand.tick } := h.hand rfl rfl
theorem sp (h : IdleK c N K) {S : SpaceS} (hl : S.line = []) (hf : S.pool = K.sp.pool) (ht : S.tab = K.sp.tab) (hcur : S.coil.cur < 2) (h0 : S.coil.u0 = 0) (h1 : S.coil.u1 = 0) (hk : S.coil.kept = 0) (hc : S.count = K.sp.count + 1) : IdleK c (N + 1) { K with sp := S } := by
  obtain ⟨a0, a1⟩ := h.sc
  exact ⟨h.cc, h.own, hl, by show (S.pool.free : Int) = _; rw [hf]; exact h.free, hcur, h0, h1, hk, (fun i => by show S.tab.state i = 0; rw [ht]; exact h.tab i), h.pl, h.lost, h.mem, ⟨h.hc.1, up h.hc.2 (by omega)⟩, ⟨by show 0 ≤ S.count; omega, by show S.count ≤ _; omega⟩, ⟨h.mc.1, up h.mc.2 (by omega)⟩, ⟨h.nc.1, up h.nc.2 (by omega)⟩⟩
theorem begin (h : IdleK c N K) : IdleK c (N + 1) { K with sp := beginS K.sp } := h.sp (show K.sp.line.map noteE = [] by rw [h.line]; rfl) rfl rfl h.cur h.u0 h.u1 h.kept rfl
theorem ends (h : IdleK c N K) : IdleK c (N + 1) { K with sp := endS K.sp } := h.sp (show K.sp.line.map endE = [] by rw [h.line]; rfl) rfl rfl h.cur h.u0 h.u1 h.kept rfl
theorem force (h : IdleK c N K) : IdleK c (N + 1) { K with sp := forceS K.sp } := h.sp h.line rfl rfl h.cur h.u0 h.u1 h.kept rfl
theorem used (h : IdleK c N K) (s : Nat) : K.sp.coil.used s = 0 := by
  unfold CoilS.used
  split
  · exact h.u0
  · exact h.u1
theorem turn (h : IdleK c N K) : IdleK c (N + 1) { K with sp := turnS K.sp } := by
  have ht : K.sp.coil.turn = { K.sp.coil with kept := K.sp.coil.used K.sp.coil.cur, cur := 1 - K.sp.coil.cur } := if_pos (by unfold CoilS.turnable; rw [h.used]; rfl)
  refine h.sp (S := turnS K.sp) h.line rfl rfl ?_ ?_ ?_ ?_ rfl
  · show K.sp.coil.turn.cur < 2
    rw [ht]
    show 1 - K.sp.coil.cur < 2
    omega
  · show K.sp.coil.turn.u0 = 0
    rw [ht]
    exact h.u0
  · show K.sp.coil.turn.u1 = 0
    rw [ht]
    exact h.u1
  · show K.sp.coil.turn.kept = 0
    rw [ht]
    exact h.used _
theorem done (h : IdleK c N K) : IdleK c (N + 1) { K with sp := doneS K.sp } := by
  have ht : K.sp.coil.done = if K.sp.coil.cur = 0 then { K.sp.coil with u1 := 0 } else { K.sp.coil with u0 := 0 } := if_pos (by unfold CoilS.doneable; rw [h.kept]; rfl)
  refine h.sp (S := doneS K.sp) h.line rfl rfl ?_ ?_ ?_ ?_ rfl
  · show K.sp.coil.done.cur < 2
    rw [ht]
    split <;> exact h.cur
  · show K.sp.coil.done.u0 = 0
    rw [ht]
    split
    · exact h.u0
    · rfl
  · show K.sp.coil.done.u1 = 0
    rw [ht]
    split
    · rfl
    · exact h.u1
  · show K.sp.coil.done.kept = 0
    rw [ht]
    split <;> exact h.kept
theorem pile (h : IdleK c N K) {p : PileS} (hp : p.l = []) (hl : p.lost = false) : IdleK c (N + 1) { K with pile := p, n := K.n + 1 } := by
  obtain ⟨a0, a1⟩ := h.nc
  exact ⟨h.cc, h.own, h.line, h.free, h.cur, h.u0, h.u1, h.kept, h.tab, hp, hl, h.mem, ⟨h.hc.1, up h.hc.2 (by omega)⟩, ⟨h.sc.1, up h.sc.2 (by omega)⟩, ⟨h.mc.1, up h.mc.2 (by omega)⟩, ⟨by show 0 ≤ K.n + 1; omega, by show K.n + 1 ≤ _; omega⟩⟩
end IdleK
structure JB (c : Cnf) (n N : Int) (W : CyW) : Prop where
  K : IdleK c N W.K
  e : W.y.e = 0
  fin : W.y.finished = n
  fr : W.y.freed = 0
  mv : W.y.moved = 0
  st : 0 ≤ W.y.steps ∧ W.y.steps ≤ N
  ib : 0 ≤ W.y.i ∧ W.y.i ≤ 5000
namespace JB
variable {c : Cnf} {n N : Int} {W : CyW}
theorem polled (h : JB c n N W) : W.polled = true := by
  unfold CyW.polled HandS.polled
  rw [h.K.own]
  rfl
theorem nextI (h : JB c n N W) : W.nextI = W.y.i + 1 := by
  unfold CyW.nextI
  rw [h.polled]
  rfl
theorem pollsB (h : JB c n N W) : W.pollsB = (W.y.i + 1 == c.threads) := by
  unfold CyW.pollsB
  rw [h.nextI, h.K.cc]
theorem polls (h : JB c n N W) (hi : W.y.i ≤ 4999) : JB c n (N + 1) W.polls :=
  ⟨h.K.tick, h.e, h.fin, h.fr, h.mv, ⟨h.st.1, up h.st.2 (by omega)⟩, ⟨by show 0 ≤ W.nextI; rw [h.nextI]; have := h.ib; omega, by show W.nextI ≤ _; rw [h.nextI]; omega⟩⟩
theorem posts (h : JB c n N W) (s : Int) (f : Bool) : JB c n (N + 1) (W.posts s f) := ⟨h.K.post s f, h.e, h.fin, h.fr, h.mv, ⟨h.st.1, up h.st.2 (by omega)⟩, h.ib⟩
theorem ent (h : JB c n N W) (s : Int) : JB c n N (W.ent s) := ⟨h.K, h.e, h.fin, h.fr, h.mv, h.st, by show (0 : Int) ≤ 0 ∧ (0 : Int) ≤ 5000; omega⟩
theorem atY (h : JB c n N W) (s : Int) : JB c n N (W.atY s) := ⟨h.K, h.e, h.fin, h.fr, h.mv, h.st, h.ib⟩
theorem spc (h : JB c n N W) {S : SpaceS} (hk : IdleK c (N + 1) { W.K with sp := S }) : JB c n (N + 1) (W.spc S) := ⟨hk, h.e, h.fin, h.fr, h.mv, ⟨h.st.1, up h.st.2 (by omega)⟩, h.ib⟩
theorem mono (h : JB c n N W) {M : Int} (hm : N ≤ M) : JB c n M W := ⟨h.K.mono hm, h.e, h.fin, h.fr, h.mv, ⟨h.st.1, up h.st.2 (by omega)⟩, h.ib⟩
theorem tick1 (h : JB c n N W) : JB c n (N + 1) W.tick1 := by
  obtain ⟨s0, s1⟩ := h.st
  unfold CyW.tick1
  split
  · exact ⟨h.K.mono (by omega), h.e, h.fin, h.fr, h.mv, ⟨by show 0 ≤ W.y.steps + 1; omega, by show W.y.steps + 1 ≤ _; omega⟩, h.ib⟩
  · exact h.mono (by omega)
end JB
theorem CyW.tick1_stage (W : CyW) : W.tick1.y.stage = W.y.stage := by unfold CyW.tick1; split <;> rfl
inductive Ph (T F G s a i L : Int) : Prop
  | p0 (hs : s = 0) (ha : a = 0) (hi : i = 0) (hl : L = 5 * T + F + G + 14)
  | p1a (hs : s = 1) (ha : a = 0) (hl : L = 5 * T + F + G + 13)
  | p1b (hs : s = 1) (ha : a = 2) (hl : L = 5 * T + F + G + 12)
  | p2a (hs : s = 2) (ha : a = 0) (hi : 0 ≤ i ∧ i < T) (hl : L = T - i + 4 * T + F + G + 11)
  | p2b (hs : s = 2) (ha : a = 2) (hl : L = 4 * T + F + G + 11)
  | p3a (hs : s = 3) (ha : a = 0) (hi : 0 ≤ i ∧ i < T) (hl : L = T - i + 3 * T + F + G + 10)
  | p3b (hs : s = 3) (ha : a = 2) (hl : L = 3 * T + F + G + 10)
  | p4a (hs : s = 4) (ha : a = 0) (hi : 0 ≤ i ∧ i ≤ G) (hl : L = G - i + 3 * T + F + 9)
  | p4b (hs : s = 4) (ha : a = 1) (hi : 0 ≤ i ∧ i < T) (hl : L = T - i + 2 * T + F + 9)
  | p5a (hs : s = 5) (ha : a = 0) (hl : L = 2 * T + F + 9)
  | p5b (hs : s = 5) (ha : a = 5) (hl : L = 2 * T + F + 8)
  | p6a (hs : s = 6) (ha : a = 0) (hi : i = 0) (hl : L = 2 * T + F + 7)
  | p6b (hs : s = 6) (ha : a = 2) (hi : i = 0) (hl : L = 2 * T + F + 6)
  | p6c (hs : s = 6) (ha : a = 1) (hi : 0 ≤ i ∧ i < T) (hl : L = T - i + T + F + 5)
  | p7a (hs : s = 7) (ha : a = 0) (hl : L = T + F + 5)
  | p7b (hs : s = 7) (ha : a = 2) (hl : L = T + F + 4)
  | p8a (hs : s = 8) (ha : a = 0) (hi : 0 ≤ i ∧ i < T) (hl : L = T - i + F + 3)
  | p8b (hs : s = 8) (ha : a = 7) (hl : L = F + 3)
  | p9 (hs : s = 9) (ha : a = 0) (hi : 0 ≤ i ∧ i < F) (hl : L = F - i + 2)
  | p10a (hs : s = 10) (ha : a = 0) (hl : L = 2)
  | p10b (hs : s = 10) (ha : a = 7) (hl : L = 1)
structure SS (n : Int) (s0 : Bool) (W : CyW) : Prop where
  a : W.y.stage ≤ 1 → W.y.started = n ∧ W.y.sense = s0
  b : 2 ≤ W.y.stage → W.y.started = n + 1 ∧ W.y.sense = !s0
structure JW (c : Cnf) (n : Int) (s0 : Bool) (L : Int) (W : CyW) : Prop where
  b : JB c n (100000 * (n + 1) - 2 * L) W
  p : Ph c.threads c.frags c.globals W.y.stage W.y.at_ W.y.i L
  s : SS n s0 W
  h : W.y.stage = 7 → W.y.at_ = 0 → W.h = none
  f : W.y.stage = 0 → W.K.sp.forced = true
structure JD (c : Cnf) (n : Int) (s0 : Bool) (W : CyW) : Prop where
  b : JB c n (100000 * n) W
  s : W.y.started = n ∧ W.y.sense = s0
  p : W.y.stage = 0 ∧ W.y.at_ = 0 ∧ W.y.i = 0
def JN (c : Cnf) (n : Int) (s0 : Bool) (L : Int) (W W' : CyW) : Prop := (JW c n s0 L W' ∧ (W'.y.stage = W.y.stage ∨ W'.y.stage = W.y.stage + 1)) ∨ (JD c (n + 1) (!s0) W' ∧ W.y.stage = 10 ∧ L = 0)
end Go.Proofs.YtcpeoflomdhidaaGreat

/-
  cycle: the idle collector, in plain Lean: each step. No program here.
-/
namespace Go.Proofs.YtcpeoflomdhidaaGreat
open Go Go.RowKit
set_option linter.unusedVariables false
set_option linter.unnecessarySimpa false
set_option linter.unusedSimpArgs false
structure Tk (c : Cnf) (n N : Int) (W V : CyW) : Prop where
  b : JB c n N V
  s : V.y.stage = W.y.stage
  a : V.y.at_ = W.y.at_
  i : V.y.i = W.y.i
  st : V.y.started = W.y.started
  se : V.y.sense = W.y.sense
  h : V.h = W.h
  K : V.K = W.K
section
variable {c : Cnf} {n L : Int} {s0 : Bool} {W V : CyW}
end
end Go.Proofs.YtcpeoflomdhidaaGreat

/-
  cycle: Step of the idle stage; a step of the idle collector; Force.
-/
namespace Go.Proofs.YtcpeoflomdhidaaGreat
open Go Go.RowKit
set_option linter.unusedVariables false
set_option linter.unnecessarySimpa false
set_option linter.unusedSimpArgs false
set_option maxHeartbeats 4000000
set_option maxRecDepth 100000
def CyW.idles (W : CyW) : CyW := if wantsS W.K.sp then (W.spc W.K.sp.tick).ent 1 else W.spc W.K.sp.tick
section
variable {g : GW} {t B b k : Nat} {W : CyW}
theorem cy_step_idle (A : CyApart t B) (hd : W.Bd) (he : W.y.e = 0) (hst : W.y.stage = 0) (H : CyWAt g t B b k W) : Calls Tryz.prog 36 #[.pointer (some ⟨b, 0, none⟩), .pointer (some ⟨k, 0, none⟩)] g.w (Does (.tuple #[]) g (cyT t B) (fun g' => CyWAt g' t B b k W.tick1.idles)) := by
  obtain ⟨tp, hp, bm, bs, bt, bp, bsp, bh, cm, H⟩ := H
  have HH := Lib.hid H
  have HD := Lib.hid hd
  obtain ⟨a0, a1, a2, a3, a4, a5, a6, a7, a8, a9, a10, a11, a12, a13, al⟩ := H.y.blk.c14
  have af12 := H.y.blk.live 12
  (try simp only [GW.to] at a0 a1 a2 a3 a4 a5 a6 a7 a8 a9 a10 a11 a12 a13 af12 al)
  obtain ⟨c0, c1, c2, c3, c4, c5, c6, c7, c8, c9, c10, c11, c12, cl⟩ := H.c.blk.c13
  (try simp only [GW.to] at c0 c1 c2 c3 c4 c5 c6 c7 c8 c9 c10 c11 c12 cl)
  rw [hst] at a0
  rw [he] at a13
  obtain ⟨hs0, hs1⟩ := hd.steps
  clear H hd hst he
  by_cases hs : 0 < W.y.started
  · have d1 : decide (0 < W.y.started) = true := decide_eq_true hs
    have HT := Lib.hid (show W.tick1 = { W with y := { W.y with steps := W.y.steps + 1 } } from if_pos hs)
    have H1 := Lib.hid (show CyIn ⟨g.own, g.w.setCell ⟨b, 12, none⟩ (.int .i64 (W.y.steps + 1))⟩ t B b k { W with y := { W.y with steps := W.y.steps + 1 } } tp hp bm bs bt bp bsp bh cm from HH.out.set A 12 (.int .i64 (W.y.steps + 1)) { W.y with steps := W.y.steps + 1 } rfl)
    have M1 := Lib.hid (show Mod (cyT t B) g ⟨g.own, g.w.setCell ⟨b, 12, none⟩ (.int .i64 (W.y.steps + 1))⟩ from Mod.st Mod.self HH.out.modY)
    clear hs
    have HWT := Lib.hid (space_wants ⟨g.own, g.w.setCell ⟨b, 12, none⟩ (.int .i64 (W.y.steps + 1))⟩ B bsp bt W.K.sp H1.out.c.sp A.hb HD.out.sp)
    go_enter Tryz.func36, Tryz.ntmps36
    go_wp2_with fail
    refine HWT.out.mono ?_
    rintro e w2 ⟨rfl, own2, m2, h2⟩
    have M2 := Lib.hid (M1.out.trans (m2.mono (S := cyT t B) (fun x hx => cyT_inst hx)))
    have H2 := Lib.hid (show CyIn ⟨own2, w2⟩ t B b k { y := { W.y with steps := W.y.steps + 1 }, tr := W.tr, h := W.h, K := { W.K with sp := W.K.sp.tick } } tp hp bm bs bt bp bsp bh cm from H1.out.spc A m2 h2)
    clear m2 h2 HWT a0 a1 a2 a3 a4 a5 a6 a7 a8 a9 a10 a11 a12 a13 af12 al c0 c1 c2 c3 c4 c5 c6 c7 c8 c9 c10 c11 c12 cl
    cases hw : wantsS W.K.sp
    · have HF := Lib.hid (show W.tick1.idles = { y := { W.y with steps := W.y.steps + 1 }, tr := W.tr, h := W.h, K := { W.K with sp := W.K.sp.tick } } from by rw [HT.out]; unfold CyW.idles; rw [hw]; rfl)
      clear hw
      go_wp2_with fail
      exact bodyPost_end (results_none rfl _ _ _) rfl (Does.of ⟨own2, w2⟩ rfl rfl M2.out (by rw [HF.out]; exact H2.out.at_))
    · have HF := Lib.hid (show W.tick1.idles = CyW.ent { y := { W.y with steps := W.y.steps + 1 }, tr := W.tr, h := W.h, K := { W.K with sp := W.K.sp.tick } } 1 from by rw [HT.out]; unfold CyW.idles; rw [hw]; rfl)
      clear hw
      go_wp2_with fail
      refine (cy_enters A 1 H2.out).mono ?_
      rintro e w3 ⟨rfl, own3, m3, h3⟩
      have M3 := Lib.hid (M2.out.trans m3)
      have H3 := Lib.hid h3
      clear m3 h3
      go_wp2_with fail
      exact bodyPost_end (results_none rfl _ _ _) rfl (Does.of ⟨own3, w3⟩ rfl rfl M3.out (by rw [HF.out]; exact H3.out.at_))
  · have d1 : decide (0 < W.y.started) = false := decide_eq_false hs
    have HT := Lib.hid (show W.tick1 = W from if_neg hs)
    have H1 := Lib.hid (show CyIn ⟨g.own, g.w⟩ t B b k W tp hp bm bs bt bp bsp bh cm from HH.out)
    have M1 := Lib.hid (show Mod (cyT t B) g ⟨g.own, g.w⟩ from Mod.self)
    clear hs
    have HWT := Lib.hid (space_wants ⟨g.own, g.w⟩ B bsp bt W.K.sp H1.out.c.sp A.hb HD.out.sp)
    go_enter Tryz.func36, Tryz.ntmps36
    go_wp2_with fail
    refine HWT.out.mono ?_
    rintro e w2 ⟨rfl, own2, m2, h2⟩
    have M2 := Lib.hid (M1.out.trans (m2.mono (S := cyT t B) (fun x hx => cyT_inst hx)))
    have H2 := Lib.hid (show CyIn ⟨own2, w2⟩ t B b k { y := W.y, tr := W.tr, h := W.h, K := { W.K with sp := W.K.sp.tick } } tp hp bm bs bt bp bsp bh cm from H1.out.spc A m2 h2)
    clear m2 h2 HWT a0 a1 a2 a3 a4 a5 a6 a7 a8 a9 a10 a11 a12 a13 af12 al c0 c1 c2 c3 c4 c5 c6 c7 c8 c9 c10 c11 c12 cl
    cases hw : wantsS W.K.sp
    · have HF := Lib.hid (show W.tick1.idles = { y := W.y, tr := W.tr, h := W.h, K := { W.K with sp := W.K.sp.tick } } from by rw [HT.out]; unfold CyW.idles; rw [hw]; rfl)
      clear hw
      go_wp2_with fail
      exact bodyPost_end (results_none rfl _ _ _) rfl (Does.of ⟨own2, w2⟩ rfl rfl M2.out (by rw [HF.out]; exact H2.out.at_))
    · have HF := Lib.hid (show W.tick1.idles = CyW.ent { y := W.y, tr := W.tr, h := W.h, K := { W.K with sp := W.K.sp.tick } } 1 from by rw [HT.out]; unfold CyW.idles; rw [hw]; rfl)
      clear hw
      go_wp2_with fail
      refine (cy_enters A 1 H2.out).mono ?_
      rintro e w3 ⟨rfl, own3, m3, h3⟩
      have M3 := Lib.hid (M2.out.trans m3)
      have H3 := Lib.hid h3
      clear m3 h3
      go_wp2_with fail
      exact bodyPost_end (results_none rfl _ _ _) rfl (Does.of ⟨own3, w3⟩ rfl rfl M3.out (by rw [HF.out]; exact H3.out.at_))
end
section
variable {g : GW} {t B b k : Nat} {W : CyW} {c : Cnf} {n L : Int} {s0 : Bool}
end
end Go.Proofs.YtcpeoflomdhidaaGreat

/-
  cycle: a step as a partial plain function: what the contracts of CyE and CyF speak of.
-/
namespace Go.Proofs.YtcpeoflomdhidaaGreat
open Go Go.RowKit
set_option linter.unusedVariables false
set_option linter.unusedSimpArgs false
set_option maxHeartbeats 2000000
namespace CyW
def cOk (n : Int) : Bool := decide (0 ≤ n ∧ n ≤ 1099511627776)
def bdB (W : CyW) : Bool := cOk W.y.i && (cOk W.y.started && (cOk W.y.finished && (cOk W.y.freed && (cOk W.y.moved && (cOk W.y.steps && (cOk W.K.hand.count && (cOk W.K.sp.count && (cOk W.K.mem.count && cOk W.K.n))))))))
theorem bdB_of {W : CyW} (h : W.bdB = true) : W.Bd := by
  unfold bdB cOk at h
  simp only [Bool.and_eq_true, decide_eq_true_eq] at h
  obtain ⟨h1, h2, h3, h4, h5, h6, h7, h8, h9, h10⟩ := h
  exact ⟨h1, h2, h3, h4, h5, h6, h7, h8, h9, h10⟩
def entOk (e : Ent) : Bool := decide ((0 ≤ e.cycles ∧ e.cycles ≤ 1099511627776) ∧ (1 ≤ e.frags ∧ e.frags ≤ 1099511627776 ∧ 0 ≤ e.spine ∧ e.spine ≤ 1099511627776))
def rootsO (W : CyW) : Option CyW :=
  if W.y.at_ = 3 then none
  else if W.K.c.globals ≤ W.y.i ∨ W.y.at_ = 1 then some W.rootsPoll
  else if W.y.at_ = 0 ∧ 0 ≤ W.y.i ∧ W.K.c.check = 0 ∧ inB (W.y.i + cAhead W.K.c 3) W.K.mem.l.length = true ∧ (wIndex (W.K.mem.peek (W.y.i + cAhead W.K.c 3))).isNone = true then some W.rootsNone else none
def marksO (W : CyW) : Option CyW :=
  if W.y.at_ = 0 then (if W.K.pile.some_ = false then some W.marksEmpty else none)
  else if W.y.at_ = 5 then (if W.K.pile.lost = false then some W.marksFound else none) else none
def haulsO (W : CyW) : Option CyW :=
  if W.y.at_ = 0 then (if W.h.isNone = true ∧ W.K.c.check = 0 ∧ W.K.sp.coil.used (1 - W.K.sp.coil.cur) = 0 then some W.haulsNone else none)
  else if W.y.at_ = 2 then some W.haulsPost else none
def stageO (W : CyW) : Option CyW :=
  if W.y.stage = 1 then some W.starts else if W.y.stage = 2 then some (W.hands 2 3) else if W.y.stage = 3 then some (W.hands 3 4)
  else if W.y.stage = 4 then W.rootsO else if W.y.stage = 5 then W.marksO else if W.y.stage = 6 then some W.turns
  else if W.y.stage = 7 then W.haulsO
  else if W.y.stage = 8 then (if W.y.at_ = 0 ∨ W.K.sp.coil.kept ≤ 0 then some W.settles else none)
  else if W.y.stage = 9 then some W.sweepsY
  else if W.y.stage = 10 then (if W.K.sp.line.all entOk then some W.serves else none)
  else none
def stepO (W : CyW) : Option CyW :=
  if (W.bdB && (W.tick1.bdB && W.y.e == 0)) = false then none
  else if W.y.stage = 0 then some W.tick1.idles
  else W.tick1.stageO
end CyW
section
variable {g : GW} {t B b k : Nat} {W : CyW}
theorem cy_step_o (A : CyApart t B) (V : CyW) (h : W.stepO = some V) (H : CyWAt g t B b k W) : Calls Tryz.prog 36 #[.pointer (some ⟨b, 0, none⟩), .pointer (some ⟨k, 0, none⟩)] g.w (Does (.tuple #[]) g (cyT t B) (fun g' => CyWAt g' t B b k V)) := by
  unfold CyW.stepO at h
  split at h
  · cases h
  rename_i hb
  simp only [Bool.not_eq_false, Bool.and_eq_true, beq_iff_eq] at hb
  obtain ⟨hb1, hb2, he⟩ := hb
  have hd := CyW.bdB_of hb1
  have hd1 := CyW.bdB_of hb2
  by_cases s0 : W.y.stage = 0
  · rw [if_pos s0] at h
    injection h with h
    subst h
    exact cy_step_idle A hd he s0 H
  rw [if_neg s0] at h
  unfold CyW.stageO at h
  rw [CyW.tick1_stage] at h
  by_cases s1 : W.y.stage = 1
  · rw [if_pos s1] at h
    injection h with h
    subst h
    exact cy_step_starts A hd hd1 he s1 H
  rw [if_neg s1] at h
  by_cases s2 : W.y.stage = 2
  · rw [if_pos s2] at h
    injection h with h
    subst h
    exact cy_step_first A hd hd1 he s2 H
  rw [if_neg s2] at h
  by_cases s3 : W.y.stage = 3
  · rw [if_pos s3] at h
    injection h with h
    subst h
    exact cy_step_both A hd hd1 he s3 H
  rw [if_neg s3] at h
  by_cases s4 : W.y.stage = 4
  · rw [if_pos s4] at h
    unfold CyW.rootsO at h
    by_cases h3 : W.tick1.y.at_ = 3
    · rw [if_pos h3] at h; cases h
    rw [if_neg h3] at h
    by_cases hp : W.tick1.K.c.globals ≤ W.tick1.y.i ∨ W.tick1.y.at_ = 1
    · rw [if_pos hp] at h
      injection h with h
      subst h
      exact cy_step_roots_poll A hd hd1 he s4 h3 hp H
    rw [if_neg hp] at h
    split at h
    case isFalse => cases h
    case isTrue hc =>
      obtain ⟨c0, c1, c2, c3, c4⟩ := hc
      injection h with h
      subst h
      exact cy_step_roots_none A hd hd1 he s4 c0 ⟨c1, by omega⟩ c2 c3 (Option.isNone_iff_eq_none.1 c4) H
  rw [if_neg s4] at h
  by_cases s5 : W.y.stage = 5
  · rw [if_pos s5] at h
    unfold CyW.marksO at h
    by_cases a0 : W.tick1.y.at_ = 0
    · rw [if_pos a0] at h
      split at h
      case isFalse => cases h
      case isTrue hc =>
        injection h with h
        subst h
        exact cy_step_marks_empty A hd hd1 he s5 a0 hc H
    rw [if_neg a0] at h
    by_cases a5 : W.tick1.y.at_ = 5
    · rw [if_pos a5] at h
      split at h
      case isFalse => cases h
      case isTrue hc =>
        injection h with h
        subst h
        exact cy_step_marks_found A hd hd1 he s5 a5 hc H
    rw [if_neg a5] at h
    cases h
  rw [if_neg s5] at h
  by_cases s6 : W.y.stage = 6
  · rw [if_pos s6] at h
    injection h with h
    subst h
    exact cy_step_turns A hd hd1 he s6 H
  rw [if_neg s6] at h
  by_cases s7 : W.y.stage = 7
  · rw [if_pos s7] at h
    unfold CyW.haulsO at h
    by_cases a0 : W.tick1.y.at_ = 0
    · rw [if_pos a0] at h
      split at h
      case isFalse => cases h
      case isTrue hc =>
        injection h with h
        subst h
        exact cy_step_hauls_none A hd hd1 he s7 a0 (Option.isNone_iff_eq_none.1 hc.1) hc.2.1 hc.2.2 H
    rw [if_neg a0] at h
    by_cases a2 : W.tick1.y.at_ = 2
    · rw [if_pos a2] at h
      injection h with h
      subst h
      exact cy_step_hauls_post A hd hd1 he s7 a2 H
    rw [if_neg a2] at h
    cases h
  rw [if_neg s7] at h
  by_cases s8 : W.y.stage = 8
  · rw [if_pos s8] at h
    split at h
    case isFalse => cases h
    case isTrue hc =>
      injection h with h
      subst h
      exact cy_step_settles A hd hd1 he s8 (fun hn => hc.resolve_left hn) H
  rw [if_neg s8] at h
  by_cases s9 : W.y.stage = 9
  · rw [if_pos s9] at h
    injection h with h
    subst h
    exact cy_step_sweeps A hd hd1 he s9 H
  rw [if_neg s9] at h
  by_cases s10 : W.y.stage = 10
  · rw [if_pos s10] at h
    split at h
    case isFalse => cases h
    case isTrue hc =>
      injection h with h
      subst h
      refine cy_step_serves A hd hd1 he s10 (fun e he => ?_) H
      have h1 := List.all_eq_true.1 hc e he
      unfold CyW.entOk at h1
      have h2 := of_decide_eq_true h1
      exact h2
  rw [if_neg s10] at h
  cases h
end
end Go.Proofs.YtcpeoflomdhidaaGreat

