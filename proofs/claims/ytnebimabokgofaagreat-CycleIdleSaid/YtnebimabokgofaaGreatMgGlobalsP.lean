import Derived.Test.YtnebimabokgofaaGreatCyD
import Derived.Test.YtnebimabokgofaaGreatCore
/-
  cycle: Step, stage by stage.
-/
namespace Go.Proofs.YtnebimabokgofaaGreat
open Go Go.RowKit
set_option linter.unusedVariables false
set_option linter.unnecessarySimpa false
set_option linter.unusedSimpArgs false
set_option maxHeartbeats 4000000
set_option maxRecDepth 100000
namespace CyW
/-- The step is counted, once there was a start. -/
def tick1 (W : CyW) : CyW := if 0 < W.y.started then { W with y := { W.y with steps := W.y.steps + 1 } } else W
theorem tick1_K (W : CyW) : W.tick1.K = W.K := by unfold tick1; split <;> rfl
theorem tick1_h (W : CyW) : W.tick1.h = W.h := by unfold tick1; split <;> rfl
theorem tick1_at (W : CyW) : W.tick1.y.at_ = W.y.at_ := by unfold tick1; split <;> rfl
theorem tick1_i (W : CyW) : W.tick1.y.i = W.y.i := by unfold tick1; split <;> rfl
end CyW
section
variable {g : GW} {t B b k : Nat} {W : CyW}
theorem cy_step_starts (A : CyApart t B) (hd : W.Bd) (hd1 : W.tick1.Bd) (he : W.y.e = 0) (hst : W.y.stage = 1) (H : CyWAt g t B b k W) : Calls Tryz.prog 19 #[.pointer (some ⟨b, 0, none⟩), .pointer (some ⟨k, 0, none⟩)] g.w (Does (.tuple #[]) g (cyT t B) (fun g' => CyWAt g' t B b k W.tick1.starts)) := by
  obtain ⟨tp, hp, bm, bs, bt, bp, bsp, bh, cm, H⟩ := H
  have HH := Lib.hid H
  have HD1 := Lib.hid hd1
  have a0 := H.y.blk.cell (i := 0) rfl
  have a1 := H.y.blk.cell (i := 1) rfl
  have a2 := H.y.blk.cell (i := 2) rfl
  have a3 := H.y.blk.cell (i := 3) rfl
  have a4 := H.y.blk.cell (i := 4) rfl
  have a5 := H.y.blk.cell (i := 5) rfl
  have a6 := H.y.blk.cell (i := 6) rfl
  have a7 := H.y.blk.cell (i := 7) rfl
  have a8 := H.y.blk.cell (i := 8) rfl
  have a9 := H.y.blk.cell (i := 9) rfl
  have a10 := H.y.blk.cell (i := 10) rfl
  have a11 := H.y.blk.cell (i := 11) rfl
  have a12 := H.y.blk.cell (i := 12) rfl
  have a13 := H.y.blk.cell (i := 13) rfl
  have af12 := H.y.blk.live 12
  have al := H.y.blk.lt
  (try simp only [GW.to] at a0 a1 a2 a3 a4 a5 a6 a7 a8 a9 a10 a11 a12 a13 af12 al)
  have c0 := H.c.blk.cell (i := 0) rfl
  have c1 := H.c.blk.cell (i := 1) rfl
  have c2 := H.c.blk.cell (i := 2) rfl
  have c3 := H.c.blk.cell (i := 3) rfl
  have c4 := H.c.blk.cell (i := 4) rfl
  have c5 := H.c.blk.cell (i := 5) rfl
  have c6 := H.c.blk.cell (i := 6) rfl
  have c7 := H.c.blk.cell (i := 7) rfl
  have c8 := H.c.blk.cell (i := 8) rfl
  have c9 := H.c.blk.cell (i := 9) rfl
  have c10 := H.c.blk.cell (i := 10) rfl
  have c11 := H.c.blk.cell (i := 11) rfl
  have c12 := H.c.blk.cell (i := 12) rfl
  have cl := H.c.blk.lt
  (try simp only [GW.to] at c0 c1 c2 c3 c4 c5 c6 c7 c8 c9 c10 c11 c12 cl)
  rw [hst] at a0
  rw [he] at a13
  obtain ⟨hs0, hs1⟩ := hd.steps
  clear H hd hd1 hst he
  by_cases hs : 0 < W.y.started
  · have d1 : decide (0 < W.y.started) = true := decide_eq_true hs
    have HT := Lib.hid (show W.tick1 = { W with y := { W.y with steps := W.y.steps + 1 } } from if_pos hs)
    have H1 := Lib.hid (show CyWAt ⟨g.own, g.w.setCell ⟨b, 12, none⟩ (.int .i64 (W.y.steps + 1))⟩ t B b k W.tick1 from by rw [HT.out]; exact (HH.out.set A 12 (.int .i64 (W.y.steps + 1)) { W.y with steps := W.y.steps + 1 } rfl).at_)
    have M1 := Lib.hid (show Mod (cyT t B) g ⟨g.own, g.w.setCell ⟨b, 12, none⟩ (.int .i64 (W.y.steps + 1))⟩ from Mod.st Mod.self HH.out.modY)
    clear hs
    go_enter Tryz.func19, Tryz.ntmps19
    go_wp2_with fail
    refine (cy_starts A HD1.out H1.out).mono ?_
    rintro e w2 ⟨rfl, own2, m2, h2⟩
    have M2 := Lib.hid (M1.out.trans m2)
    have H2 := Lib.hid h2
    clear m2 h2
    go_wp2_with fail
    exact bodyPost_end (results_none rfl _ _ _) rfl (Does.of ⟨own2, w2⟩ rfl rfl M2.out H2.out)
  · have d1 : decide (0 < W.y.started) = false := decide_eq_false hs
    have HT := Lib.hid (show W.tick1 = W from if_neg hs)
    have H1 := Lib.hid (show CyWAt ⟨g.own, g.w⟩ t B b k W.tick1 from by rw [HT.out]; exact HH.out.at_)
    clear hs
    go_enter Tryz.func19, Tryz.ntmps19
    go_wp2_with fail
    refine (cy_starts A HD1.out H1.out).mono ?_
    rintro e w2 ⟨rfl, own2, m2, h2⟩
    have M2 := Lib.hid m2
    have H2 := Lib.hid h2
    clear m2 h2
    go_wp2_with fail
    exact bodyPost_end (results_none rfl _ _ _) rfl (Does.of ⟨own2, w2⟩ rfl rfl M2.out H2.out)
theorem cy_step_first (A : CyApart t B) (hd : W.Bd) (hd1 : W.tick1.Bd) (he : W.y.e = 0) (hst : W.y.stage = 2) (H : CyWAt g t B b k W) : Calls Tryz.prog 19 #[.pointer (some ⟨b, 0, none⟩), .pointer (some ⟨k, 0, none⟩)] g.w (Does (.tuple #[]) g (cyT t B) (fun g' => CyWAt g' t B b k (W.tick1.hands 2 3))) := by
  obtain ⟨tp, hp, bm, bs, bt, bp, bsp, bh, cm, H⟩ := H
  have HH := Lib.hid H
  have HD1 := Lib.hid hd1
  have a0 := H.y.blk.cell (i := 0) rfl
  have a1 := H.y.blk.cell (i := 1) rfl
  have a2 := H.y.blk.cell (i := 2) rfl
  have a3 := H.y.blk.cell (i := 3) rfl
  have a4 := H.y.blk.cell (i := 4) rfl
  have a5 := H.y.blk.cell (i := 5) rfl
  have a6 := H.y.blk.cell (i := 6) rfl
  have a7 := H.y.blk.cell (i := 7) rfl
  have a8 := H.y.blk.cell (i := 8) rfl
  have a9 := H.y.blk.cell (i := 9) rfl
  have a10 := H.y.blk.cell (i := 10) rfl
  have a11 := H.y.blk.cell (i := 11) rfl
  have a12 := H.y.blk.cell (i := 12) rfl
  have a13 := H.y.blk.cell (i := 13) rfl
  have af12 := H.y.blk.live 12
  have al := H.y.blk.lt
  (try simp only [GW.to] at a0 a1 a2 a3 a4 a5 a6 a7 a8 a9 a10 a11 a12 a13 af12 al)
  have c0 := H.c.blk.cell (i := 0) rfl
  have c1 := H.c.blk.cell (i := 1) rfl
  have c2 := H.c.blk.cell (i := 2) rfl
  have c3 := H.c.blk.cell (i := 3) rfl
  have c4 := H.c.blk.cell (i := 4) rfl
  have c5 := H.c.blk.cell (i := 5) rfl
  have c6 := H.c.blk.cell (i := 6) rfl
  have c7 := H.c.blk.cell (i := 7) rfl
  have c8 := H.c.blk.cell (i := 8) rfl
  have c9 := H.c.blk.cell (i := 9) rfl
  have c10 := H.c.blk.cell (i := 10) rfl
  have c11 := H.c.blk.cell (i := 11) rfl
  have c12 := H.c.blk.cell (i := 12) rfl
  have cl := H.c.blk.lt
  (try simp only [GW.to] at c0 c1 c2 c3 c4 c5 c6 c7 c8 c9 c10 c11 c12 cl)
  rw [hst] at a0
  rw [he] at a13
  obtain ⟨hs0, hs1⟩ := hd.steps
  clear H hd hd1 hst he
  by_cases hs : 0 < W.y.started
  · have d1 : decide (0 < W.y.started) = true := decide_eq_true hs
    have HT := Lib.hid (show W.tick1 = { W with y := { W.y with steps := W.y.steps + 1 } } from if_pos hs)
    have H1 := Lib.hid (show CyWAt ⟨g.own, g.w.setCell ⟨b, 12, none⟩ (.int .i64 (W.y.steps + 1))⟩ t B b k W.tick1 from by rw [HT.out]; exact (HH.out.set A 12 (.int .i64 (W.y.steps + 1)) { W.y with steps := W.y.steps + 1 } rfl).at_)
    have M1 := Lib.hid (show Mod (cyT t B) g ⟨g.own, g.w.setCell ⟨b, 12, none⟩ (.int .i64 (W.y.steps + 1))⟩ from Mod.st Mod.self HH.out.modY)
    clear hs
    go_enter Tryz.func19, Tryz.ntmps19
    go_wp2_with fail
    refine (cy_hands A HD1.out 2 3 H1.out).mono ?_
    rintro e w2 ⟨rfl, own2, m2, h2⟩
    have M2 := Lib.hid (M1.out.trans m2)
    have H2 := Lib.hid h2
    clear m2 h2
    go_wp2_with fail
    exact bodyPost_end (results_none rfl _ _ _) rfl (Does.of ⟨own2, w2⟩ rfl rfl M2.out H2.out)
  · have d1 : decide (0 < W.y.started) = false := decide_eq_false hs
    have HT := Lib.hid (show W.tick1 = W from if_neg hs)
    have H1 := Lib.hid (show CyWAt ⟨g.own, g.w⟩ t B b k W.tick1 from by rw [HT.out]; exact HH.out.at_)
    clear hs
    go_enter Tryz.func19, Tryz.ntmps19
    go_wp2_with fail
    refine (cy_hands A HD1.out 2 3 H1.out).mono ?_
    rintro e w2 ⟨rfl, own2, m2, h2⟩
    have M2 := Lib.hid m2
    have H2 := Lib.hid h2
    clear m2 h2
    go_wp2_with fail
    exact bodyPost_end (results_none rfl _ _ _) rfl (Does.of ⟨own2, w2⟩ rfl rfl M2.out H2.out)
theorem cy_step_both (A : CyApart t B) (hd : W.Bd) (hd1 : W.tick1.Bd) (he : W.y.e = 0) (hst : W.y.stage = 3) (H : CyWAt g t B b k W) : Calls Tryz.prog 19 #[.pointer (some ⟨b, 0, none⟩), .pointer (some ⟨k, 0, none⟩)] g.w (Does (.tuple #[]) g (cyT t B) (fun g' => CyWAt g' t B b k (W.tick1.hands 3 4))) := by
  obtain ⟨tp, hp, bm, bs, bt, bp, bsp, bh, cm, H⟩ := H
  have HH := Lib.hid H
  have HD1 := Lib.hid hd1
  have a0 := H.y.blk.cell (i := 0) rfl
  have a1 := H.y.blk.cell (i := 1) rfl
  have a2 := H.y.blk.cell (i := 2) rfl
  have a3 := H.y.blk.cell (i := 3) rfl
  have a4 := H.y.blk.cell (i := 4) rfl
  have a5 := H.y.blk.cell (i := 5) rfl
  have a6 := H.y.blk.cell (i := 6) rfl
  have a7 := H.y.blk.cell (i := 7) rfl
  have a8 := H.y.blk.cell (i := 8) rfl
  have a9 := H.y.blk.cell (i := 9) rfl
  have a10 := H.y.blk.cell (i := 10) rfl
  have a11 := H.y.blk.cell (i := 11) rfl
  have a12 := H.y.blk.cell (i := 12) rfl
  have a13 := H.y.blk.cell (i := 13) rfl
  have af12 := H.y.blk.live 12
  have al := H.y.blk.lt
  (try simp only [GW.to] at a0 a1 a2 a3 a4 a5 a6 a7 a8 a9 a10 a11 a12 a13 af12 al)
  have c0 := H.c.blk.cell (i := 0) rfl
  have c1 := H.c.blk.cell (i := 1) rfl
  have c2 := H.c.blk.cell (i := 2) rfl
  have c3 := H.c.blk.cell (i := 3) rfl
  have c4 := H.c.blk.cell (i := 4) rfl
  have c5 := H.c.blk.cell (i := 5) rfl
  have c6 := H.c.blk.cell (i := 6) rfl
  have c7 := H.c.blk.cell (i := 7) rfl
  have c8 := H.c.blk.cell (i := 8) rfl
  have c9 := H.c.blk.cell (i := 9) rfl
  have c10 := H.c.blk.cell (i := 10) rfl
  have c11 := H.c.blk.cell (i := 11) rfl
  have c12 := H.c.blk.cell (i := 12) rfl
  have cl := H.c.blk.lt
  (try simp only [GW.to] at c0 c1 c2 c3 c4 c5 c6 c7 c8 c9 c10 c11 c12 cl)
  rw [hst] at a0
  rw [he] at a13
  obtain ⟨hs0, hs1⟩ := hd.steps
  clear H hd hd1 hst he
  by_cases hs : 0 < W.y.started
  · have d1 : decide (0 < W.y.started) = true := decide_eq_true hs
    have HT := Lib.hid (show W.tick1 = { W with y := { W.y with steps := W.y.steps + 1 } } from if_pos hs)
    have H1 := Lib.hid (show CyWAt ⟨g.own, g.w.setCell ⟨b, 12, none⟩ (.int .i64 (W.y.steps + 1))⟩ t B b k W.tick1 from by rw [HT.out]; exact (HH.out.set A 12 (.int .i64 (W.y.steps + 1)) { W.y with steps := W.y.steps + 1 } rfl).at_)
    have M1 := Lib.hid (show Mod (cyT t B) g ⟨g.own, g.w.setCell ⟨b, 12, none⟩ (.int .i64 (W.y.steps + 1))⟩ from Mod.st Mod.self HH.out.modY)
    clear hs
    go_enter Tryz.func19, Tryz.ntmps19
    go_wp2_with fail
    refine (cy_hands A HD1.out 3 4 H1.out).mono ?_
    rintro e w2 ⟨rfl, own2, m2, h2⟩
    have M2 := Lib.hid (M1.out.trans m2)
    have H2 := Lib.hid h2
    clear m2 h2
    go_wp2_with fail
    exact bodyPost_end (results_none rfl _ _ _) rfl (Does.of ⟨own2, w2⟩ rfl rfl M2.out H2.out)
  · have d1 : decide (0 < W.y.started) = false := decide_eq_false hs
    have HT := Lib.hid (show W.tick1 = W from if_neg hs)
    have H1 := Lib.hid (show CyWAt ⟨g.own, g.w⟩ t B b k W.tick1 from by rw [HT.out]; exact HH.out.at_)
    clear hs
    go_enter Tryz.func19, Tryz.ntmps19
    go_wp2_with fail
    refine (cy_hands A HD1.out 3 4 H1.out).mono ?_
    rintro e w2 ⟨rfl, own2, m2, h2⟩
    have M2 := Lib.hid m2
    have H2 := Lib.hid h2
    clear m2 h2
    go_wp2_with fail
    exact bodyPost_end (results_none rfl _ _ _) rfl (Does.of ⟨own2, w2⟩ rfl rfl M2.out H2.out)
theorem cy_step_roots_poll (A : CyApart t B) (hd : W.Bd) (hd1 : W.tick1.Bd) (he : W.y.e = 0) (hst : W.y.stage = 4) (h3 : W.tick1.y.at_ ≠ 3) (hp : W.tick1.K.c.globals ≤ W.tick1.y.i ∨ W.tick1.y.at_ = 1) (H : CyWAt g t B b k W) : Calls Tryz.prog 19 #[.pointer (some ⟨b, 0, none⟩), .pointer (some ⟨k, 0, none⟩)] g.w (Does (.tuple #[]) g (cyT t B) (fun g' => CyWAt g' t B b k W.tick1.rootsPoll)) := by
  have HP := Lib.hid (And.intro h3 hp)
  clear h3 hp
  obtain ⟨tp, hp, bm, bs, bt, bp, bsp, bh, cm, H⟩ := H
  have HH := Lib.hid H
  have HD1 := Lib.hid hd1
  have a0 := H.y.blk.cell (i := 0) rfl
  have a1 := H.y.blk.cell (i := 1) rfl
  have a2 := H.y.blk.cell (i := 2) rfl
  have a3 := H.y.blk.cell (i := 3) rfl
  have a4 := H.y.blk.cell (i := 4) rfl
  have a5 := H.y.blk.cell (i := 5) rfl
  have a6 := H.y.blk.cell (i := 6) rfl
  have a7 := H.y.blk.cell (i := 7) rfl
  have a8 := H.y.blk.cell (i := 8) rfl
  have a9 := H.y.blk.cell (i := 9) rfl
  have a10 := H.y.blk.cell (i := 10) rfl
  have a11 := H.y.blk.cell (i := 11) rfl
  have a12 := H.y.blk.cell (i := 12) rfl
  have a13 := H.y.blk.cell (i := 13) rfl
  have af12 := H.y.blk.live 12
  have al := H.y.blk.lt
  (try simp only [GW.to] at a0 a1 a2 a3 a4 a5 a6 a7 a8 a9 a10 a11 a12 a13 af12 al)
  have c0 := H.c.blk.cell (i := 0) rfl
  have c1 := H.c.blk.cell (i := 1) rfl
  have c2 := H.c.blk.cell (i := 2) rfl
  have c3 := H.c.blk.cell (i := 3) rfl
  have c4 := H.c.blk.cell (i := 4) rfl
  have c5 := H.c.blk.cell (i := 5) rfl
  have c6 := H.c.blk.cell (i := 6) rfl
  have c7 := H.c.blk.cell (i := 7) rfl
  have c8 := H.c.blk.cell (i := 8) rfl
  have c9 := H.c.blk.cell (i := 9) rfl
  have c10 := H.c.blk.cell (i := 10) rfl
  have c11 := H.c.blk.cell (i := 11) rfl
  have c12 := H.c.blk.cell (i := 12) rfl
  have cl := H.c.blk.lt
  (try simp only [GW.to] at c0 c1 c2 c3 c4 c5 c6 c7 c8 c9 c10 c11 c12 cl)
  rw [hst] at a0
  rw [he] at a13
  obtain ⟨hs0, hs1⟩ := hd.steps
  clear H hd hd1 hst he
  by_cases hs : 0 < W.y.started
  · have d1 : decide (0 < W.y.started) = true := decide_eq_true hs
    have HT := Lib.hid (show W.tick1 = { W with y := { W.y with steps := W.y.steps + 1 } } from if_pos hs)
    have H1 := Lib.hid (show CyWAt ⟨g.own, g.w.setCell ⟨b, 12, none⟩ (.int .i64 (W.y.steps + 1))⟩ t B b k W.tick1 from by rw [HT.out]; exact (HH.out.set A 12 (.int .i64 (W.y.steps + 1)) { W.y with steps := W.y.steps + 1 } rfl).at_)
    have M1 := Lib.hid (show Mod (cyT t B) g ⟨g.own, g.w.setCell ⟨b, 12, none⟩ (.int .i64 (W.y.steps + 1))⟩ from Mod.st Mod.self HH.out.modY)
    clear hs
    go_enter Tryz.func19, Tryz.ntmps19
    go_wp2_with fail
    refine (cy_roots_poll A HD1.out HP.out.1 HP.out.2 H1.out).mono ?_
    rintro e w2 ⟨rfl, own2, m2, h2⟩
    have M2 := Lib.hid (M1.out.trans m2)
    have H2 := Lib.hid h2
    clear m2 h2
    go_wp2_with fail
    exact bodyPost_end (results_none rfl _ _ _) rfl (Does.of ⟨own2, w2⟩ rfl rfl M2.out H2.out)
  · have d1 : decide (0 < W.y.started) = false := decide_eq_false hs
    have HT := Lib.hid (show W.tick1 = W from if_neg hs)
    have H1 := Lib.hid (show CyWAt ⟨g.own, g.w⟩ t B b k W.tick1 from by rw [HT.out]; exact HH.out.at_)
    clear hs
    go_enter Tryz.func19, Tryz.ntmps19
    go_wp2_with fail
    refine (cy_roots_poll A HD1.out HP.out.1 HP.out.2 H1.out).mono ?_
    rintro e w2 ⟨rfl, own2, m2, h2⟩
    have M2 := Lib.hid m2
    have H2 := Lib.hid h2
    clear m2 h2
    go_wp2_with fail
    exact bodyPost_end (results_none rfl _ _ _) rfl (Does.of ⟨own2, w2⟩ rfl rfl M2.out H2.out)
theorem cy_step_roots_none (A : CyApart t B) (hd : W.Bd) (hd1 : W.tick1.Bd) (he : W.y.e = 0) (hst : W.y.stage = 4) (h0 : W.tick1.y.at_ = 0) (hi : 0 ≤ W.tick1.y.i ∧ W.tick1.y.i < W.tick1.K.c.globals) (hck : W.tick1.K.c.check = 0) (hin : inB (W.tick1.y.i + cAhead W.tick1.K.c 3) W.tick1.K.mem.l.length = true) (hw : wIndex (W.tick1.K.mem.peek (W.tick1.y.i + cAhead W.tick1.K.c 3)) = none) (H : CyWAt g t B b k W) : Calls Tryz.prog 19 #[.pointer (some ⟨b, 0, none⟩), .pointer (some ⟨k, 0, none⟩)] g.w (Does (.tuple #[]) g (cyT t B) (fun g' => CyWAt g' t B b k W.tick1.rootsNone)) := by
  have HP := Lib.hid (And.intro h0 (And.intro hi (And.intro hck (And.intro hin hw))))
  clear h0 hi hck hin hw
  obtain ⟨tp, hp, bm, bs, bt, bp, bsp, bh, cm, H⟩ := H
  have HH := Lib.hid H
  have HD1 := Lib.hid hd1
  have a0 := H.y.blk.cell (i := 0) rfl
  have a1 := H.y.blk.cell (i := 1) rfl
  have a2 := H.y.blk.cell (i := 2) rfl
  have a3 := H.y.blk.cell (i := 3) rfl
  have a4 := H.y.blk.cell (i := 4) rfl
  have a5 := H.y.blk.cell (i := 5) rfl
  have a6 := H.y.blk.cell (i := 6) rfl
  have a7 := H.y.blk.cell (i := 7) rfl
  have a8 := H.y.blk.cell (i := 8) rfl
  have a9 := H.y.blk.cell (i := 9) rfl
  have a10 := H.y.blk.cell (i := 10) rfl
  have a11 := H.y.blk.cell (i := 11) rfl
  have a12 := H.y.blk.cell (i := 12) rfl
  have a13 := H.y.blk.cell (i := 13) rfl
  have af12 := H.y.blk.live 12
  have al := H.y.blk.lt
  (try simp only [GW.to] at a0 a1 a2 a3 a4 a5 a6 a7 a8 a9 a10 a11 a12 a13 af12 al)
  have c0 := H.c.blk.cell (i := 0) rfl
  have c1 := H.c.blk.cell (i := 1) rfl
  have c2 := H.c.blk.cell (i := 2) rfl
  have c3 := H.c.blk.cell (i := 3) rfl
  have c4 := H.c.blk.cell (i := 4) rfl
  have c5 := H.c.blk.cell (i := 5) rfl
  have c6 := H.c.blk.cell (i := 6) rfl
  have c7 := H.c.blk.cell (i := 7) rfl
  have c8 := H.c.blk.cell (i := 8) rfl
  have c9 := H.c.blk.cell (i := 9) rfl
  have c10 := H.c.blk.cell (i := 10) rfl
  have c11 := H.c.blk.cell (i := 11) rfl
  have c12 := H.c.blk.cell (i := 12) rfl
  have cl := H.c.blk.lt
  (try simp only [GW.to] at c0 c1 c2 c3 c4 c5 c6 c7 c8 c9 c10 c11 c12 cl)
  rw [hst] at a0
  rw [he] at a13
  obtain ⟨hs0, hs1⟩ := hd.steps
  clear H hd hd1 hst he
  by_cases hs : 0 < W.y.started
  · have d1 : decide (0 < W.y.started) = true := decide_eq_true hs
    have HT := Lib.hid (show W.tick1 = { W with y := { W.y with steps := W.y.steps + 1 } } from if_pos hs)
    have H1 := Lib.hid (show CyWAt ⟨g.own, g.w.setCell ⟨b, 12, none⟩ (.int .i64 (W.y.steps + 1))⟩ t B b k W.tick1 from by rw [HT.out]; exact (HH.out.set A 12 (.int .i64 (W.y.steps + 1)) { W.y with steps := W.y.steps + 1 } rfl).at_)
    have M1 := Lib.hid (show Mod (cyT t B) g ⟨g.own, g.w.setCell ⟨b, 12, none⟩ (.int .i64 (W.y.steps + 1))⟩ from Mod.st Mod.self HH.out.modY)
    clear hs
    go_enter Tryz.func19, Tryz.ntmps19
    go_wp2_with fail
    refine (cy_roots_none A HD1.out HP.out.1 HP.out.2.1 HP.out.2.2.1 HP.out.2.2.2.1 HP.out.2.2.2.2 H1.out).mono ?_
    rintro e w2 ⟨rfl, own2, m2, h2⟩
    have M2 := Lib.hid (M1.out.trans m2)
    have H2 := Lib.hid h2
    clear m2 h2
    go_wp2_with fail
    exact bodyPost_end (results_none rfl _ _ _) rfl (Does.of ⟨own2, w2⟩ rfl rfl M2.out H2.out)
  · have d1 : decide (0 < W.y.started) = false := decide_eq_false hs
    have HT := Lib.hid (show W.tick1 = W from if_neg hs)
    have H1 := Lib.hid (show CyWAt ⟨g.own, g.w⟩ t B b k W.tick1 from by rw [HT.out]; exact HH.out.at_)
    clear hs
    go_enter Tryz.func19, Tryz.ntmps19
    go_wp2_with fail
    refine (cy_roots_none A HD1.out HP.out.1 HP.out.2.1 HP.out.2.2.1 HP.out.2.2.2.1 HP.out.2.2.2.2 H1.out).mono ?_
    rintro e w2 ⟨rfl, own2, m2, h2⟩
    have M2 := Lib.hid m2
    have H2 := Lib.hid h2
    clear m2 h2
    go_wp2_with fail
    exact bodyPost_end (results_none rfl _ _ _) rfl (Does.of ⟨own2, w2⟩ rfl rfl M2.out H2.out)
theorem cy_step_marks_empty (A : CyApart t B) (hd : W.Bd) (hd1 : W.tick1.Bd) (he : W.y.e = 0) (hst : W.y.stage = 5) (h0 : W.tick1.y.at_ = 0) (hp : W.tick1.K.pile.some_ = false) (H : CyWAt g t B b k W) : Calls Tryz.prog 19 #[.pointer (some ⟨b, 0, none⟩), .pointer (some ⟨k, 0, none⟩)] g.w (Does (.tuple #[]) g (cyT t B) (fun g' => CyWAt g' t B b k W.tick1.marksEmpty)) := by
  have HP := Lib.hid (And.intro h0 hp)
  clear h0 hp
  obtain ⟨tp, hp, bm, bs, bt, bp, bsp, bh, cm, H⟩ := H
  have HH := Lib.hid H
  have HD1 := Lib.hid hd1
  have a0 := H.y.blk.cell (i := 0) rfl
  have a1 := H.y.blk.cell (i := 1) rfl
  have a2 := H.y.blk.cell (i := 2) rfl
  have a3 := H.y.blk.cell (i := 3) rfl
  have a4 := H.y.blk.cell (i := 4) rfl
  have a5 := H.y.blk.cell (i := 5) rfl
  have a6 := H.y.blk.cell (i := 6) rfl
  have a7 := H.y.blk.cell (i := 7) rfl
  have a8 := H.y.blk.cell (i := 8) rfl
  have a9 := H.y.blk.cell (i := 9) rfl
  have a10 := H.y.blk.cell (i := 10) rfl
  have a11 := H.y.blk.cell (i := 11) rfl
  have a12 := H.y.blk.cell (i := 12) rfl
  have a13 := H.y.blk.cell (i := 13) rfl
  have af12 := H.y.blk.live 12
  have al := H.y.blk.lt
  (try simp only [GW.to] at a0 a1 a2 a3 a4 a5 a6 a7 a8 a9 a10 a11 a12 a13 af12 al)
  have c0 := H.c.blk.cell (i := 0) rfl
  have c1 := H.c.blk.cell (i := 1) rfl
  have c2 := H.c.blk.cell (i := 2) rfl
  have c3 := H.c.blk.cell (i := 3) rfl
  have c4 := H.c.blk.cell (i := 4) rfl
  have c5 := H.c.blk.cell (i := 5) rfl
  have c6 := H.c.blk.cell (i := 6) rfl
  have c7 := H.c.blk.cell (i := 7) rfl
  have c8 := H.c.blk.cell (i := 8) rfl
  have c9 := H.c.blk.cell (i := 9) rfl
  have c10 := H.c.blk.cell (i := 10) rfl
  have c11 := H.c.blk.cell (i := 11) rfl
  have c12 := H.c.blk.cell (i := 12) rfl
  have cl := H.c.blk.lt
  (try simp only [GW.to] at c0 c1 c2 c3 c4 c5 c6 c7 c8 c9 c10 c11 c12 cl)
  rw [hst] at a0
  rw [he] at a13
  obtain ⟨hs0, hs1⟩ := hd.steps
  clear H hd hd1 hst he
  by_cases hs : 0 < W.y.started
  · have d1 : decide (0 < W.y.started) = true := decide_eq_true hs
    have HT := Lib.hid (show W.tick1 = { W with y := { W.y with steps := W.y.steps + 1 } } from if_pos hs)
    have H1 := Lib.hid (show CyWAt ⟨g.own, g.w.setCell ⟨b, 12, none⟩ (.int .i64 (W.y.steps + 1))⟩ t B b k W.tick1 from by rw [HT.out]; exact (HH.out.set A 12 (.int .i64 (W.y.steps + 1)) { W.y with steps := W.y.steps + 1 } rfl).at_)
    have M1 := Lib.hid (show Mod (cyT t B) g ⟨g.own, g.w.setCell ⟨b, 12, none⟩ (.int .i64 (W.y.steps + 1))⟩ from Mod.st Mod.self HH.out.modY)
    clear hs
    go_enter Tryz.func19, Tryz.ntmps19
    go_wp2_with fail
    refine (cy_marks_empty A HD1.out HP.out.1 HP.out.2 H1.out).mono ?_
    rintro e w2 ⟨rfl, own2, m2, h2⟩
    have M2 := Lib.hid (M1.out.trans m2)
    have H2 := Lib.hid h2
    clear m2 h2
    go_wp2_with fail
    exact bodyPost_end (results_none rfl _ _ _) rfl (Does.of ⟨own2, w2⟩ rfl rfl M2.out H2.out)
  · have d1 : decide (0 < W.y.started) = false := decide_eq_false hs
    have HT := Lib.hid (show W.tick1 = W from if_neg hs)
    have H1 := Lib.hid (show CyWAt ⟨g.own, g.w⟩ t B b k W.tick1 from by rw [HT.out]; exact HH.out.at_)
    clear hs
    go_enter Tryz.func19, Tryz.ntmps19
    go_wp2_with fail
    refine (cy_marks_empty A HD1.out HP.out.1 HP.out.2 H1.out).mono ?_
    rintro e w2 ⟨rfl, own2, m2, h2⟩
    have M2 := Lib.hid m2
    have H2 := Lib.hid h2
    clear m2 h2
    go_wp2_with fail
    exact bodyPost_end (results_none rfl _ _ _) rfl (Does.of ⟨own2, w2⟩ rfl rfl M2.out H2.out)
theorem cy_step_marks_found (A : CyApart t B) (hd : W.Bd) (hd1 : W.tick1.Bd) (he : W.y.e = 0) (hst : W.y.stage = 5) (h0 : W.tick1.y.at_ = 5) (hp : W.tick1.K.pile.lost = false) (H : CyWAt g t B b k W) : Calls Tryz.prog 19 #[.pointer (some ⟨b, 0, none⟩), .pointer (some ⟨k, 0, none⟩)] g.w (Does (.tuple #[]) g (cyT t B) (fun g' => CyWAt g' t B b k W.tick1.marksFound)) := by
  have HP := Lib.hid (And.intro h0 hp)
  clear h0 hp
  obtain ⟨tp, hp, bm, bs, bt, bp, bsp, bh, cm, H⟩ := H
  have HH := Lib.hid H
  have HD1 := Lib.hid hd1
  have a0 := H.y.blk.cell (i := 0) rfl
  have a1 := H.y.blk.cell (i := 1) rfl
  have a2 := H.y.blk.cell (i := 2) rfl
  have a3 := H.y.blk.cell (i := 3) rfl
  have a4 := H.y.blk.cell (i := 4) rfl
  have a5 := H.y.blk.cell (i := 5) rfl
  have a6 := H.y.blk.cell (i := 6) rfl
  have a7 := H.y.blk.cell (i := 7) rfl
  have a8 := H.y.blk.cell (i := 8) rfl
  have a9 := H.y.blk.cell (i := 9) rfl
  have a10 := H.y.blk.cell (i := 10) rfl
  have a11 := H.y.blk.cell (i := 11) rfl
  have a12 := H.y.blk.cell (i := 12) rfl
  have a13 := H.y.blk.cell (i := 13) rfl
  have af12 := H.y.blk.live 12
  have al := H.y.blk.lt
  (try simp only [GW.to] at a0 a1 a2 a3 a4 a5 a6 a7 a8 a9 a10 a11 a12 a13 af12 al)
  have c0 := H.c.blk.cell (i := 0) rfl
  have c1 := H.c.blk.cell (i := 1) rfl
  have c2 := H.c.blk.cell (i := 2) rfl
  have c3 := H.c.blk.cell (i := 3) rfl
  have c4 := H.c.blk.cell (i := 4) rfl
  have c5 := H.c.blk.cell (i := 5) rfl
  have c6 := H.c.blk.cell (i := 6) rfl
  have c7 := H.c.blk.cell (i := 7) rfl
  have c8 := H.c.blk.cell (i := 8) rfl
  have c9 := H.c.blk.cell (i := 9) rfl
  have c10 := H.c.blk.cell (i := 10) rfl
  have c11 := H.c.blk.cell (i := 11) rfl
  have c12 := H.c.blk.cell (i := 12) rfl
  have cl := H.c.blk.lt
  (try simp only [GW.to] at c0 c1 c2 c3 c4 c5 c6 c7 c8 c9 c10 c11 c12 cl)
  rw [hst] at a0
  rw [he] at a13
  obtain ⟨hs0, hs1⟩ := hd.steps
  clear H hd hd1 hst he
  by_cases hs : 0 < W.y.started
  · have d1 : decide (0 < W.y.started) = true := decide_eq_true hs
    have HT := Lib.hid (show W.tick1 = { W with y := { W.y with steps := W.y.steps + 1 } } from if_pos hs)
    have H1 := Lib.hid (show CyWAt ⟨g.own, g.w.setCell ⟨b, 12, none⟩ (.int .i64 (W.y.steps + 1))⟩ t B b k W.tick1 from by rw [HT.out]; exact (HH.out.set A 12 (.int .i64 (W.y.steps + 1)) { W.y with steps := W.y.steps + 1 } rfl).at_)
    have M1 := Lib.hid (show Mod (cyT t B) g ⟨g.own, g.w.setCell ⟨b, 12, none⟩ (.int .i64 (W.y.steps + 1))⟩ from Mod.st Mod.self HH.out.modY)
    clear hs
    go_enter Tryz.func19, Tryz.ntmps19
    go_wp2_with fail
    refine (cy_marks_found A HD1.out HP.out.1 HP.out.2 H1.out).mono ?_
    rintro e w2 ⟨rfl, own2, m2, h2⟩
    have M2 := Lib.hid (M1.out.trans m2)
    have H2 := Lib.hid h2
    clear m2 h2
    go_wp2_with fail
    exact bodyPost_end (results_none rfl _ _ _) rfl (Does.of ⟨own2, w2⟩ rfl rfl M2.out H2.out)
  · have d1 : decide (0 < W.y.started) = false := decide_eq_false hs
    have HT := Lib.hid (show W.tick1 = W from if_neg hs)
    have H1 := Lib.hid (show CyWAt ⟨g.own, g.w⟩ t B b k W.tick1 from by rw [HT.out]; exact HH.out.at_)
    clear hs
    go_enter Tryz.func19, Tryz.ntmps19
    go_wp2_with fail
    refine (cy_marks_found A HD1.out HP.out.1 HP.out.2 H1.out).mono ?_
    rintro e w2 ⟨rfl, own2, m2, h2⟩
    have M2 := Lib.hid m2
    have H2 := Lib.hid h2
    clear m2 h2
    go_wp2_with fail
    exact bodyPost_end (results_none rfl _ _ _) rfl (Does.of ⟨own2, w2⟩ rfl rfl M2.out H2.out)
theorem cy_step_turns (A : CyApart t B) (hd : W.Bd) (hd1 : W.tick1.Bd) (he : W.y.e = 0) (hst : W.y.stage = 6) (H : CyWAt g t B b k W) : Calls Tryz.prog 19 #[.pointer (some ⟨b, 0, none⟩), .pointer (some ⟨k, 0, none⟩)] g.w (Does (.tuple #[]) g (cyT t B) (fun g' => CyWAt g' t B b k W.tick1.turns)) := by
  obtain ⟨tp, hp, bm, bs, bt, bp, bsp, bh, cm, H⟩ := H
  have HH := Lib.hid H
  have HD1 := Lib.hid hd1
  have a0 := H.y.blk.cell (i := 0) rfl
  have a1 := H.y.blk.cell (i := 1) rfl
  have a2 := H.y.blk.cell (i := 2) rfl
  have a3 := H.y.blk.cell (i := 3) rfl
  have a4 := H.y.blk.cell (i := 4) rfl
  have a5 := H.y.blk.cell (i := 5) rfl
  have a6 := H.y.blk.cell (i := 6) rfl
  have a7 := H.y.blk.cell (i := 7) rfl
  have a8 := H.y.blk.cell (i := 8) rfl
  have a9 := H.y.blk.cell (i := 9) rfl
  have a10 := H.y.blk.cell (i := 10) rfl
  have a11 := H.y.blk.cell (i := 11) rfl
  have a12 := H.y.blk.cell (i := 12) rfl
  have a13 := H.y.blk.cell (i := 13) rfl
  have af12 := H.y.blk.live 12
  have al := H.y.blk.lt
  (try simp only [GW.to] at a0 a1 a2 a3 a4 a5 a6 a7 a8 a9 a10 a11 a12 a13 af12 al)
  have c0 := H.c.blk.cell (i := 0) rfl
  have c1 := H.c.blk.cell (i := 1) rfl
  have c2 := H.c.blk.cell (i := 2) rfl
  have c3 := H.c.blk.cell (i := 3) rfl
  have c4 := H.c.blk.cell (i := 4) rfl
  have c5 := H.c.blk.cell (i := 5) rfl
  have c6 := H.c.blk.cell (i := 6) rfl
  have c7 := H.c.blk.cell (i := 7) rfl
  have c8 := H.c.blk.cell (i := 8) rfl
  have c9 := H.c.blk.cell (i := 9) rfl
  have c10 := H.c.blk.cell (i := 10) rfl
  have c11 := H.c.blk.cell (i := 11) rfl
  have c12 := H.c.blk.cell (i := 12) rfl
  have cl := H.c.blk.lt
  (try simp only [GW.to] at c0 c1 c2 c3 c4 c5 c6 c7 c8 c9 c10 c11 c12 cl)
  rw [hst] at a0
  rw [he] at a13
  obtain ⟨hs0, hs1⟩ := hd.steps
  clear H hd hd1 hst he
  by_cases hs : 0 < W.y.started
  · have d1 : decide (0 < W.y.started) = true := decide_eq_true hs
    have HT := Lib.hid (show W.tick1 = { W with y := { W.y with steps := W.y.steps + 1 } } from if_pos hs)
    have H1 := Lib.hid (show CyWAt ⟨g.own, g.w.setCell ⟨b, 12, none⟩ (.int .i64 (W.y.steps + 1))⟩ t B b k W.tick1 from by rw [HT.out]; exact (HH.out.set A 12 (.int .i64 (W.y.steps + 1)) { W.y with steps := W.y.steps + 1 } rfl).at_)
    have M1 := Lib.hid (show Mod (cyT t B) g ⟨g.own, g.w.setCell ⟨b, 12, none⟩ (.int .i64 (W.y.steps + 1))⟩ from Mod.st Mod.self HH.out.modY)
    clear hs
    go_enter Tryz.func19, Tryz.ntmps19
    go_wp2_with fail
    refine (cy_turns A HD1.out H1.out).mono ?_
    rintro e w2 ⟨rfl, own2, m2, h2⟩
    have M2 := Lib.hid (M1.out.trans m2)
    have H2 := Lib.hid h2
    clear m2 h2
    go_wp2_with fail
    exact bodyPost_end (results_none rfl _ _ _) rfl (Does.of ⟨own2, w2⟩ rfl rfl M2.out H2.out)
  · have d1 : decide (0 < W.y.started) = false := decide_eq_false hs
    have HT := Lib.hid (show W.tick1 = W from if_neg hs)
    have H1 := Lib.hid (show CyWAt ⟨g.own, g.w⟩ t B b k W.tick1 from by rw [HT.out]; exact HH.out.at_)
    clear hs
    go_enter Tryz.func19, Tryz.ntmps19
    go_wp2_with fail
    refine (cy_turns A HD1.out H1.out).mono ?_
    rintro e w2 ⟨rfl, own2, m2, h2⟩
    have M2 := Lib.hid m2
    have H2 := Lib.hid h2
    clear m2 h2
    go_wp2_with fail
    exact bodyPost_end (results_none rfl _ _ _) rfl (Does.of ⟨own2, w2⟩ rfl rfl M2.out H2.out)
theorem cy_step_hauls_none (A : CyApart t B) (hd : W.Bd) (hd1 : W.tick1.Bd) (he : W.y.e = 0) (hst : W.y.stage = 7) (h0 : W.tick1.y.at_ = 0) (hh : W.tick1.h = none) (hck : W.tick1.K.c.check = 0) (hu : W.tick1.K.sp.coil.used (1 - W.tick1.K.sp.coil.cur) = 0) (H : CyWAt g t B b k W) : Calls Tryz.prog 19 #[.pointer (some ⟨b, 0, none⟩), .pointer (some ⟨k, 0, none⟩)] g.w (Does (.tuple #[]) g (cyT t B) (fun g' => CyWAt g' t B b k W.tick1.haulsNone)) := by
  have HP := Lib.hid (And.intro h0 (And.intro hh (And.intro hck hu)))
  clear h0 hh hck hu
  obtain ⟨tp, hp, bm, bs, bt, bp, bsp, bh, cm, H⟩ := H
  have HH := Lib.hid H
  have HD1 := Lib.hid hd1
  have a0 := H.y.blk.cell (i := 0) rfl
  have a1 := H.y.blk.cell (i := 1) rfl
  have a2 := H.y.blk.cell (i := 2) rfl
  have a3 := H.y.blk.cell (i := 3) rfl
  have a4 := H.y.blk.cell (i := 4) rfl
  have a5 := H.y.blk.cell (i := 5) rfl
  have a6 := H.y.blk.cell (i := 6) rfl
  have a7 := H.y.blk.cell (i := 7) rfl
  have a8 := H.y.blk.cell (i := 8) rfl
  have a9 := H.y.blk.cell (i := 9) rfl
  have a10 := H.y.blk.cell (i := 10) rfl
  have a11 := H.y.blk.cell (i := 11) rfl
  have a12 := H.y.blk.cell (i := 12) rfl
  have a13 := H.y.blk.cell (i := 13) rfl
  have af12 := H.y.blk.live 12
  have al := H.y.blk.lt
  (try simp only [GW.to] at a0 a1 a2 a3 a4 a5 a6 a7 a8 a9 a10 a11 a12 a13 af12 al)
  have c0 := H.c.blk.cell (i := 0) rfl
  have c1 := H.c.blk.cell (i := 1) rfl
  have c2 := H.c.blk.cell (i := 2) rfl
  have c3 := H.c.blk.cell (i := 3) rfl
  have c4 := H.c.blk.cell (i := 4) rfl
  have c5 := H.c.blk.cell (i := 5) rfl
  have c6 := H.c.blk.cell (i := 6) rfl
  have c7 := H.c.blk.cell (i := 7) rfl
  have c8 := H.c.blk.cell (i := 8) rfl
  have c9 := H.c.blk.cell (i := 9) rfl
  have c10 := H.c.blk.cell (i := 10) rfl
  have c11 := H.c.blk.cell (i := 11) rfl
  have c12 := H.c.blk.cell (i := 12) rfl
  have cl := H.c.blk.lt
  (try simp only [GW.to] at c0 c1 c2 c3 c4 c5 c6 c7 c8 c9 c10 c11 c12 cl)
  rw [hst] at a0
  rw [he] at a13
  obtain ⟨hs0, hs1⟩ := hd.steps
  clear H hd hd1 hst he
  by_cases hs : 0 < W.y.started
  · have d1 : decide (0 < W.y.started) = true := decide_eq_true hs
    have HT := Lib.hid (show W.tick1 = { W with y := { W.y with steps := W.y.steps + 1 } } from if_pos hs)
    have H1 := Lib.hid (show CyWAt ⟨g.own, g.w.setCell ⟨b, 12, none⟩ (.int .i64 (W.y.steps + 1))⟩ t B b k W.tick1 from by rw [HT.out]; exact (HH.out.set A 12 (.int .i64 (W.y.steps + 1)) { W.y with steps := W.y.steps + 1 } rfl).at_)
    have M1 := Lib.hid (show Mod (cyT t B) g ⟨g.own, g.w.setCell ⟨b, 12, none⟩ (.int .i64 (W.y.steps + 1))⟩ from Mod.st Mod.self HH.out.modY)
    clear hs
    go_enter Tryz.func19, Tryz.ntmps19
    go_wp2_with fail
    refine (cy_hauls_none A HD1.out HP.out.1 HP.out.2.1 HP.out.2.2.1 HP.out.2.2.2 H1.out).mono ?_
    rintro e w2 ⟨rfl, own2, m2, h2⟩
    have M2 := Lib.hid (M1.out.trans m2)
    have H2 := Lib.hid h2
    clear m2 h2
    go_wp2_with fail
    exact bodyPost_end (results_none rfl _ _ _) rfl (Does.of ⟨own2, w2⟩ rfl rfl M2.out H2.out)
  · have d1 : decide (0 < W.y.started) = false := decide_eq_false hs
    have HT := Lib.hid (show W.tick1 = W from if_neg hs)
    have H1 := Lib.hid (show CyWAt ⟨g.own, g.w⟩ t B b k W.tick1 from by rw [HT.out]; exact HH.out.at_)
    clear hs
    go_enter Tryz.func19, Tryz.ntmps19
    go_wp2_with fail
    refine (cy_hauls_none A HD1.out HP.out.1 HP.out.2.1 HP.out.2.2.1 HP.out.2.2.2 H1.out).mono ?_
    rintro e w2 ⟨rfl, own2, m2, h2⟩
    have M2 := Lib.hid m2
    have H2 := Lib.hid h2
    clear m2 h2
    go_wp2_with fail
    exact bodyPost_end (results_none rfl _ _ _) rfl (Does.of ⟨own2, w2⟩ rfl rfl M2.out H2.out)
theorem cy_step_hauls_post (A : CyApart t B) (hd : W.Bd) (hd1 : W.tick1.Bd) (he : W.y.e = 0) (hst : W.y.stage = 7) (h0 : W.tick1.y.at_ = 2) (H : CyWAt g t B b k W) : Calls Tryz.prog 19 #[.pointer (some ⟨b, 0, none⟩), .pointer (some ⟨k, 0, none⟩)] g.w (Does (.tuple #[]) g (cyT t B) (fun g' => CyWAt g' t B b k W.tick1.haulsPost)) := by
  have HP := Lib.hid h0
  clear h0
  obtain ⟨tp, hp, bm, bs, bt, bp, bsp, bh, cm, H⟩ := H
  have HH := Lib.hid H
  have HD1 := Lib.hid hd1
  have a0 := H.y.blk.cell (i := 0) rfl
  have a1 := H.y.blk.cell (i := 1) rfl
  have a2 := H.y.blk.cell (i := 2) rfl
  have a3 := H.y.blk.cell (i := 3) rfl
  have a4 := H.y.blk.cell (i := 4) rfl
  have a5 := H.y.blk.cell (i := 5) rfl
  have a6 := H.y.blk.cell (i := 6) rfl
  have a7 := H.y.blk.cell (i := 7) rfl
  have a8 := H.y.blk.cell (i := 8) rfl
  have a9 := H.y.blk.cell (i := 9) rfl
  have a10 := H.y.blk.cell (i := 10) rfl
  have a11 := H.y.blk.cell (i := 11) rfl
  have a12 := H.y.blk.cell (i := 12) rfl
  have a13 := H.y.blk.cell (i := 13) rfl
  have af12 := H.y.blk.live 12
  have al := H.y.blk.lt
  (try simp only [GW.to] at a0 a1 a2 a3 a4 a5 a6 a7 a8 a9 a10 a11 a12 a13 af12 al)
  have c0 := H.c.blk.cell (i := 0) rfl
  have c1 := H.c.blk.cell (i := 1) rfl
  have c2 := H.c.blk.cell (i := 2) rfl
  have c3 := H.c.blk.cell (i := 3) rfl
  have c4 := H.c.blk.cell (i := 4) rfl
  have c5 := H.c.blk.cell (i := 5) rfl
  have c6 := H.c.blk.cell (i := 6) rfl
  have c7 := H.c.blk.cell (i := 7) rfl
  have c8 := H.c.blk.cell (i := 8) rfl
  have c9 := H.c.blk.cell (i := 9) rfl
  have c10 := H.c.blk.cell (i := 10) rfl
  have c11 := H.c.blk.cell (i := 11) rfl
  have c12 := H.c.blk.cell (i := 12) rfl
  have cl := H.c.blk.lt
  (try simp only [GW.to] at c0 c1 c2 c3 c4 c5 c6 c7 c8 c9 c10 c11 c12 cl)
  rw [hst] at a0
  rw [he] at a13
  obtain ⟨hs0, hs1⟩ := hd.steps
  clear H hd hd1 hst he
  by_cases hs : 0 < W.y.started
  · have d1 : decide (0 < W.y.started) = true := decide_eq_true hs
    have HT := Lib.hid (show W.tick1 = { W with y := { W.y with steps := W.y.steps + 1 } } from if_pos hs)
    have H1 := Lib.hid (show CyWAt ⟨g.own, g.w.setCell ⟨b, 12, none⟩ (.int .i64 (W.y.steps + 1))⟩ t B b k W.tick1 from by rw [HT.out]; exact (HH.out.set A 12 (.int .i64 (W.y.steps + 1)) { W.y with steps := W.y.steps + 1 } rfl).at_)
    have M1 := Lib.hid (show Mod (cyT t B) g ⟨g.own, g.w.setCell ⟨b, 12, none⟩ (.int .i64 (W.y.steps + 1))⟩ from Mod.st Mod.self HH.out.modY)
    clear hs
    go_enter Tryz.func19, Tryz.ntmps19
    go_wp2_with fail
    refine (cy_hauls_post A HD1.out HP.out H1.out).mono ?_
    rintro e w2 ⟨rfl, own2, m2, h2⟩
    have M2 := Lib.hid (M1.out.trans m2)
    have H2 := Lib.hid h2
    clear m2 h2
    go_wp2_with fail
    exact bodyPost_end (results_none rfl _ _ _) rfl (Does.of ⟨own2, w2⟩ rfl rfl M2.out H2.out)
  · have d1 : decide (0 < W.y.started) = false := decide_eq_false hs
    have HT := Lib.hid (show W.tick1 = W from if_neg hs)
    have H1 := Lib.hid (show CyWAt ⟨g.own, g.w⟩ t B b k W.tick1 from by rw [HT.out]; exact HH.out.at_)
    clear hs
    go_enter Tryz.func19, Tryz.ntmps19
    go_wp2_with fail
    refine (cy_hauls_post A HD1.out HP.out H1.out).mono ?_
    rintro e w2 ⟨rfl, own2, m2, h2⟩
    have M2 := Lib.hid m2
    have H2 := Lib.hid h2
    clear m2 h2
    go_wp2_with fail
    exact bodyPost_end (results_none rfl _ _ _) rfl (Does.of ⟨own2, w2⟩ rfl rfl M2.out H2.out)
theorem cy_step_settles (A : CyApart t B) (hd : W.Bd) (hd1 : W.tick1.Bd) (he : W.y.e = 0) (hst : W.y.stage = 8) (hk : W.tick1.y.at_ ≠ 0 → W.tick1.K.sp.coil.kept ≤ 0) (H : CyWAt g t B b k W) : Calls Tryz.prog 19 #[.pointer (some ⟨b, 0, none⟩), .pointer (some ⟨k, 0, none⟩)] g.w (Does (.tuple #[]) g (cyT t B) (fun g' => CyWAt g' t B b k W.tick1.settles)) := by
  have HP := Lib.hid hk
  clear hk
  obtain ⟨tp, hp, bm, bs, bt, bp, bsp, bh, cm, H⟩ := H
  have HH := Lib.hid H
  have HD1 := Lib.hid hd1
  have a0 := H.y.blk.cell (i := 0) rfl
  have a1 := H.y.blk.cell (i := 1) rfl
  have a2 := H.y.blk.cell (i := 2) rfl
  have a3 := H.y.blk.cell (i := 3) rfl
  have a4 := H.y.blk.cell (i := 4) rfl
  have a5 := H.y.blk.cell (i := 5) rfl
  have a6 := H.y.blk.cell (i := 6) rfl
  have a7 := H.y.blk.cell (i := 7) rfl
  have a8 := H.y.blk.cell (i := 8) rfl
  have a9 := H.y.blk.cell (i := 9) rfl
  have a10 := H.y.blk.cell (i := 10) rfl
  have a11 := H.y.blk.cell (i := 11) rfl
  have a12 := H.y.blk.cell (i := 12) rfl
  have a13 := H.y.blk.cell (i := 13) rfl
  have af12 := H.y.blk.live 12
  have al := H.y.blk.lt
  (try simp only [GW.to] at a0 a1 a2 a3 a4 a5 a6 a7 a8 a9 a10 a11 a12 a13 af12 al)
  have c0 := H.c.blk.cell (i := 0) rfl
  have c1 := H.c.blk.cell (i := 1) rfl
  have c2 := H.c.blk.cell (i := 2) rfl
  have c3 := H.c.blk.cell (i := 3) rfl
  have c4 := H.c.blk.cell (i := 4) rfl
  have c5 := H.c.blk.cell (i := 5) rfl
  have c6 := H.c.blk.cell (i := 6) rfl
  have c7 := H.c.blk.cell (i := 7) rfl
  have c8 := H.c.blk.cell (i := 8) rfl
  have c9 := H.c.blk.cell (i := 9) rfl
  have c10 := H.c.blk.cell (i := 10) rfl
  have c11 := H.c.blk.cell (i := 11) rfl
  have c12 := H.c.blk.cell (i := 12) rfl
  have cl := H.c.blk.lt
  (try simp only [GW.to] at c0 c1 c2 c3 c4 c5 c6 c7 c8 c9 c10 c11 c12 cl)
  rw [hst] at a0
  rw [he] at a13
  obtain ⟨hs0, hs1⟩ := hd.steps
  clear H hd hd1 hst he
  by_cases hs : 0 < W.y.started
  · have d1 : decide (0 < W.y.started) = true := decide_eq_true hs
    have HT := Lib.hid (show W.tick1 = { W with y := { W.y with steps := W.y.steps + 1 } } from if_pos hs)
    have H1 := Lib.hid (show CyWAt ⟨g.own, g.w.setCell ⟨b, 12, none⟩ (.int .i64 (W.y.steps + 1))⟩ t B b k W.tick1 from by rw [HT.out]; exact (HH.out.set A 12 (.int .i64 (W.y.steps + 1)) { W.y with steps := W.y.steps + 1 } rfl).at_)
    have M1 := Lib.hid (show Mod (cyT t B) g ⟨g.own, g.w.setCell ⟨b, 12, none⟩ (.int .i64 (W.y.steps + 1))⟩ from Mod.st Mod.self HH.out.modY)
    clear hs
    go_enter Tryz.func19, Tryz.ntmps19
    go_wp2_with fail
    refine (cy_settles A HD1.out HP.out H1.out).mono ?_
    rintro e w2 ⟨rfl, own2, m2, h2⟩
    have M2 := Lib.hid (M1.out.trans m2)
    have H2 := Lib.hid h2
    clear m2 h2
    go_wp2_with fail
    exact bodyPost_end (results_none rfl _ _ _) rfl (Does.of ⟨own2, w2⟩ rfl rfl M2.out H2.out)
  · have d1 : decide (0 < W.y.started) = false := decide_eq_false hs
    have HT := Lib.hid (show W.tick1 = W from if_neg hs)
    have H1 := Lib.hid (show CyWAt ⟨g.own, g.w⟩ t B b k W.tick1 from by rw [HT.out]; exact HH.out.at_)
    clear hs
    go_enter Tryz.func19, Tryz.ntmps19
    go_wp2_with fail
    refine (cy_settles A HD1.out HP.out H1.out).mono ?_
    rintro e w2 ⟨rfl, own2, m2, h2⟩
    have M2 := Lib.hid m2
    have H2 := Lib.hid h2
    clear m2 h2
    go_wp2_with fail
    exact bodyPost_end (results_none rfl _ _ _) rfl (Does.of ⟨own2, w2⟩ rfl rfl M2.out H2.out)
theorem cy_step_sweeps (A : CyApart t B) (hd : W.Bd) (hd1 : W.tick1.Bd) (he : W.y.e = 0) (hst : W.y.stage = 9) (H : CyWAt g t B b k W) : Calls Tryz.prog 19 #[.pointer (some ⟨b, 0, none⟩), .pointer (some ⟨k, 0, none⟩)] g.w (Does (.tuple #[]) g (cyT t B) (fun g' => CyWAt g' t B b k W.tick1.sweepsY)) := by
  obtain ⟨tp, hp, bm, bs, bt, bp, bsp, bh, cm, H⟩ := H
  have HH := Lib.hid H
  have HD1 := Lib.hid hd1
  have a0 := H.y.blk.cell (i := 0) rfl
  have a1 := H.y.blk.cell (i := 1) rfl
  have a2 := H.y.blk.cell (i := 2) rfl
  have a3 := H.y.blk.cell (i := 3) rfl
  have a4 := H.y.blk.cell (i := 4) rfl
  have a5 := H.y.blk.cell (i := 5) rfl
  have a6 := H.y.blk.cell (i := 6) rfl
  have a7 := H.y.blk.cell (i := 7) rfl
  have a8 := H.y.blk.cell (i := 8) rfl
  have a9 := H.y.blk.cell (i := 9) rfl
  have a10 := H.y.blk.cell (i := 10) rfl
  have a11 := H.y.blk.cell (i := 11) rfl
  have a12 := H.y.blk.cell (i := 12) rfl
  have a13 := H.y.blk.cell (i := 13) rfl
  have af12 := H.y.blk.live 12
  have al := H.y.blk.lt
  (try simp only [GW.to] at a0 a1 a2 a3 a4 a5 a6 a7 a8 a9 a10 a11 a12 a13 af12 al)
  have c0 := H.c.blk.cell (i := 0) rfl
  have c1 := H.c.blk.cell (i := 1) rfl
  have c2 := H.c.blk.cell (i := 2) rfl
  have c3 := H.c.blk.cell (i := 3) rfl
  have c4 := H.c.blk.cell (i := 4) rfl
  have c5 := H.c.blk.cell (i := 5) rfl
  have c6 := H.c.blk.cell (i := 6) rfl
  have c7 := H.c.blk.cell (i := 7) rfl
  have c8 := H.c.blk.cell (i := 8) rfl
  have c9 := H.c.blk.cell (i := 9) rfl
  have c10 := H.c.blk.cell (i := 10) rfl
  have c11 := H.c.blk.cell (i := 11) rfl
  have c12 := H.c.blk.cell (i := 12) rfl
  have cl := H.c.blk.lt
  (try simp only [GW.to] at c0 c1 c2 c3 c4 c5 c6 c7 c8 c9 c10 c11 c12 cl)
  rw [hst] at a0
  rw [he] at a13
  obtain ⟨hs0, hs1⟩ := hd.steps
  clear H hd hd1 hst he
  by_cases hs : 0 < W.y.started
  · have d1 : decide (0 < W.y.started) = true := decide_eq_true hs
    have HT := Lib.hid (show W.tick1 = { W with y := { W.y with steps := W.y.steps + 1 } } from if_pos hs)
    have H1 := Lib.hid (show CyWAt ⟨g.own, g.w.setCell ⟨b, 12, none⟩ (.int .i64 (W.y.steps + 1))⟩ t B b k W.tick1 from by rw [HT.out]; exact (HH.out.set A 12 (.int .i64 (W.y.steps + 1)) { W.y with steps := W.y.steps + 1 } rfl).at_)
    have M1 := Lib.hid (show Mod (cyT t B) g ⟨g.own, g.w.setCell ⟨b, 12, none⟩ (.int .i64 (W.y.steps + 1))⟩ from Mod.st Mod.self HH.out.modY)
    clear hs
    go_enter Tryz.func19, Tryz.ntmps19
    go_wp2_with fail
    refine (cy_sweeps A HD1.out H1.out).mono ?_
    rintro e w2 ⟨rfl, own2, m2, h2⟩
    have M2 := Lib.hid (M1.out.trans m2)
    have H2 := Lib.hid h2
    clear m2 h2
    go_wp2_with fail
    exact bodyPost_end (results_none rfl _ _ _) rfl (Does.of ⟨own2, w2⟩ rfl rfl M2.out H2.out)
  · have d1 : decide (0 < W.y.started) = false := decide_eq_false hs
    have HT := Lib.hid (show W.tick1 = W from if_neg hs)
    have H1 := Lib.hid (show CyWAt ⟨g.own, g.w⟩ t B b k W.tick1 from by rw [HT.out]; exact HH.out.at_)
    clear hs
    go_enter Tryz.func19, Tryz.ntmps19
    go_wp2_with fail
    refine (cy_sweeps A HD1.out H1.out).mono ?_
    rintro e w2 ⟨rfl, own2, m2, h2⟩
    have M2 := Lib.hid m2
    have H2 := Lib.hid h2
    clear m2 h2
    go_wp2_with fail
    exact bodyPost_end (results_none rfl _ _ _) rfl (Does.of ⟨own2, w2⟩ rfl rfl M2.out H2.out)
theorem cy_step_serves (A : CyApart t B) (hd : W.Bd) (hd1 : W.tick1.Bd) (he : W.y.e = 0) (hst : W.y.stage = 10) (hl : ∀ e ∈ W.tick1.K.sp.line, (0 ≤ e.cycles ∧ e.cycles ≤ 1099511627776) ∧ e.fair) (H : CyWAt g t B b k W) : Calls Tryz.prog 19 #[.pointer (some ⟨b, 0, none⟩), .pointer (some ⟨k, 0, none⟩)] g.w (Does (.tuple #[]) g (cyT t B) (fun g' => CyWAt g' t B b k W.tick1.serves)) := by
  have HP := Lib.hid hl
  clear hl
  obtain ⟨tp, hp, bm, bs, bt, bp, bsp, bh, cm, H⟩ := H
  have HH := Lib.hid H
  have HD1 := Lib.hid hd1
  have a0 := H.y.blk.cell (i := 0) rfl
  have a1 := H.y.blk.cell (i := 1) rfl
  have a2 := H.y.blk.cell (i := 2) rfl
  have a3 := H.y.blk.cell (i := 3) rfl
  have a4 := H.y.blk.cell (i := 4) rfl
  have a5 := H.y.blk.cell (i := 5) rfl
  have a6 := H.y.blk.cell (i := 6) rfl
  have a7 := H.y.blk.cell (i := 7) rfl
  have a8 := H.y.blk.cell (i := 8) rfl
  have a9 := H.y.blk.cell (i := 9) rfl
  have a10 := H.y.blk.cell (i := 10) rfl
  have a11 := H.y.blk.cell (i := 11) rfl
  have a12 := H.y.blk.cell (i := 12) rfl
  have a13 := H.y.blk.cell (i := 13) rfl
  have af12 := H.y.blk.live 12
  have al := H.y.blk.lt
  (try simp only [GW.to] at a0 a1 a2 a3 a4 a5 a6 a7 a8 a9 a10 a11 a12 a13 af12 al)
  have c0 := H.c.blk.cell (i := 0) rfl
  have c1 := H.c.blk.cell (i := 1) rfl
  have c2 := H.c.blk.cell (i := 2) rfl
  have c3 := H.c.blk.cell (i := 3) rfl
  have c4 := H.c.blk.cell (i := 4) rfl
  have c5 := H.c.blk.cell (i := 5) rfl
  have c6 := H.c.blk.cell (i := 6) rfl
  have c7 := H.c.blk.cell (i := 7) rfl
  have c8 := H.c.blk.cell (i := 8) rfl
  have c9 := H.c.blk.cell (i := 9) rfl
  have c10 := H.c.blk.cell (i := 10) rfl
  have c11 := H.c.blk.cell (i := 11) rfl
  have c12 := H.c.blk.cell (i := 12) rfl
  have cl := H.c.blk.lt
  (try simp only [GW.to] at c0 c1 c2 c3 c4 c5 c6 c7 c8 c9 c10 c11 c12 cl)
  rw [hst] at a0
  rw [he] at a13
  obtain ⟨hs0, hs1⟩ := hd.steps
  clear H hd hd1 hst he
  by_cases hs : 0 < W.y.started
  · have d1 : decide (0 < W.y.started) = true := decide_eq_true hs
    have HT := Lib.hid (show W.tick1 = { W with y := { W.y with steps := W.y.steps + 1 } } from if_pos hs)
    have H1 := Lib.hid (show CyWAt ⟨g.own, g.w.setCell ⟨b, 12, none⟩ (.int .i64 (W.y.steps + 1))⟩ t B b k W.tick1 from by rw [HT.out]; exact (HH.out.set A 12 (.int .i64 (W.y.steps + 1)) { W.y with steps := W.y.steps + 1 } rfl).at_)
    have M1 := Lib.hid (show Mod (cyT t B) g ⟨g.own, g.w.setCell ⟨b, 12, none⟩ (.int .i64 (W.y.steps + 1))⟩ from Mod.st Mod.self HH.out.modY)
    clear hs
    go_enter Tryz.func19, Tryz.ntmps19
    go_wp2_with fail
    refine (cy_serves A HD1.out HP.out H1.out).mono ?_
    rintro e w2 ⟨rfl, own2, m2, h2⟩
    have M2 := Lib.hid (M1.out.trans m2)
    have H2 := Lib.hid h2
    clear m2 h2
    go_wp2_with fail
    exact bodyPost_end (results_none rfl _ _ _) rfl (Does.of ⟨own2, w2⟩ rfl rfl M2.out H2.out)
  · have d1 : decide (0 < W.y.started) = false := decide_eq_false hs
    have HT := Lib.hid (show W.tick1 = W from if_neg hs)
    have H1 := Lib.hid (show CyWAt ⟨g.own, g.w⟩ t B b k W.tick1 from by rw [HT.out]; exact HH.out.at_)
    clear hs
    go_enter Tryz.func19, Tryz.ntmps19
    go_wp2_with fail
    refine (cy_serves A HD1.out HP.out H1.out).mono ?_
    rintro e w2 ⟨rfl, own2, m2, h2⟩
    have M2 := Lib.hid m2
    have H2 := Lib.hid h2
    clear m2 h2
    go_wp2_with fail
    exact bodyPost_end (results_none rfl _ _ _) rfl (Does.of ⟨own2, w2⟩ rfl rfl M2.out H2.out)
end
end Go.Proofs.YtnebimabokgofaaGreat

/-
  core: the memory that New lays. No walk here.
-/
namespace Go.Proofs.YtnebimabokgofaaGreat
open Go Go.RowKit
set_option linter.unusedVariables false
theorem MemS.lay_len (m : MemS) (a : Int) (x : Nat × Nat) : (m.lay a x).l.length = m.l.length := by unfold MemS.lay; split <;> simp
theorem MemS.lay_count (m : MemS) (a : Int) (x : Nat × Nat) : (m.lay a x).count = m.count := by unfold MemS.lay; split <;> rfl
theorem memLaid_len (c : Cnf) (k : Nat) : (memLaid c k).l.length = (cWords c).toNat := by
  induction k with
  | zero => simp [memLaid]
  | succ k ih => rw [memLaid_succ, MemS.lay_len, ih]
theorem memLaid_count (c : Cnf) (k : Nat) : (memLaid c k).count = 0 := by
  induction k with
  | zero => rfl
  | succ k ih => rw [memLaid_succ, MemS.lay_count, ih]
theorem memLaid_get (c : Cnf) (hck : c.check = 0) (k : Nat) (hk : (k : Int) ≤ c.globals) (j : Nat) : (memLaid c k).l.getD j (0, 0) = if c.frags * 8 + c.spine + c.spine ≤ (j : Int) ∧ (j : Int) < c.frags * 8 + c.spine + c.spine + k then (0, 4607182418800017408) else (0, 0) := by
  obtain ⟨⟨r0, r1⟩, ⟨r2, r3⟩, ⟨r4, r5⟩, -⟩ := Cnf.ranged (Cnf.check_zero hck).1
  induction k with
  | zero =>
    rw [if_neg (by omega)]
    unfold memLaid
    simp only [List.range_zero, List.foldl_nil, List.getD_eq_getElem?_getD, List.getElem?_replicate]
    split <;> rfl
  | succ k ih =>
    have ih := ih (by omega)
    have ha : cAtV c 3 (k : Nat) = k + (c.frags * 8 + c.spine + c.spine) := by
      unfold cAtV cSize cAhead
      rw [if_pos hck, if_pos hck]
      show (if (0 : Int) ≤ k ∧ (k : Int) < c.globals then (k : Int) + (c.frags * 8 + (c.spine + (c.spine + 0))) else 0) = _
      rw [if_pos ⟨by omega, by omega⟩]
      omega
    have hw : cWords c = c.frags * 8 + c.spine + c.spine + c.globals := by unfold cWords; rw [if_pos hck]
    obtain ⟨q, hq⟩ := Int.eq_ofNat_of_zero_le (show 0 ≤ (k : Int) + (c.frags * 8 + c.spine + c.spine) by omega)
    have hql : q < (memLaid c k).l.length := by rw [memLaid_len]; omega
    rw [memLaid_succ, ha, hq]
    unfold MemS.lay
    rw [if_pos (inB_cast hql), Int.toNat_natCast]
    simp only [List.getD_eq_getElem?_getD] at ih ⊢
    by_cases hj : q = j
    · subst hj
      rw [List.getElem?_set_self hql, if_pos (by omega)]
      rfl
    · rw [List.getElem?_set_ne hj, ih]
      by_cases h1 : c.frags * 8 + c.spine + c.spine ≤ (j : Int) ∧ (j : Int) < c.frags * 8 + c.spine + c.spine + k
      · rw [if_pos h1, if_pos (by omega)]
      · rw [if_neg h1, if_neg (by omega)]
theorem memLaid_peek (c : Cnf) (hck : c.check = 0) (j : Nat) (hj : (j : Int) < cWords c) : (memLaid c c.globals.toNat).peek j = if c.frags * 8 + c.spine + c.spine ≤ (j : Int) then (0, 4607182418800017408) else (0, 0) := by
  obtain ⟨⟨r0, r1⟩, ⟨r2, r3⟩, ⟨r4, r5⟩, -⟩ := Cnf.ranged (Cnf.check_zero hck).1
  have hw : cWords c = c.frags * 8 + c.spine + c.spine + c.globals := by unfold cWords; rw [if_pos hck]
  unfold MemS.peek
  rw [if_pos (inB_cast (by rw [memLaid_len]; omega)), Int.toNat_natCast, memLaid_get c hck _ (by omega)]
  by_cases h1 : c.frags * 8 + c.spine + c.spine ≤ (j : Int)
  · rw [if_pos ⟨h1, by omega⟩, if_pos h1]
  · rw [if_neg (fun e => h1 e.1), if_neg h1]
end Go.Proofs.YtnebimabokgofaaGreat

