import Derived.Test.YtnebimabokgofaaGreatCyQ
/-
  cycle: Step of the idle stage; a step of the idle collector; Force.
-/
namespace Go.Proofs.YtnebimabokgofaaGreat
open Go Go.RowKit
set_option linter.unusedVariables false
set_option linter.unnecessarySimpa false
set_option linter.unusedSimpArgs false
set_option maxHeartbeats 4000000
set_option maxRecDepth 100000
def CyW.idles (W : CyW) : CyW := if wantsS W.K.sp then (W.spc W.K.sp.tick).ent 1 else W.spc W.K.sp.tick
section
variable {g : GW} {t B b k : Nat} {W : CyW}
theorem cy_step_idle (A : CyApart t B) (hd : W.Bd) (he : W.y.e = 0) (hst : W.y.stage = 0) (H : CyWAt g t B b k W) : Calls Tryz.prog 19 #[.pointer (some ⟨b, 0, none⟩), .pointer (some ⟨k, 0, none⟩)] g.w (Does (.tuple #[]) g (cyT t B) (fun g' => CyWAt g' t B b k W.tick1.idles)) := by
  obtain ⟨tp, hp, bm, bs, bt, bp, bsp, bh, cm, H⟩ := H
  have HH := Lib.hid H
  have HD := Lib.hid hd
  have a0 := H.y.blk.cell (i := 0) rfl
  have a1 := H.y.blk.cell (i := 1) rfl
  have a2 := H.y.blk.cell (i := 2) rfl
  have a3 := H.y.blk.cell (i := 3) rfl
  have a4 := H.y.blk.cell (i := 4) rfl
  have a5 := H.y.blk.cell (i := 5) rfl
  have a6 := H.y.blk.cell (i := 6) rfl
  have a7 := H.y.blk.cell (i := 7) rfl
  have a8 := H.y.blk.cell (i := 8) rfl
  have a9 := H.y.blk.cell (i := 9) rfl
  have a10 := H.y.blk.cell (i := 10) rfl
  have a11 := H.y.blk.cell (i := 11) rfl
  have a12 := H.y.blk.cell (i := 12) rfl
  have a13 := H.y.blk.cell (i := 13) rfl
  have af12 := H.y.blk.live 12
  have al := H.y.blk.lt
  (try simp only [GW.to] at a0 a1 a2 a3 a4 a5 a6 a7 a8 a9 a10 a11 a12 a13 af12 al)
  have c0 := H.c.blk.cell (i := 0) rfl
  have c1 := H.c.blk.cell (i := 1) rfl
  have c2 := H.c.blk.cell (i := 2) rfl
  have c3 := H.c.blk.cell (i := 3) rfl
  have c4 := H.c.blk.cell (i := 4) rfl
  have c5 := H.c.blk.cell (i := 5) rfl
  have c6 := H.c.blk.cell (i := 6) rfl
  have c7 := H.c.blk.cell (i := 7) rfl
  have c8 := H.c.blk.cell (i := 8) rfl
  have c9 := H.c.blk.cell (i := 9) rfl
  have c10 := H.c.blk.cell (i := 10) rfl
  have c11 := H.c.blk.cell (i := 11) rfl
  have c12 := H.c.blk.cell (i := 12) rfl
  have cl := H.c.blk.lt
  (try simp only [GW.to] at c0 c1 c2 c3 c4 c5 c6 c7 c8 c9 c10 c11 c12 cl)
  rw [hst] at a0
  rw [he] at a13
  obtain ⟨hs0, hs1⟩ := hd.steps
  clear H hd hst he
  by_cases hs : 0 < W.y.started
  · have d1 : decide (0 < W.y.started) = true := decide_eq_true hs
    have HT := Lib.hid (show W.tick1 = { W with y := { W.y with steps := W.y.steps + 1 } } from if_pos hs)
    have H1 := Lib.hid (show CyIn ⟨g.own, g.w.setCell ⟨b, 12, none⟩ (.int .i64 (W.y.steps + 1))⟩ t B b k { W with y := { W.y with steps := W.y.steps + 1 } } tp hp bm bs bt bp bsp bh cm from HH.out.set A 12 (.int .i64 (W.y.steps + 1)) { W.y with steps := W.y.steps + 1 } rfl)
    have M1 := Lib.hid (show Mod (cyT t B) g ⟨g.own, g.w.setCell ⟨b, 12, none⟩ (.int .i64 (W.y.steps + 1))⟩ from Mod.st Mod.self HH.out.modY)
    clear hs
    have HWT := Lib.hid (space_wants ⟨g.own, g.w.setCell ⟨b, 12, none⟩ (.int .i64 (W.y.steps + 1))⟩ B bsp bt W.K.sp H1.out.c.sp A.hb HD.out.sp)
    go_enter Tryz.func19, Tryz.ntmps19
    go_wp2_with fail
    refine HWT.out.mono ?_
    rintro e w2 ⟨rfl, own2, m2, h2⟩
    have M2 := Lib.hid (M1.out.trans (m2.mono (S := cyT t B) (fun x hx => cyT_inst hx)))
    have H2 := Lib.hid (show CyIn ⟨own2, w2⟩ t B b k { y := { W.y with steps := W.y.steps + 1 }, tr := W.tr, h := W.h, K := { W.K with sp := W.K.sp.tick } } tp hp bm bs bt bp bsp bh cm from H1.out.spc A m2 h2)
    clear m2 h2 HWT a0 a1 a2 a3 a4 a5 a6 a7 a8 a9 a10 a11 a12 a13 af12 al c0 c1 c2 c3 c4 c5 c6 c7 c8 c9 c10 c11 c12 cl
    cases hw : wantsS W.K.sp
    · have HF := Lib.hid (show W.tick1.idles = { y := { W.y with steps := W.y.steps + 1 }, tr := W.tr, h := W.h, K := { W.K with sp := W.K.sp.tick } } from by rw [HT.out]; unfold CyW.idles; rw [hw]; rfl)
      clear hw
      go_wp2_with fail
      exact bodyPost_end (results_none rfl _ _ _) rfl (Does.of ⟨own2, w2⟩ rfl rfl M2.out (by rw [HF.out]; exact H2.out.at_))
    · have HF := Lib.hid (show W.tick1.idles = CyW.ent { y := { W.y with steps := W.y.steps + 1 }, tr := W.tr, h := W.h, K := { W.K with sp := W.K.sp.tick } } 1 from by rw [HT.out]; unfold CyW.idles; rw [hw]; rfl)
      clear hw
      go_wp2_with fail
      refine (cy_enters A 1 H2.out).mono ?_
      rintro e w3 ⟨rfl, own3, m3, h3⟩
      have M3 := Lib.hid (M2.out.trans m3)
      have H3 := Lib.hid h3
      clear m3 h3
      go_wp2_with fail
      exact bodyPost_end (results_none rfl _ _ _) rfl (Does.of ⟨own3, w3⟩ rfl rfl M3.out (by rw [HF.out]; exact H3.out.at_))
  · have d1 : decide (0 < W.y.started) = false := decide_eq_false hs
    have HT := Lib.hid (show W.tick1 = W from if_neg hs)
    have H1 := Lib.hid (show CyIn ⟨g.own, g.w⟩ t B b k W tp hp bm bs bt bp bsp bh cm from HH.out)
    have M1 := Lib.hid (show Mod (cyT t B) g ⟨g.own, g.w⟩ from Mod.self)
    clear hs
    have HWT := Lib.hid (space_wants ⟨g.own, g.w⟩ B bsp bt W.K.sp H1.out.c.sp A.hb HD.out.sp)
    go_enter Tryz.func19, Tryz.ntmps19
    go_wp2_with fail
    refine HWT.out.mono ?_
    rintro e w2 ⟨rfl, own2, m2, h2⟩
    have M2 := Lib.hid (M1.out.trans (m2.mono (S := cyT t B) (fun x hx => cyT_inst hx)))
    have H2 := Lib.hid (show CyIn ⟨own2, w2⟩ t B b k { y := W.y, tr := W.tr, h := W.h, K := { W.K with sp := W.K.sp.tick } } tp hp bm bs bt bp bsp bh cm from H1.out.spc A m2 h2)
    clear m2 h2 HWT a0 a1 a2 a3 a4 a5 a6 a7 a8 a9 a10 a11 a12 a13 af12 al c0 c1 c2 c3 c4 c5 c6 c7 c8 c9 c10 c11 c12 cl
    cases hw : wantsS W.K.sp
    · have HF := Lib.hid (show W.tick1.idles = { y := W.y, tr := W.tr, h := W.h, K := { W.K with sp := W.K.sp.tick } } from by rw [HT.out]; unfold CyW.idles; rw [hw]; rfl)
      clear hw
      go_wp2_with fail
      exact bodyPost_end (results_none rfl _ _ _) rfl (Does.of ⟨own2, w2⟩ rfl rfl M2.out (by rw [HF.out]; exact H2.out.at_))
    · have HF := Lib.hid (show W.tick1.idles = CyW.ent { y := W.y, tr := W.tr, h := W.h, K := { W.K with sp := W.K.sp.tick } } 1 from by rw [HT.out]; unfold CyW.idles; rw [hw]; rfl)
      clear hw
      go_wp2_with fail
      refine (cy_enters A 1 H2.out).mono ?_
      rintro e w3 ⟨rfl, own3, m3, h3⟩
      have M3 := Lib.hid (M2.out.trans m3)
      have H3 := Lib.hid h3
      clear m3 h3
      go_wp2_with fail
      exact bodyPost_end (results_none rfl _ _ _) rfl (Does.of ⟨own3, w3⟩ rfl rfl M3.out (by rw [HF.out]; exact H3.out.at_))
end
section
variable {g : GW} {t B b k : Nat} {W : CyW} {c : Cnf} {n L : Int} {s0 : Bool}
theorem JB.bd {N : Int} (h : JB c n N W) (hn : 0 ≤ n ∧ n ≤ 5) (hN : N ≤ 1000000) (hs : 0 ≤ W.y.started ∧ W.y.started ≤ 10) : W.Bd := by
  have hi := h.ib
  have h2 := h.st
  have hf := h.fin
  have hf2 := h.fr
  have hm := h.mv
  have k1 := h.K.hc
  have k2 := h.K.sc
  have k3 := h.K.mc
  have k4 := h.K.nc
  exact ⟨by omega, by omega, by omega, by omega, by omega, by omega, by omega, by omega, by omega, by omega⟩
theorem cy_idle_step (A : CyApart t B) (hck : c.check = 0) (hn : 0 ≤ n ∧ n ≤ 4) (J : JW c n s0 L W) (H : CyWAt g t B b k W) : Calls Tryz.prog 19 #[.pointer (some ⟨b, 0, none⟩), .pointer (some ⟨k, 0, none⟩)] g.w (Does (.tuple #[]) g (cyT t B) (fun g' => ∃ W', CyWAt g' t B b k W' ∧ JN c n s0 (L - 1) W W')) := by
  obtain ⟨hF, -, hG, hT, -⟩ := Cnf.ranged (Cnf.check_zero hck).1
  have hL : 1 ≤ L ∧ L ≤ 2000 := by
    cases J.p <;> omega
  have hstd : 0 ≤ W.y.started ∧ W.y.started ≤ 10 := by
    by_cases h1 : W.y.stage ≤ 1
    · have := (J.s.a h1).1; omega
    · have := (J.s.b (by omega)).1; omega
  have TK := J.b.tk
  have hd := J.b.bd (by omega) (by omega) hstd
  have hd1 : W.tick1.Bd := TK.b.bd (by omega) (by omega) (by rw [TK.st]; exact hstd)
  have he := J.b.e
  have hK := J.b.K
  have hc1 : W.tick1.K.c = c := TK.b.K.cc
  have hck1 : W.tick1.K.c.check = 0 := by rw [hc1]; exact hck
  have fin : ∀ {W' : CyW}, JN c n s0 (L - 1) W W' → ∀ e w', Does (.tuple #[]) g (cyT t B) (fun g' => CyWAt g' t B b k W') e w' → Does (.tuple #[]) g (cyT t B) (fun g' => ∃ W', CyWAt g' t B b k W' ∧ JN c n s0 (L - 1) W W') e w' := by
    rintro W' hj e w' ⟨q1, own', q2, q3⟩
    exact ⟨q1, own', q2, _, q3, hj⟩
  have hst : W.y.stage = 0 ∨ W.y.stage = 1 ∨ W.y.stage = 2 ∨ W.y.stage = 3 ∨ W.y.stage = 4 ∨ W.y.stage = 5 ∨ W.y.stage = 6 ∨ W.y.stage = 7 ∨ W.y.stage = 8 ∨ W.y.stage = 9 ∨ W.y.stage = 10 := by
    cases J.p <;> omega
  rcases hst with hs | hs | hs | hs | hs | hs | hs | hs | hs | hs | hs
  · have hL0 : L = 5 * c.threads + c.frags + c.globals + 14 := by cases J.p <;> omega
    have hw : W.tick1.idles = (W.tick1.spc W.tick1.K.sp.tick).ent 1 := if_pos (TK.b.K.wants (by rw [TK.K]; exact J.f hs))
    refine (cy_step_idle A hd he hs H).mono (fin ?_)
    rw [hw]
    exact jn_idle TK J hL0 hs
  · exact (cy_step_starts A hd hd1 he hs H).mono (fin (jn_starts TK J (by omega) hs))
  · exact (cy_step_first A hd hd1 he hs H).mono (fin (jn_first TK J (by omega) hs))
  · exact (cy_step_both A hd hd1 he hs H).mono (fin (jn_both TK J (by omega) (by omega) hs))
  · by_cases hp : c.globals ≤ W.y.i ∨ W.y.at_ = 1
    · refine (cy_step_roots_poll A hd hd1 he hs ?_ ?_ H).mono (fin (jn_rootsPoll TK J (by omega) (by omega) hs hp))
      · rw [TK.a]
        cases J.p <;> omega
      · rw [TK.a, TK.i, hc1]
        exact hp
    · have ha : W.y.at_ = 0 := by cases J.p <;> omega
      have hi : 0 ≤ W.y.i ∧ W.y.i < c.globals := by cases J.p <;> omega
      have hm := TK.b.K.mem W.y.i hi.1 hi.2
      exact (cy_step_roots_none A hd hd1 he hs (TK.a.trans ha) (by rw [TK.i, hc1]; exact hi) hck1 (by rw [TK.i, hc1]; exact hm.1) (by rw [TK.i, hc1]; exact hm.2) H).mono (fin (jn_rootsNone TK J (by omega) (by omega) hs ha hi.2))
  · by_cases ha : W.y.at_ = 0
    · exact (cy_step_marks_empty A hd hd1 he hs (TK.a.trans ha) (by unfold PileS.some_; rw [TK.b.K.pl]; rfl) H).mono (fin (jn_marksEmpty TK J hs ha))
    · have h5 : W.y.at_ = 5 := by cases J.p <;> omega
      exact (cy_step_marks_found A hd hd1 he hs (TK.a.trans h5) TK.b.K.lost H).mono (fin (jn_marksFound TK J hs h5))
  · exact (cy_step_turns A hd hd1 he hs H).mono (fin (jn_turns TK J (by omega) hs))
  · by_cases ha : W.y.at_ = 0
    · exact (cy_step_hauls_none A hd hd1 he hs (TK.a.trans ha) (TK.h.trans (J.h hs ha)) hck1 (TK.b.K.used _) H).mono (fin (jn_haulsNone TK J hs ha))
    · have h2 : W.y.at_ = 2 := by cases J.p <;> omega
      exact (cy_step_hauls_post A hd hd1 he hs (TK.a.trans h2) H).mono (fin (jn_haulsPost TK J (by omega) hs h2))
  · exact (cy_step_settles A hd hd1 he hs (fun _ => by rw [TK.b.K.kept]; exact Int.le_refl _) H).mono (fin (jn_settles TK J (by omega) (by omega) hs))
  · exact (cy_step_sweeps A hd hd1 he hs H).mono (fin (jn_sweeps TK J (by omega) hs))
  · exact (cy_step_serves A hd hd1 he hs (fun e he => by rw [TK.b.K.line] at he; cases he) H).mono (fin (jn_serves TK J hs))
end
end Go.Proofs.YtnebimabokgofaaGreat

/-
  spolaw24.first.
-/
namespace Go.Proofs.YtnebimabokgofaaGreat
open Go Go.RowKit
set_option linter.unusedVariables false
set_option linter.unnecessarySimpa false
set_option linter.unusedSimpArgs false
set_option maxHeartbeats 4000000
set_option maxRecDepth 100000
def cOne (A : Option Addr) : Cnf := ⟨4, 0, 0, 1, 1, 0, 1, 0, A, 1, [⟨false, none, 0, []⟩]⟩
theorem cOne_check (A : Option Addr) : (cOne A).check = 0 := by rfl
def oneW (A : Option Addr) : CyW := ⟨CyS.fresh, none, none, CoreS.fresh (cOne A)⟩
def oneW1 (A : Option Addr) : CyW := (oneW A).spc (CoreS.fresh (cOne A)).sp.tick
def oneW2 (A : Option Addr) : CyW := (oneW A).spc (forceS (CoreS.fresh (cOne A)).sp.tick)
def oneW3 (A : Option Addr) : CyW := CyW.ent ((oneW A).spc (forceS (CoreS.fresh (cOne A)).sp.tick).tick) 1
theorem one_step (A : Option Addr) : (oneW A).tick1.idles = oneW1 A := rfl
theorem two_step (A : Option Addr) : (oneW2 A).tick1.idles = oneW3 A := rfl
theorem zr : (0 : Int) ≤ 0 ∧ (0 : Int) ≤ 1099511627776 := by decide
theorem zr1 : (0 : Int) ≤ 0 + 1 ∧ (0 : Int) + 1 ≤ 1099511627776 := by decide
theorem zr2 : (0 : Int) ≤ 0 + 1 + 1 ∧ (0 : Int) + 1 + 1 ≤ 1099511627776 := by decide
theorem one_bd (A : Option Addr) : (oneW A).Bd := ⟨zr, zr, zr, zr, zr, zr, zr, zr, zr, zr⟩
theorem two_bd (A : Option Addr) : (oneW2 A).Bd := ⟨zr, zr, zr, zr, zr, zr, zr, zr2, zr, zr⟩
theorem apart1 : CyApart 500 100 := ⟨by decide, by decide, by decide⟩
theorem CyIn.force {g : GW} {t B b k : Nat} {W : CyW} {tp hp : Option Addr} {bm bs bt bp bsp bh : Nat} {cm : Cnf} (H : CyIn g t B b k W tp hp bm bs bt bp bsp bh cm) (A : CyApart t B) (hc : 0 ≤ W.K.sp.count ∧ W.K.sp.count ≤ 1099511627776) : Calls Tryz.prog 16 #[.pointer (some ⟨bsp, 0, none⟩)] g.w (Does (.tuple #[]) g (cyT t B) (fun g' => CyIn g' t B b k (W.spc (forceS W.K.sp)) tp hp bm bs bt bp bsp bh cm)) := by
  refine (space_force g B bsp bt W.K.sp H.c.sp A.hb hc).mono ?_
  rintro e w1 ⟨rfl, own1, m1, h1⟩
  exact ⟨rfl, own1, m1.mono (fun x hx => cyT_inst hx), H.spc A m1 h1⟩
theorem first24_any (w : World) : Calls Tryz.prog 10 #[] w (Gives (.bool true) w) := by
  have q1 := World.row_alloc_new w (o := .cells #[.bool false, .slice none 0 0] 95)
  have hok : (cOne (some ⟨w.heap.size, 0, none⟩)).Ok (w.alloc (.cells #[.bool false, .slice none 0 0] 95)) :=
    ⟨CellsAt.mk (Array.getElem?_eq_some_iff.1 q1).1 (fun i v hi => by rw [Nat.zero_add]; exact row_cell (l := [.bool false, .slice none 0 0]) q1 hi), fun s hs => by rw [List.mem_singleton.1 hs]; exact ⟨CellsAt.nil _ _, by simp, by simp⟩, Nat.le_refl _, (show 1 ≤ 140737488355328 by decide)⟩
  have HE := Lib.hid (show Ext w (w.alloc (.cells #[.bool false, .slice none 0 0] 95)) by (repeat (first | (with_reducible assumption) | (with_reducible exact Ext.refl _) | (with_reducible exact Ext.more _ _ _ _) | apply Ext.alloc | refine Ext.setCell ?_ (by first | exact Nat.le_refl _ | exact Nat.le_add_right _ _ | assumption) _ | apply Ext.patch | apply Ext.drew | apply Ext.drewN)))
  have HM := Lib.hid (core_new (cOne (some ⟨w.heap.size, 0, none⟩)) 100 ⟨fun _ => 0, _⟩ hok (by omega) (fun k _ => Or.inl (show 0 < 100 by omega)))
  clear q1 hok
  go_enter Tryz.func10, Tryz.ntmps10
  go_wp2_with fail
  refine HM.out.mono ?_
  rintro e w1 hh
  unfold CoreMade at hh
  rw [if_pos (cOne_check _)] at hh
  obtain ⟨own1, k, rfl, m1, h1⟩ := hh
  generalize (some ⟨w.heap.size, 0, none⟩ : Option Addr) = A at *
  have M1 := Lib.hid m1
  obtain ⟨bm, bs, bt, bp, bsp, bh, cm, h1⟩ := h1
  have H1 := Lib.hid h1
  clear m1 h1 HM
  go_wp2_with fail
  refine (cy_new ⟨own1, w1⟩ 500).mono ?_
  rintro e w2 ⟨own2, b, rfl, m2, h2⟩
  have M2 := Lib.hid (M1.out.trans m2)
  have H2 := Lib.hid (show CyIn ⟨own2, w2⟩ 500 100 b k (oneW A) none none bm bs bt bp bsp bh cm from ⟨h2, H1.out.keep m2 (fun _ => False.elim)⟩)
  clear m2 h2 H1 M1
  go_wp2_with fail
  refine (cy_step_idle apart1 (one_bd A) rfl rfl H2.out.at_).mono ?_
  rintro e w3 ⟨rfl, own3, m3, h3⟩
  rw [one_step] at h3
  obtain ⟨tp, hp, bm', bs', bt', bp', bsp', bh', cm', h3⟩ := h3
  have M3 := Lib.hid ((M2.out.mono (S := cyT 500 100) (fun _ => False.elim)).trans m3)
  have H3 := Lib.hid h3
  clear m3 h3 H2 M2
  go_wp2_with fail
  refine (show Calls Tryz.prog 17 #[.pointer (some ⟨b, 0, none⟩)] w3 (fun e w' => e = .returned (.int .i64 0) ∧ w3 = w') from cy_stage ⟨own3, w3⟩ 500 b _ _ _ _ _ H3.out.y).mono ?_
  rintro e w' ⟨rfl, rfl⟩
  have c0 := H3.out.c.blk.cell (i := 0) rfl
  have c1 := H3.out.c.blk.cell (i := 1) rfl
  have c2 := H3.out.c.blk.cell (i := 2) rfl
  have c3 := H3.out.c.blk.cell (i := 3) rfl
  have c4 := H3.out.c.blk.cell (i := 4) rfl
  have c5 := H3.out.c.blk.cell (i := 5) rfl
  have c6 := H3.out.c.blk.cell (i := 6) rfl
  have c7 := H3.out.c.blk.cell (i := 7) rfl
  have c8 := H3.out.c.blk.cell (i := 8) rfl
  have c9 := H3.out.c.blk.cell (i := 9) rfl
  have c10 := H3.out.c.blk.cell (i := 10) rfl
  have c11 := H3.out.c.blk.cell (i := 11) rfl
  have c12 := H3.out.c.blk.cell (i := 12) rfl
  have cl := H3.out.c.blk.lt
  (try simp only [GW.to] at c0 c1 c2 c3 c4 c5 c6 c7 c8 c9 c10 c11 c12 cl)
  go_wp2_with fail
  refine (H3.out.force apart1 zr1).mono ?_
  rintro e w4 ⟨rfl, own4, m4, h4⟩
  have M4 := Lib.hid (M3.out.trans m4)
  have H4 := Lib.hid (show CyIn ⟨own4, w4⟩ 500 100 b k (oneW2 A) tp hp bm' bs' bt' bp' bsp' bh' cm' from h4)
  clear m4 h4 H3 M3 c0 c1 c2 c3 c4 c5 c6 c7 c8 c9 c10 c11 c12 cl
  go_wp2_with fail
  refine (cy_step_idle apart1 (two_bd A) rfl rfl H4.out.at_).mono ?_
  rintro e w5 ⟨rfl, own5, m5, h5⟩
  rw [two_step] at h5
  obtain ⟨tp, hp, bm', bs', bt', bp', bsp', bh', cm', h5⟩ := h5
  have M5 := Lib.hid (M4.out.trans m5)
  have H5 := Lib.hid h5
  clear m5 h5 H4 M4
  go_wp2_with fail
  refine (show Calls Tryz.prog 17 #[.pointer (some ⟨b, 0, none⟩)] w5 (fun e w' => e = .returned (.int .i64 1) ∧ w5 = w') from cy_stage ⟨own5, w5⟩ 500 b _ _ _ _ _ H5.out.y).mono ?_
  rintro e w' ⟨rfl, rfl⟩
  go_wp2_with fail
  refine (show Calls Tryz.prog 21 #[.pointer (some ⟨b, 0, none⟩)] w5 (fun e w' => e = .returned (.int .i64 0) ∧ w5 = w') from cy_started ⟨own5, w5⟩ 500 b _ _ _ _ _ H5.out.y).mono ?_
  rintro e w' ⟨rfl, rfl⟩
  go_wp2_with fail
  refine (show Calls Tryz.prog 47 #[.pointer (some ⟨b, 0, none⟩)] w5 (fun e w' => e = .returned (.int .i64 0) ∧ w5 = w') from cy_steps ⟨own5, w5⟩ 500 b _ _ _ _ _ H5.out.y).mono ?_
  rintro e w' ⟨rfl, rfl⟩
  go_wp2_with fail
  go_ret
  exact Gives.bool rfl (HE.out.trans (M5.out.nothing (fun j _ hj => by simp only [cyT] at hj; omega)).toExt)
end Go.Proofs.YtnebimabokgofaaGreat

/-
  cycle: the idle collector at the start and as it is forced, in plain Lean.
-/
namespace Go.Proofs.YtnebimabokgofaaGreat
open Go Go.RowKit
set_option linter.unusedVariables false
def freshW (c : Cnf) : CyW := ⟨CyS.fresh, none, none, CoreS.fresh c⟩
theorem repl_own (n : Nat) (s : Int) (f : Bool) (i : Int) : (⟨s, f, List.replicate n (-1), 0⟩ : HandS).own i = -1 := by
  unfold HandS.own
  split
  · rename_i h
    obtain ⟨h0, h1⟩ := inB_true h
    simp only [List.length_replicate] at h1
    rw [List.getD_eq_getElem?_getD, List.getElem?_replicate, if_pos (by omega)]
    rfl
  · rfl
theorem tabfresh_state (n : Nat) (i : Int) : (TabS.fresh n).state i = 0 := by
  unfold TabS.state TabS.at_ TabS.fresh
  split
  · rw [List.getElem?_replicate]
    split <;> rfl
  · rfl
theorem memLaid_cnt (c : Cnf) (k : Nat) : (memLaid c k).count = 0 := by
  exact memLaid_count c k
theorem idle_fresh (c : Cnf) (hck : c.check = 0) : IdleK c 0 (CoreS.fresh c) := by
  obtain ⟨⟨hF0, hF1⟩, ⟨hS0, hS1⟩, ⟨hG0, hG1⟩, hT, -⟩ := Cnf.ranged (Cnf.check_zero hck).1
  have hwd : cWords c = c.frags * 8 + c.spine + c.spine + c.globals := by unfold cWords; rw [if_pos hck]
  have hah : cAhead c 3 = c.frags * 8 + c.spine + c.spine := by
    unfold cAhead
    rw [if_pos hck]
    simp [List.take, List.sum]
    omega
  have hz : (memLaid c c.globals.toNat).count = 0 := memLaid_cnt c _
  refine ⟨rfl, fun i => repl_own _ _ _ i, rfl, ?_, (show 0 < 2 by omega), rfl, rfl, rfl, fun i => tabfresh_state _ i, rfl, rfl, fun i h0 h1 => ?_, ⟨Int.le_refl _, Int.le_refl _⟩, ⟨Int.le_refl _, Int.le_refl _⟩, ⟨by show 0 ≤ (memLaid c c.globals.toNat).count; omega, by show (memLaid c c.globals.toNat).count ≤ 0; omega⟩, ⟨Int.le_refl _, Int.le_refl _⟩⟩
  · show (((List.replicate c.frags.toNat true).countP id : Nat) : Int) = c.frags
    rw [List.countP_replicate]
    simp
    omega
  · rw [hah]
    obtain ⟨j, hj⟩ := Int.eq_ofNat_of_zero_le (show 0 ≤ i + (c.frags * 8 + c.spine + c.spine) by omega)
    rw [hj]
    show inB (j : Int) (memLaid c c.globals.toNat).l.length = true ∧ wIndex ((memLaid c c.globals.toNat).peek (j : Int)) = none
    constructor
    · rw [memLaid_len]
      unfold inB
      have : ((cWords c).toNat : Int) = cWords c := by omega
      simp
      omega
    · rw [memLaid_peek c hck j (by omega), if_pos (by omega)]
      exact wIndex_none_word
theorem jd_fresh (c : Cnf) (hck : c.check = 0) : JD c 0 false (freshW c) := ⟨⟨idle_fresh c hck, rfl, rfl, rfl, rfl, ⟨Int.le_refl _, by show (0 : Int) ≤ 100000 * 0; decide⟩, ⟨Int.le_refl _, by show (0 : Int) ≤ 5000; decide⟩⟩, ⟨rfl, rfl⟩, ⟨rfl, rfl, rfl⟩⟩
theorem jw_force {c : Cnf} {n : Int} {s0 : Bool} {W : CyW} (h : JD c n s0 W) (hL : 2 * (5 * c.threads + c.frags + c.globals + 14) + 1 ≤ 100000) : JW c n s0 (5 * c.threads + c.frags + c.globals + 14) (W.spc (forceS W.K.sp)) :=
  ⟨(h.b.spc h.b.K.force).mono (by omega), .p0 h.p.1 h.p.2.1 h.p.2.2 rfl, ⟨fun _ => h.s, fun h2 => absurd h2 (by have := h.p.1; show ¬ 2 ≤ W.y.stage; omega)⟩, fun h7 => absurd h7 (by have := h.p.1; show ¬ W.y.stage = 7; omega), fun _ => rfl⟩
end Go.Proofs.YtnebimabokgofaaGreat

