import Derived.Test.YtcpeoflomdhidaaGreatKW11
/-
  Packed: CyC, Pures, HaulR, HaulT.
-/
open Go.Ext renaming alloc → zA, patch → zP, drew → zD, drewN → zN, more → zM, refl → zR, setCell → zS
open Nat renaming le_refl → zL, le_add_right → zK
/-
  cycle: turns, settles, sweeps, serves.
-/
namespace Go.Proofs.YtcpeoflomdhidaaGreat
open Go Go.RowKit
set_option linter.unusedVariables false
set_option linter.unnecessarySimpa false
set_option linter.unusedSimpArgs false
set_option maxHeartbeats 4000000
set_option maxRecDepth 100000
section
variable {g : GW} {t B b k : Nat} {W : CyW}
theorem CyIn.drop {tp hp : Option Addr} {bm bs bt bp bsp bh : Nat} {cm : Cnf} (H : CyIn g t B b k W tp hp bm bs bt bp bsp bh cm) (A : CyApart t B) : CyIn ⟨g.own, g.w.setCell ⟨b, 6, none⟩ (.pointer none)⟩ t B b k { W with h := none } tp none bm bs bt bp bsp bh cm := by
  have m : Mod (fun x => x = t) g ⟨g.own, g.w.setCell ⟨b, 6, none⟩ (.pointer none)⟩ := Mod.set H.y.blk.own
  refine ⟨⟨H.y.blk.set 6 (.pointer none), fun S hS => ?_, (fun _ => rfl), (fun S hS => by cases hS)⟩, H.c.keep m (fun x (hx : x = _) => by have := A.apart; omega)⟩
  obtain ⟨bt, cm, h1, h2, h3⟩ := H.y.tr S hS
  exact ⟨bt, cm, h1, h2, h3.keep m (by omega) (by omega)⟩
theorem cy_turns (A : CyApart t B) (hd : W.Bd) (H : CyWAt g t B b k W) : Calls Tryz.prog 101 #[.pointer (some ⟨b, 0, none⟩), .pointer (some ⟨k, 0, none⟩)] g.w (Does (.tuple #[]) g (cyT t B) (fun g' => CyWAt g' t B b k W.turns)) := by
  obtain ⟨tp, hp, bm, bs, bt, bp, bsp, bh, cm, H⟩ := H
  have HH := Lib.hid H
  have HD := Lib.hid hd
  by_cases h0 : W.y.at_ = 0
  · have HV := Lib.hid (show W.turns = (W.spc (turnS W.K.sp)).atY 2 by unfold CyW.turns; rw [if_pos h0])
    obtain ⟨a0, a1, a2, a3, a4, a5, a6, a7, a8, a9, a10, a11, a12, a13, al⟩ := H.y.blk.c14
    have af1 := H.y.blk.live 1
    (try simp only [GW.to] at a0 a1 a2 a3 a4 a5 a6 a7 a8 a9 a10 a11 a12 a13 af1 al)
    obtain ⟨c0, c1, c2, c3, c4, c5, c6, c7, c8, c9, c10, c11, c12, cl⟩ := H.c.blk.c13
    (try simp only [GW.to] at c0 c1 c2 c3 c4 c5 c6 c7 c8 c9 c10 c11 c12 cl)
    rw [h0] at a1
    clear H hd h0
    go_enter Tryz.func101, Tryz.ntmps101
    go_wp2_with fail
    refine (space_turn g B bsp bt W.K.sp HH.out.c.sp A.hb HD.out.sp).mono ?_
    rintro e w1 ⟨rfl, own1, m1, h1⟩
    have M1 := Lib.hid (m1.mono (S := cyT t B) (fun x hx => cyT_inst hx))
    have H1 := Lib.hid (HH.out.spc A m1 h1)
    clear a0 a1 a2 a3 a4 a5 a6 a7 a8 a9 a10 a11 a12 a13 af1 al c0 c1 c2 c3 c4 c5 c6 c7 c8 c9 c10 c11 c12 cl
    clear m1 h1
    have H2 := Lib.hid (H1.out.set A 1 (.int .i64 2) { W.y with at_ := 2 } rfl)
    obtain ⟨a0, a1, a2, a3, a4, a5, a6, a7, a8, a9, a10, a11, a12, a13, al⟩ := H1.out.y.blk.c14
    have af1 := H1.out.y.blk.live 1
    (try simp only [GW.to] at a0 a1 a2 a3 a4 a5 a6 a7 a8 a9 a10 a11 a12 a13 af1 al)
    go_wp2_with fail
    exact bodyPost_end (results_none rfl _ _ _) rfl (Does.of ⟨own1, w1.setCell ⟨b, 1, none⟩ (.int .i64 2)⟩ rfl rfl (Mod.st M1.out H1.out.modY) (by rw [HV.out]; exact H2.out.at_))
  by_cases h2 : W.y.at_ = 2
  · have HV := Lib.hid (show W.turns = (W.posts 4 false).atY 1 by unfold CyW.turns; rw [if_neg h0, if_pos h2])
    obtain ⟨a0, a1, a2, a3, a4, a5, a6, a7, a8, a9, a10, a11, a12, a13, al⟩ := H.y.blk.c14
    have af1 := H.y.blk.live 1
    (try simp only [GW.to] at a0 a1 a2 a3 a4 a5 a6 a7 a8 a9 a10 a11 a12 a13 af1 al)
    obtain ⟨c0, c1, c2, c3, c4, c5, c6, c7, c8, c9, c10, c11, c12, cl⟩ := H.c.blk.c13
    (try simp only [GW.to] at c0 c1 c2 c3 c4 c5 c6 c7 c8 c9 c10 c11 c12 cl)
    rw [h2] at a1
    clear H hd h0 h2
    go_enter Tryz.func101, Tryz.ntmps101
    go_wp2_with fail
    refine (hand_post g (B + 63) bh 4 false W.K.hand HH.out.c.hand HD.out.hand).mono ?_
    rintro e w1 ⟨rfl, own1, m1, h1⟩
    have M1 := Lib.hid (m1.mono (S := cyT t B) (fun x hx => cyT_hand hx))
    have H1 := Lib.hid (show CyIn ⟨own1, w1⟩ t B b k (W.posts 4 false) tp hp bm bs bt bp bsp bh cm from HH.out.hand A m1 h1)
    clear a0 a1 a2 a3 a4 a5 a6 a7 a8 a9 a10 a11 a12 a13 af1 al c0 c1 c2 c3 c4 c5 c6 c7 c8 c9 c10 c11 c12 cl
    clear m1 h1
    have H2 := Lib.hid (H1.out.set A 1 (.int .i64 1) { W.y with at_ := 1 } rfl)
    obtain ⟨a0, a1, a2, a3, a4, a5, a6, a7, a8, a9, a10, a11, a12, a13, al⟩ := H1.out.y.blk.c14
    have af1 := H1.out.y.blk.live 1
    (try simp only [GW.to] at a0 a1 a2 a3 a4 a5 a6 a7 a8 a9 a10 a11 a12 a13 af1 al)
    go_wp2_with fail
    exact bodyPost_end (results_none rfl _ _ _) rfl (Does.of ⟨own1, w1.setCell ⟨b, 1, none⟩ (.int .i64 1)⟩ rfl rfl (Mod.st M1.out H1.out.modY) (by rw [HV.out]; exact H2.out.at_))
  have hz0 : (W.y.at_ == 0) = false := beq_eq_false_iff_ne.2 h0
  have hz2 : (W.y.at_ == 2) = false := beq_eq_false_iff_ne.2 h2
  have HV := Lib.hid (show W.turns = if W.pollsB then { W.polls.ent 7 with h := none } else W.polls by unfold CyW.turns; rw [if_neg h0, if_neg h2])
  obtain ⟨a0, a1, a2, a3, a4, a5, a6, a7, a8, a9, a10, a11, a12, a13, al⟩ := H.y.blk.c14
  have af1 := H.y.blk.live 1
  (try simp only [GW.to] at a0 a1 a2 a3 a4 a5 a6 a7 a8 a9 a10 a11 a12 a13 af1 al)
  obtain ⟨c0, c1, c2, c3, c4, c5, c6, c7, c8, c9, c10, c11, c12, cl⟩ := H.c.blk.c13
  (try simp only [GW.to] at c0 c1 c2 c3 c4 c5 c6 c7 c8 c9 c10 c11 c12 cl)
  clear H hd h0 h2
  go_enter Tryz.func101, Tryz.ntmps101
  go_wp2_with fail
  refine (cy_polls A HD.out HH.out).mono ?_
  rintro e w1 ⟨rfl, own1, m1, h1⟩
  have M1 := Lib.hid m1
  have H1 := Lib.hid h1
  clear a0 a1 a2 a3 a4 a5 a6 a7 a8 a9 a10 a11 a12 a13 af1 al c0 c1 c2 c3 c4 c5 c6 c7 c8 c9 c10 c11 c12 cl
  clear m1 h1 hz0 hz2
  cases hp : W.pollsB
  · have HW := Lib.hid (show W.turns = W.polls by rw [HV.out, hp]; rfl)
    go_wp2_with fail
    exact bodyPost_end (results_none rfl _ _ _) rfl (Does.of ⟨own1, w1⟩ rfl rfl M1.out (by rw [HW.out]; exact H1.out.at_))
  · have HW := Lib.hid (show W.turns = { W.polls.ent 7 with h := none } by rw [HV.out, hp]; rfl)
    go_wp2_with fail
    refine (cy_enters A 7 H1.out).mono ?_
    rintro e w2 ⟨rfl, own2, m2, h2⟩
    have M2 := Lib.hid (M1.out.trans m2)
    have H2 := Lib.hid h2
    clear m2 h2
    have H3 := Lib.hid (H2.out.drop A)
    obtain ⟨a0, a1, a2, a3, a4, a5, a6, a7, a8, a9, a10, a11, a12, a13, al⟩ := H2.out.y.blk.c14
    have af6 := H2.out.y.blk.live 6
    (try simp only [GW.to] at a0 a1 a2 a3 a4 a5 a6 a7 a8 a9 a10 a11 a12 a13 af6 al)
    go_wp2_with fail
    exact bodyPost_end (results_none rfl _ _ _) rfl (Does.of ⟨own2, w2.setCell ⟨b, 6, none⟩ (.pointer none)⟩ rfl rfl (Mod.st M2.out H2.out.modY) (by rw [HW.out]; exact H3.out.at_))
theorem cy_settles (A : CyApart t B) (hd : W.Bd) (hk : W.y.at_ ≠ 0 → W.K.sp.coil.kept ≤ 0) (H : CyWAt g t B b k W) : Calls Tryz.prog 103 #[.pointer (some ⟨b, 0, none⟩), .pointer (some ⟨k, 0, none⟩)] g.w (Does (.tuple #[]) g (cyT t B) (fun g' => CyWAt g' t B b k W.settles)) := by
  obtain ⟨tp, hp, bm, bs, bt, bp, bsp, bh, cm, H⟩ := H
  have HH := Lib.hid H
  have HD := Lib.hid hd
  by_cases h0 : W.y.at_ = 0
  · have hz : (W.y.at_ == 0) = true := beq_iff_eq.2 h0
    have HV := Lib.hid (show W.settles = if W.pollsB then W.polls.atY 7 else W.polls by unfold CyW.settles; rw [if_pos h0])
    obtain ⟨a0, a1, a2, a3, a4, a5, a6, a7, a8, a9, a10, a11, a12, a13, al⟩ := H.y.blk.c14
    have af1 := H.y.blk.live 1
    (try simp only [GW.to] at a0 a1 a2 a3 a4 a5 a6 a7 a8 a9 a10 a11 a12 a13 af1 al)
    obtain ⟨c0, c1, c2, c3, c4, c5, c6, c7, c8, c9, c10, c11, c12, cl⟩ := H.c.blk.c13
    (try simp only [GW.to] at c0 c1 c2 c3 c4 c5 c6 c7 c8 c9 c10 c11 c12 cl)
    clear H hd h0 hk
    go_enter Tryz.func103, Tryz.ntmps103
    go_wp2_with fail
    refine (cy_polls A HD.out HH.out).mono ?_
    rintro e w1 ⟨rfl, own1, m1, h1⟩
    have M1 := Lib.hid m1
    have H1 := Lib.hid h1
    clear a0 a1 a2 a3 a4 a5 a6 a7 a8 a9 a10 a11 a12 a13 af1 al c0 c1 c2 c3 c4 c5 c6 c7 c8 c9 c10 c11 c12 cl
    clear m1 h1 hz
    cases hp : W.pollsB
    · have HW := Lib.hid (show W.settles = W.polls by rw [HV.out, hp]; rfl)
      go_wp2_with fail
      exact bodyPost_end (results_none rfl _ _ _) rfl (Does.of ⟨own1, w1⟩ rfl rfl M1.out (by rw [HW.out]; exact H1.out.at_))
    · have HW := Lib.hid (show W.settles = W.polls.atY 7 by rw [HV.out, hp]; rfl)
      have H2 := Lib.hid (H1.out.set A 1 (.int .i64 7) { W.polls.y with at_ := 7 } rfl)
      obtain ⟨a0, a1, a2, a3, a4, a5, a6, a7, a8, a9, a10, a11, a12, a13, al⟩ := H1.out.y.blk.c14
      have af1 := H1.out.y.blk.live 1
      (try simp only [GW.to] at a0 a1 a2 a3 a4 a5 a6 a7 a8 a9 a10 a11 a12 a13 af1 al)
      go_wp2_with fail
      exact bodyPost_end (results_none rfl _ _ _) rfl (Does.of ⟨own1, w1.setCell ⟨b, 1, none⟩ (.int .i64 7)⟩ rfl rfl (Mod.st M1.out H1.out.modY) (by rw [HW.out]; exact H2.out.at_))
  · have hz : (W.y.at_ == 0) = false := beq_eq_false_iff_ne.2 h0
    have HV := Lib.hid (show W.settles = (W.spc (doneS W.K.sp)).ent 9 by unfold CyW.settles; rw [if_neg h0])
    have HK := Lib.hid (hk h0)
    obtain ⟨a0, a1, a2, a3, a4, a5, a6, a7, a8, a9, a10, a11, a12, a13, al⟩ := H.y.blk.c14
    have af1 := H.y.blk.live 1
    (try simp only [GW.to] at a0 a1 a2 a3 a4 a5 a6 a7 a8 a9 a10 a11 a12 a13 af1 al)
    obtain ⟨c0, c1, c2, c3, c4, c5, c6, c7, c8, c9, c10, c11, c12, cl⟩ := H.c.blk.c13
    (try simp only [GW.to] at c0 c1 c2 c3 c4 c5 c6 c7 c8 c9 c10 c11 c12 cl)
    clear H hd h0 hk
    go_enter Tryz.func103, Tryz.ntmps103
    go_wp2_with fail
    refine (space_done g B bsp bt W.K.sp HH.out.c.sp A.hb HD.out.sp HK.out).mono ?_
    rintro e w1 ⟨rfl, own1, m1, h1⟩
    have M1 := Lib.hid (m1.mono (S := cyT t B) (fun x hx => cyT_inst hx))
    have H1 := Lib.hid (HH.out.spc A m1 h1)
    clear a0 a1 a2 a3 a4 a5 a6 a7 a8 a9 a10 a11 a12 a13 af1 al c0 c1 c2 c3 c4 c5 c6 c7 c8 c9 c10 c11 c12 cl
    clear m1 h1 hz
    go_wp2_with fail
    refine (cy_enters A 9 H1.out).mono ?_
    rintro e w2 ⟨rfl, own2, m2, h2⟩
    have M2 := Lib.hid (M1.out.trans m2)
    have H2 := Lib.hid h2
    clear m2 h2
    go_wp2_with fail
    exact bodyPost_end (results_none rfl _ _ _) rfl (Does.of ⟨own2, w2⟩ rfl rfl M2.out (by rw [HV.out]; exact H2.out.at_))
theorem cy_sweeps (A : CyApart t B) (hd : W.Bd) (H : CyWAt g t B b k W) : Calls Tryz.prog 104 #[.pointer (some ⟨b, 0, none⟩), .pointer (some ⟨k, 0, none⟩)] g.w (Does (.tuple #[]) g (cyT t B) (fun g' => CyWAt g' t B b k W.sweepsY)) := by
  obtain ⟨tp, hp, bm, bs, bt, bp, bsp, bh, cm, H⟩ := H
  have HH := Lib.hid H
  have HD := Lib.hid hd
  have HS := Lib.hid (fun X => space_sweep W.y.i W.y.sense (g.pt X) B bsp bt W.K.sp (H.pt X).c.sp A.hb hd.sp)
  obtain ⟨hi0, hi1⟩ := hd.i
  obtain ⟨hf0, hf1⟩ := hd.freed
  have hfr := H.c.same.frags
  obtain ⟨a0, a1, a2, a3, a4, a5, a6, a7, a8, a9, a10, a11, a12, a13, al⟩ := H.y.blk.c14
  have af1 := H.y.blk.live 1
  (try simp only [GW.to] at a0 a1 a2 a3 a4 a5 a6 a7 a8 a9 a10 a11 a12 a13 af1 al)
  obtain ⟨c0, c1, c2, c3, c4, c5, c6, c7, c8, c9, c10, c11, c12, cl⟩ := H.c.blk.c13
  (try simp only [GW.to] at c0 c1 c2 c3 c4 c5 c6 c7 c8 c9 c10 c11 c12 cl)
  clear H hd
  go_enter Tryz.func104, Tryz.ntmps104
  go_wp2_with fail
  refine wp_region_mixed [true, true, true, true, true, true, true, true, true, true, true, true, false] 1 12 (by kernel_rfl) (by kernel_rfl) (by kernel_rfl) ?_ (by decide) (by decide) (by decide) (by kernel_rfl) ?_
  · intro c a d v w h; cases d <;> exact h
  intro X00
  simp only [pickOps]
  repeat (go_big_quiet_step (fail))
  refine wpQuiet_nil (fun X0 => ?_)
  clear X00
  refine wpAnyM_tailL rfl (by kernel_rfl) (fun X2 => ?_)
  simp only [List.drop_succ_cons, List.drop_zero]
  go_wp2_with fail
  refine (HS.out _).mono ?_
  rintro e w1 ⟨rfl, own1, m1, h1⟩
  have P1 := (Mod.pt (Mod.refl _ _) _).trans m1
  have M1 := Lib.hid (P1.mono (S := cyT t B) (fun x hx => cyT_inst hx))
  have H1 := Lib.hid (HH.out.spc A P1 h1)
  have HFR := Lib.hid hfr
  clear a0 a1 a2 a3 a4 a5 a6 a7 a8 a9 a10 a11 a12 a13 af1 al c0 c1 c2 c3 c4 c5 c6 c7 c8 c9 c10 c11 c12 cl
  clear P1 m1 h1 HS hfr
  obtain ⟨F, hF⟩ : ∃ F : Int, F = (if sweeps W.K.sp W.y.i W.y.sense then W.y.freed + 1 else W.y.freed) := ⟨_, rfl⟩
  have H2 : ∃ g2 : GW, True := ⟨g, trivial⟩
  clear H2
  obtain ⟨a0, a1, a2, a3, a4, a5, a6, a7, a8, a9, a10, a11, a12, a13, al⟩ := H1.out.y.blk.c14
  have af2 := H1.out.y.blk.live 2
  have af10 := H1.out.y.blk.live 10
  (try simp only [GW.to] at a0 a1 a2 a3 a4 a5 a6 a7 a8 a9 a10 a11 a12 a13 af2 af10 al)
  have hw8 : (W.spc (sweepS W.K.sp W.y.i W.y.sense)).y = W.y := rfl
  rw [hw8] at a0 a1 a2 a3 a4 a7 a8 a9 a10 a11 a12 a13
  cases hsw : sweeps W.K.sp W.y.i W.y.sense
  · have HV := Lib.hid (show W.sweep1 = { W.spc (sweepS W.K.sp W.y.i W.y.sense) with y := { W.y with i := W.y.i + 1 } } by unfold CyW.sweep1 CyW.swept; rw [hsw]; rfl)
    have H3 := Lib.hid (H1.out.set A 2 (.int .i64 (W.y.i + 1)) { W.y with i := W.y.i + 1 } rfl)
    have M3 := Lib.hid (show Mod (cyT t B) g ⟨own1, w1.setCell ⟨b, 2, none⟩ (.int .i64 (W.y.i + 1))⟩ from Mod.st M1.out H1.out.modY)
    clear hsw hF
    go_upto_region 3 with fail
    generalize w1.setCell ⟨b, 2, none⟩ (.int .i64 (W.y.i + 1)) = w3 at *
    clear a0 a1 a2 a3 a4 a5 a6 a7 a8 a9 a10 a11 a12 a13 af2 af10 al H1 M1
    obtain ⟨a0, a1, a2, a3, a4, a5, a6, a7, a8, a9, a10, a11, a12, a13, al⟩ := H3.out.y.blk.c14
    (try simp only [GW.to] at a0 a1 a2 a3 a4 a5 a6 a7 a8 a9 a10 a11 a12 a13 al)
    obtain ⟨c0, c1, c2, c3, c4, c5, c6, c7, c8, c9, c10, c11, c12, cl⟩ := H3.out.c.blk.c13
    (try simp only [GW.to] at c0 c1 c2 c3 c4 c5 c6 c7 c8 c9 c10 c11 c12 cl)
    refine wp_region_mixed [true, true, true, true, true, true, true, true, true, true] 0 10 (by kernel_rfl) (by kernel_rfl) (by kernel_rfl) ?_ (by decide) (by decide) (by decide) (by kernel_rfl) ?_
    · intro c a d v w h; cases d <;> exact h
    intro X00
    simp only [pickOps]
    repeat (go_big_quiet_step (fail))
    refine wpQuiet_nil (fun X0 => ?_)
    clear X00
    refine wpAnyM_done (by kernel_rfl) (fun X0' => ?_) _
    (try go_simp)
    cases hlast : (W.y.i + 1 == cm.frags)
    · have HW := Lib.hid (show W.sweepsY = W.sweep1 by unfold CyW.sweepsY; rw [if_neg (by rw [← HFR.out]; exact beq_eq_false_iff_ne.1 hlast)])
      obtain ⟨own4, m4⟩ : ∃ own4, Mod (fun _ => False) ⟨own1, w3⟩ ⟨own4, w3.patch ⟨X0.blocks ++ X0'.blocks, X0'.drawn⟩⟩ := ⟨_, Mod.pt (Mod.refl _ _) _⟩
      generalize w3.patch ⟨X0.blocks ++ X0'.blocks, X0'.drawn⟩ = w4 at *
      have H4 := Lib.hid (H3.out.keep m4 (fun _ => False.elim) (fun _ => False.elim))
      have M4 := Lib.hid (M3.out.trans (m4.mono (S := cyT t B) (fun _ => False.elim)))
      go_wp2_with fail
      exact bodyPost_end (results_none rfl _ _ _) rfl (Does.of ⟨own4, w4⟩ rfl rfl M4.out (by rw [HW.out, HV.out]; exact H4.out.at_))
    · have HW := Lib.hid (show W.sweepsY = W.sweep1.ent 10 by unfold CyW.sweepsY; rw [if_pos (by rw [← HFR.out]; exact beq_iff_eq.1 hlast)])
      obtain ⟨own4, m4⟩ : ∃ own4, Mod (fun _ => False) ⟨own1, w3⟩ ⟨own4, w3.patch ⟨X0.blocks ++ X0'.blocks, X0'.drawn⟩⟩ := ⟨_, Mod.pt (Mod.refl _ _) _⟩
      generalize w3.patch ⟨X0.blocks ++ X0'.blocks, X0'.drawn⟩ = w4 at *
      have H4 := Lib.hid (H3.out.keep m4 (fun _ => False.elim) (fun _ => False.elim))
      have M4 := Lib.hid (M3.out.trans (m4.mono (S := cyT t B) (fun _ => False.elim)))
      clear a0 a1 a2 a3 a4 a5 a6 a7 a8 a9 a10 a11 a12 a13 al c0 c1 c2 c3 c4 c5 c6 c7 c8 c9 c10 c11 c12 cl m4 H3 M3
      go_wp2_with fail
      refine (cy_enters A 10 H4.out).mono ?_
      rintro e w5 ⟨rfl, own5, m5, h5⟩
      have M5 := Lib.hid (M4.out.trans m5)
      have H5 := Lib.hid h5
      clear m5 h5
      go_wp2_with fail
      exact bodyPost_end (results_none rfl _ _ _) rfl (Does.of ⟨own5, w5⟩ rfl rfl M5.out (by rw [HW.out, HV.out]; exact H5.out.at_))
  · have HV := Lib.hid (show W.sweep1 = { W.spc (sweepS W.K.sp W.y.i W.y.sense) with y := { W.y with freed := W.y.freed + 1, i := W.y.i + 1 } } by unfold CyW.sweep1 CyW.swept; rw [hsw]; rfl)
    have H3 := Lib.hid ((H1.out.set A 10 (.int .i64 (W.y.freed + 1)) { W.y with freed := W.y.freed + 1 } rfl).set A 2 (.int .i64 (W.y.i + 1)) { W.y with freed := W.y.freed + 1, i := W.y.i + 1 } rfl)
    have M3 := Lib.hid (show Mod (cyT t B) g ⟨own1, (w1.setCell ⟨b, 10, none⟩ (.int .i64 (W.y.freed + 1))).setCell ⟨b, 2, none⟩ (.int .i64 (W.y.i + 1))⟩ from Mod.st (Mod.st M1.out H1.out.modY) H1.out.modY)
    clear hsw hF
    go_upto_region 3 with fail
    generalize (w1.setCell ⟨b, 10, none⟩ (.int .i64 (W.y.freed + 1))).setCell ⟨b, 2, none⟩ (.int .i64 (W.y.i + 1)) = w3 at *
    clear a0 a1 a2 a3 a4 a5 a6 a7 a8 a9 a10 a11 a12 a13 af2 af10 al H1 M1
    obtain ⟨a0, a1, a2, a3, a4, a5, a6, a7, a8, a9, a10, a11, a12, a13, al⟩ := H3.out.y.blk.c14
    (try simp only [GW.to] at a0 a1 a2 a3 a4 a5 a6 a7 a8 a9 a10 a11 a12 a13 al)
    obtain ⟨c0, c1, c2, c3, c4, c5, c6, c7, c8, c9, c10, c11, c12, cl⟩ := H3.out.c.blk.c13
    (try simp only [GW.to] at c0 c1 c2 c3 c4 c5 c6 c7 c8 c9 c10 c11 c12 cl)
    refine wp_region_mixed [true, true, true, true, true, true, true, true, true, true] 0 10 (by kernel_rfl) (by kernel_rfl) (by kernel_rfl) ?_ (by decide) (by decide) (by decide) (by kernel_rfl) ?_
    · intro c a d v w h; cases d <;> exact h
    intro X00
    simp only [pickOps]
    repeat (go_big_quiet_step (fail))
    refine wpQuiet_nil (fun X0 => ?_)
    clear X00
    refine wpAnyM_done (by kernel_rfl) (fun X0' => ?_) _
    (try go_simp)
    cases hlast : (W.y.i + 1 == cm.frags)
    · have HW := Lib.hid (show W.sweepsY = W.sweep1 by unfold CyW.sweepsY; rw [if_neg (by rw [← HFR.out]; exact beq_eq_false_iff_ne.1 hlast)])
      obtain ⟨own4, m4⟩ : ∃ own4, Mod (fun _ => False) ⟨own1, w3⟩ ⟨own4, w3.patch ⟨X0.blocks ++ X0'.blocks, X0'.drawn⟩⟩ := ⟨_, Mod.pt (Mod.refl _ _) _⟩
      generalize w3.patch ⟨X0.blocks ++ X0'.blocks, X0'.drawn⟩ = w4 at *
      have H4 := Lib.hid (H3.out.keep m4 (fun _ => False.elim) (fun _ => False.elim))
      have M4 := Lib.hid (M3.out.trans (m4.mono (S := cyT t B) (fun _ => False.elim)))
      go_wp2_with fail
      exact bodyPost_end (results_none rfl _ _ _) rfl (Does.of ⟨own4, w4⟩ rfl rfl M4.out (by rw [HW.out, HV.out]; exact H4.out.at_))
    · have HW := Lib.hid (show W.sweepsY = W.sweep1.ent 10 by unfold CyW.sweepsY; rw [if_pos (by rw [← HFR.out]; exact beq_iff_eq.1 hlast)])
      obtain ⟨own4, m4⟩ : ∃ own4, Mod (fun _ => False) ⟨own1, w3⟩ ⟨own4, w3.patch ⟨X0.blocks ++ X0'.blocks, X0'.drawn⟩⟩ := ⟨_, Mod.pt (Mod.refl _ _) _⟩
      generalize w3.patch ⟨X0.blocks ++ X0'.blocks, X0'.drawn⟩ = w4 at *
      have H4 := Lib.hid (H3.out.keep m4 (fun _ => False.elim) (fun _ => False.elim))
      have M4 := Lib.hid (M3.out.trans (m4.mono (S := cyT t B) (fun _ => False.elim)))
      clear a0 a1 a2 a3 a4 a5 a6 a7 a8 a9 a10 a11 a12 a13 al c0 c1 c2 c3 c4 c5 c6 c7 c8 c9 c10 c11 c12 cl m4 H3 M3
      go_wp2_with fail
      refine (cy_enters A 10 H4.out).mono ?_
      rintro e w5 ⟨rfl, own5, m5, h5⟩
      have M5 := Lib.hid (M4.out.trans m5)
      have H5 := Lib.hid h5
      clear m5 h5
      go_wp2_with fail
      exact bodyPost_end (results_none rfl _ _ _) rfl (Does.of ⟨own5, w5⟩ rfl rfl M5.out (by rw [HW.out, HV.out]; exact H5.out.at_))
theorem cy_serves (A : CyApart t B) (hd : W.Bd) (hl : ∀ e ∈ W.K.sp.line, (0 ≤ e.cycles ∧ e.cycles ≤ 1099511627776) ∧ e.fair) (H : CyWAt g t B b k W) : Calls Tryz.prog 105 #[.pointer (some ⟨b, 0, none⟩), .pointer (some ⟨k, 0, none⟩)] g.w (Does (.tuple #[]) g (cyT t B) (fun g' => CyWAt g' t B b k W.serves)) := by
  obtain ⟨tp, hp, bm, bs, bt, bp, bsp, bh, cm, H⟩ := H
  have HH := Lib.hid H
  have HD := Lib.hid hd
  by_cases h0 : W.y.at_ = 0
  · have hz : (W.y.at_ == 0) = true := beq_iff_eq.2 h0
    have HV := Lib.hid (show W.serves = (W.spc (endS W.K.sp)).atY 7 by unfold CyW.serves; rw [if_pos h0])
    have HE := Lib.hid (space_end g B bsp bt W.K.sp H.c.sp A.hb hd.sp (fun e he => (hl e he).1))
    obtain ⟨a0, a1, a2, a3, a4, a5, a6, a7, a8, a9, a10, a11, a12, a13, al⟩ := H.y.blk.c14
    have af1 := H.y.blk.live 1
    (try simp only [GW.to] at a0 a1 a2 a3 a4 a5 a6 a7 a8 a9 a10 a11 a12 a13 af1 al)
    obtain ⟨c0, c1, c2, c3, c4, c5, c6, c7, c8, c9, c10, c11, c12, cl⟩ := H.c.blk.c13
    (try simp only [GW.to] at c0 c1 c2 c3 c4 c5 c6 c7 c8 c9 c10 c11 c12 cl)
    clear H hd h0 hl
    go_enter Tryz.func105, Tryz.ntmps105
    go_wp2_with fail
    refine HE.out.mono ?_
    rintro e w1 ⟨rfl, own1, m1, h1⟩
    have M1 := Lib.hid (m1.mono (S := cyT t B) (fun x hx => cyT_inst hx))
    have H1 := Lib.hid (HH.out.spc A m1 h1)
    clear a0 a1 a2 a3 a4 a5 a6 a7 a8 a9 a10 a11 a12 a13 af1 al c0 c1 c2 c3 c4 c5 c6 c7 c8 c9 c10 c11 c12 cl
    clear m1 h1 hz
    have H2 := Lib.hid (H1.out.set A 1 (.int .i64 7) { W.y with at_ := 7 } rfl)
    obtain ⟨a0, a1, a2, a3, a4, a5, a6, a7, a8, a9, a10, a11, a12, a13, al⟩ := H1.out.y.blk.c14
    have af1 := H1.out.y.blk.live 1
    (try simp only [GW.to] at a0 a1 a2 a3 a4 a5 a6 a7 a8 a9 a10 a11 a12 a13 af1 al)
    go_wp2_with fail
    exact bodyPost_end (results_none rfl _ _ _) rfl (Does.of ⟨own1, w1.setCell ⟨b, 1, none⟩ (.int .i64 7)⟩ rfl rfl (Mod.st M1.out H1.out.modY) (by rw [HV.out]; exact H2.out.at_))
  · have hz : (W.y.at_ == 0) = false := beq_eq_false_iff_ne.2 h0
    have HS := Lib.hid (fun X => space_serve W.y.sense (g.pt X) B bsp bt W.K.sp (H.pt X).c.sp A.hb hd.sp (fun e he => (hl e he).2))
    obtain ⟨hf0, hf1⟩ := hd.finished
    obtain ⟨a0, a1, a2, a3, a4, a5, a6, a7, a8, a9, a10, a11, a12, a13, al⟩ := H.y.blk.c14
    have af1 := H.y.blk.live 1
    (try simp only [GW.to] at a0 a1 a2 a3 a4 a5 a6 a7 a8 a9 a10 a11 a12 a13 af1 al)
    obtain ⟨c0, c1, c2, c3, c4, c5, c6, c7, c8, c9, c10, c11, c12, cl⟩ := H.c.blk.c13
    (try simp only [GW.to] at c0 c1 c2 c3 c4 c5 c6 c7 c8 c9 c10 c11 c12 cl)
    clear H hd hl
    go_enter Tryz.func105, Tryz.ntmps105
    go_wp2_with fail
    refine wp_region_mixed [true, true, true, true, true, true, true, true, false, false] 2 8 (by kernel_rfl) (by kernel_rfl) (by kernel_rfl) ?_ (by decide) (by decide) (by decide) (by kernel_rfl) ?_
    · intro c a d v w h; cases d <;> exact h
    intro X00
    simp only [pickOps]
    repeat (go_big_quiet_step (fail))
    refine wpQuiet_nil (fun X0 => ?_)
    clear X00
    refine wpAnyM_tailL rfl (by kernel_rfl) (fun X2 => ?_)
    simp only [List.drop_succ_cons, List.drop_zero]
    go_wp2_with fail
    refine (HS.out _).mono ?_
    rintro e w1 ⟨rfl, own1, m1, h1⟩
    have P1 := (Mod.pt (Mod.refl _ _) _).trans m1
    have M1 := Lib.hid (P1.mono (S := cyT t B) (fun x hx => cyT_inst hx))
    have H1 := Lib.hid (HH.out.spc A P1 h1)
    clear a0 a1 a2 a3 a4 a5 a6 a7 a8 a9 a10 a11 a12 a13 af1 al c0 c1 c2 c3 c4 c5 c6 c7 c8 c9 c10 c11 c12 cl
    clear P1 m1 h1 hz HS
    cases hs : (serve W.K.sp W.y.sense).1
    · have HV := Lib.hid (show W.serves = CyW.ent { W.spc (serve W.K.sp W.y.sense).2 with y := { W.y with finished := W.y.finished + 1 } } 0 by unfold CyW.serves; rw [if_neg h0]; simp only [hs]; rfl)
      have H2 := Lib.hid (H1.out.set A 9 (.int .i64 (W.y.finished + 1)) { W.y with finished := W.y.finished + 1 } rfl)
      have M2 := Lib.hid (show Mod (cyT t B) g ⟨own1, w1.setCell ⟨b, 9, none⟩ (.int .i64 (W.y.finished + 1))⟩ from Mod.st M1.out H1.out.modY)
      obtain ⟨a0, a1, a2, a3, a4, a5, a6, a7, a8, a9, a10, a11, a12, a13, al⟩ := H1.out.y.blk.c14
      have af9 := H1.out.y.blk.live 9
      (try simp only [GW.to] at a0 a1 a2 a3 a4 a5 a6 a7 a8 a9 a10 a11 a12 a13 af9 al)
      have hw8 : (W.spc (serve W.K.sp W.y.sense).2).y = W.y := rfl
      rw [hw8] at a0 a1 a2 a3 a4 a7 a8 a9 a10 a11 a12 a13
      clear h0
      go_wp2_with fail
      refine (cy_enters A 0 H2.out).mono ?_
      rintro e w2 ⟨rfl, own2, m2, h2⟩
      have M3 := Lib.hid (M2.out.trans m2)
      have H3 := Lib.hid h2
      clear m2 h2
      go_wp2_with fail
      exact bodyPost_end (results_none rfl _ _ _) rfl (Does.of ⟨own2, w2⟩ rfl rfl M3.out (by rw [HV.out]; exact H3.out.at_))
    · have HV := Lib.hid (show W.serves = W.spc (serve W.K.sp W.y.sense).2 by unfold CyW.serves; rw [if_neg h0]; simp only [hs]; rfl)
      clear h0
      go_wp2_with fail
      exact bodyPost_end (results_none rfl _ _ _) rfl (Does.of ⟨own1, w1⟩ rfl rfl M1.out (by rw [HV.out]; exact H1.out.at_))
end
end Go.Proofs.YtcpeoflomdhidaaGreat

/-
  A region that draws: calm ones, one that writes, then step by step. No program here.
-/
namespace Go
section
variable {P : Program} {ops : Array Oper} {Q : Exit → Act → World → Prop} {md : Region.Mode} {w0 : World}
theorem wpAny_pure_step {v : Value} {fuel : Nat} {listed : Array Bool} {a : Act} {w : World} (i : Nat) (o : Oper) (ho : ops[i]? = some o) (hs : Region.noSelect ops = true) (hf : Region.free md ops listed i = true) (hr : (Region.ready md ops listed).contains i = true)
    (hQ : ∀ (c : List PanicEntry) (a : Act) (d : Option Tmp) (v : Value) (w : World), Q (.panic c) (a.put d v) w → Q (.panic c) a w) (hg : o.guard = none) (hv : ∀ w, (execOp a.eval o).run P w = .ok (.value v) w) (h : wpAny P md ops Q fuel (listed.setIfInBounds i true) (a.put o.dst v) w) : wpAny P md ops Q (fuel + 1) listed a w :=
  wpAny_take ho hs hf hr (fun c a w h => hQ c a _ _ w h) (Or.inl ⟨by simp [Region.wanted, hg], hv⟩) h
theorem wpAny_loud_step {fuel : Nat} {listed : Array Bool} {a : Act} {w : World} (i : Nat) (o : Oper) (hr : Region.ready md ops listed = [i]) (ho : ops[i]? = some o) (hg : o.guard = none)
    (h : ∀ K : Act → World → Prop, ∀ Q' : Exit → Act → World → Prop, (∀ a' w', wpAny P md ops Q fuel (listed.setIfInBounds i true) a' w' → K a' w') → o.wp P a w K Q') : wpAny P md ops Q (fuel + 1) listed a w := by
  refine wpAny_all hr (by simp) (fun j hj => ?_)
  simp only [List.mem_cons, List.not_mem_nil, or_false] at hj
  subst hj
  unfold wpOp
  simp only [ho, Region.wanted, hg, if_true]
  exact .inl (h _ Q fun a2 w2 h4 => h4)
theorem wp_region_split_any {id : Nat} {a : Act} {w : World} {l : List Oper} (E : List Nat) (m : List Bool) (L : Nat) (o : Oper) (n2 : Nat) (hm : P.follows .mixedOrders = true) (hs : Region.noSelect l.toArray = true) (hE : movesOk .any l.toArray E (Array.replicate l.length false) = true) (hLast : Region.lastE .any l.toArray E L = true) (hQ : ∀ (c : List PanicEntry) (a : Act) (d : Option Tmp) (v : Value) (w : World), Q (.panic c) (a.put d v) w → Q (.panic c) a w)
    (hlen : m.length ≤ l.length) (hn : n2 + 1 + countB m + E.length = l.length) (hM : maskBut L m 0 = true) (hB : lexMask .any l.toArray m 0 (movesList E (Array.replicate l.length false)) = true)
    (hr : Region.ready .any l.toArray (markOps m 0 (movesList E (Array.replicate l.length false))) = [L]) (ho : l[L]? = some o) (hg : o.guard = none)
    (h : ∀ X00 : Extra, wpQuiet P l.toArray (fun w' => ∃ X : Extra, w' = w.patch ⟨X00.blocks ++ X.blocks, X.drawn⟩) (fun a' => ∀ X, ∀ K : Act → World → Prop, ∀ Q' : Exit → Act → World → Prop,
      (∀ a2 w2, wpAny P .any l.toArray Q n2 ((markOps m 0 (movesList E (Array.replicate l.length false))).setIfInBounds L true) a2 w2 → K a2 w2) → o.wp P a' (w.patch X) K Q') (pickOps m l) (movesAct l.toArray E a)) : (Code.region id l.toArray true).wp P Q a w := by
  obtain ⟨c1, c2⟩ := closed_moves (md := .any) (ops := l.toArray) E _ (Closed.start _ (by simp)) hE
  obtain ⟨X, hX⟩ := Ext.drew (Ext.refl w)
  have h2 : wpCalm P l.toArray w (fun a' => ∀ X, wpAnyM P .any l.toArray Q w L (n2 + 1) (markOps m 0 (movesList E (Array.replicate l.length false))) a' (w.patch X)) (pickOps m l) (movesAct l.toArray E a) := by
    refine wpCalm_mono (fun a' h3 X => ?_) _ _ (wpCalm_of_quiet _ _ h)
    rintro w1 ⟨Y, rfl⟩
    refine ⟨fun h0 => (by rw [hr] at h0; cases h0), fun j hj => ?_⟩
    rw [hr] at hj
    simp only [List.mem_singleton] at hj
    subst hj
    refine ⟨fun h0 => by omega, fun _ => ?_⟩
    obtain ⟨Z, hZ⟩ := (show Ext w ((w.patch X).patch Y) from Ext.trans ⟨X, rfl⟩ ⟨Y, rfl⟩)
    rw [hZ]
    have ho' : l.toArray[j]? = some o := by simpa using ho
    unfold wpOp
    simp only [ho', Region.wanted, hg, if_true]
    exact .inl (h3 Z _ Q fun a2 w2 h4 => h4)
  have h5 := wpAnyM_lexE (md := .any) hLast hs hQ (n2 + 1) m l 0 _ _ c1 (fun i hi => c2 i (Or.inr hi)) (by simp) hlen hB hM h2 X
  rw [← hX] at h5
  refine wp_region_any hm ?_
  have h6 := wpAny_moves (md := .any) hs hQ E (n2 + 1 + countB m) _ a _ hE (wpAny_of_M (w0 := w) (L := L) _ _ _ _ h5)
  simpa [hn] using h6
end
end Go

/-
  Merged: XHaulC, XHaulR.
-/
/-
  haul: the steps that copy a spine, or pass it.
-/
namespace Go
section
variable {P : Program} {a : Act} {w : World} {Q : Exit → Act → World → Prop}
theorem wp_scope_via2 {c r0 r1 : Code} (l0 l1 : Nat) (h0 : findLabel c l0 = some r0) (h1 : findLabel c l1 = some r1) (first : c.wp P (Exit.via P Q [(l0, r0), (l1, r1)]) a w) : (Code.scope c).wp P Q a w :=
  wp_scope_via [(l0, r0), (l1, r1)] (by
    intro p hp
    simp only [List.mem_cons, List.not_mem_nil, or_false] at hp
    rcases hp with rfl | rfl
    · exact h0
    · exact h1) first
end
end Go
namespace Go.Proofs.YtcpeoflomdhidaaGreat
open Go Go.RowKit
set_option linter.unusedVariables false
set_option linter.unnecessarySimpa false
set_option linter.unusedSimpArgs false
set_option maxHeartbeats 1500000
set_option maxRecDepth 100000
end Go.Proofs.YtcpeoflomdhidaaGreat
/-
  haul: a slot is read. The whole step.
-/
namespace Go.Proofs.YtcpeoflomdhidaaGreat
open Go Go.RowKit
set_option linter.unusedVariables false
set_option linter.unnecessarySimpa false
set_option linter.unusedSimpArgs false
set_option maxHeartbeats 1500000
set_option maxRecDepth 100000
end Go.Proofs.YtcpeoflomdhidaaGreat

/-
  haul: does, Step.
-/
namespace Go.Proofs.YtcpeoflomdhidaaGreat
open Go Go.RowKit
set_option linter.unusedVariables false
set_option linter.unnecessarySimpa false
set_option linter.unusedSimpArgs false
set_option maxHeartbeats 1500000
set_option maxRecDepth 100000
theorem haul_does (g : GW) (t b bm bs bk : Nat) (S : HaulS) (T : Nat → Prop) (R : GW → Prop) (h : HaulAt g t b S) (hck : S.c.check = 0) (hfr : S.frm = 0 ∨ S.frm = 1) (hfin : 0 ≤ S.fin ∧ S.fin ≤ S.c.spine)
    (hL : S.pc < 4 → ∀ g', Mod (fun _ => False) g g' → HaulAt g' t b S → Calls Tryz.prog 294 #[.pointer (some ⟨b, 0, none⟩), .pointer (some ⟨bm, 0, none⟩), .pointer (some ⟨bs, 0, none⟩)] g'.w (Does (.bool true) g' T R))
    (hC : 4 ≤ S.pc → ∀ g', Mod (fun _ => False) g g' → HaulAt g' t b S → Calls Tryz.prog 295 #[.pointer (some ⟨b, 0, none⟩), .pointer (some ⟨bm, 0, none⟩), .pointer (some ⟨bk, 0, none⟩)] g'.w (Does (.bool true) g' T R)) :
    Calls Tryz.prog 258 #[.pointer (some ⟨b, 0, none⟩), .pointer (some ⟨bm, 0, none⟩), .pointer (some ⟨bs, 0, none⟩), .pointer (some ⟨bk, 0, none⟩)] g.w (Does (.bool true) g T R) := by
  have k0 := h.blk.cell (i := 0) rfl
  have k1 := h.blk.cell (i := 1) rfl
  have k2 := h.blk.cell (i := 2) rfl
  have k3 := h.blk.cell (i := 3) rfl
  have k4 := h.blk.cell (i := 4) rfl
  have k5 := h.blk.cell (i := 5) rfl
  have k6 := h.blk.cell (i := 6) rfl
  have k7 := h.blk.cell (i := 7) rfl
  have k8 := h.blk.cell (i := 8) rfl
  have c9 := h.blk.cell (i := 9) rfl
  have c10 := h.blk.cell (i := 10) rfl
  have c12 := h.blk.cell (i := 12) rfl
  have hl := h.blk.lt
  have HCK := Lib.hid (fun X => show Calls Tryz.prog 44 #[S.c.val] (g.w.patch X) (Gives (.int .i64 0) (g.w.patch X)) from by
    have h1 := check_any S.c (g.w.patch X) (h.cnf.ok.ext ⟨X, rfl⟩)
    rw [hck] at h1
    exact h1)
  unfold Cnf.val at HCK
  have H := Lib.hid h
  obtain ⟨hf0, hf1⟩ := hfin
  have d1 : decide (S.fin < 0) = false := decide_eq_false (by omega)
  have d2 : decide (S.c.spine < S.fin) = false := decide_eq_false (by omega)
  have HL := Lib.hid hL
  have HC := Lib.hid hC
  clear h hck hL hC
  by_cases hpc : S.pc < 4
  · have d3 : decide (S.pc < 4) = true := decide_eq_true hpc
    have HLL := Lib.hid (fun Y => HL.out hpc (g.pt Y) (Mod.pt (Mod.refl _ g) Y) (H.out.keep (Mod.pt (Mod.refl (fun _ => False) g) Y) id id))
    clear HL HC hpc
    rcases hfr with hfr | hfr
    all_goals
      rw [hfr] at c9
      clear hfr
      go_enter Tryz.func258, Tryz.ntmps258
      go_wp2_with fail
      refine wp_region_mixed [true, true, true, true, true, true, true, true, true, true, true, true, true, true, true, true, true, true, true, true, true, true, true, true, true, true, true, true, true, true, true, true, true, true, true, true, true, true, true, true] 0 40 (by kernel_rfl) (by kernel_rfl) (by kernel_rfl) ?_ (by decide) (by decide) (by decide) (by kernel_rfl) ?_
      · intro c a d v w h; cases d <;> exact h
      intro X00
      simp only [pickOps]
      repeat (go_big_quiet_step (exact Calls.added (HCK.out _)))
      refine wpQuiet_nil (fun X0 => ?_)
      clear X00
      refine wpAnyM_done (by kernel_rfl) (fun X0' => ?_) _
      obtain ⟨Y, hY⟩ := (show Ext g.w ((g.w.patch X0).patch X0') from Ext.trans ⟨X0, rfl⟩ ⟨X0', rfl⟩)
      rw [hY]
      clear hY
      go_wp2_with fail
      refine (HLL.out Y).mono ?_
      rintro e w1 ⟨rfl, own1, m1, r1⟩
      have M1 := Lib.hid m1
      have R1 := Lib.hid r1
      clear m1 r1
      go_wp2_with fail
      go_ret
      exact ⟨rfl, own1, (Mod.pt (Mod.refl T g) Y).trans M1.out, R1.out⟩
  · have d3 : decide (S.pc < 4) = false := decide_eq_false hpc
    have HLL := Lib.hid (fun Y => HC.out (by omega) (g.pt Y) (Mod.pt (Mod.refl _ g) Y) (H.out.keep (Mod.pt (Mod.refl (fun _ => False) g) Y) id id))
    clear HL HC hpc
    rcases hfr with hfr | hfr
    all_goals
      rw [hfr] at c9
      clear hfr
      go_enter Tryz.func258, Tryz.ntmps258
      go_wp2_with fail
      refine wp_region_mixed [true, true, true, true, true, true, true, true, true, true, true, true, true, true, true, true, true, true, true, true, true, true, true, true, true, true, true, true, true, true, true, true, true, true, true, true, true, true, true, true] 0 40 (by kernel_rfl) (by kernel_rfl) (by kernel_rfl) ?_ (by decide) (by decide) (by decide) (by kernel_rfl) ?_
      · intro c a d v w h; cases d <;> exact h
      intro X00
      simp only [pickOps]
      repeat (go_big_quiet_step (exact Calls.added (HCK.out _)))
      refine wpQuiet_nil (fun X0 => ?_)
      clear X00
      refine wpAnyM_done (by kernel_rfl) (fun X0' => ?_) _
      obtain ⟨Y, hY⟩ := (show Ext g.w ((g.w.patch X0).patch X0') from Ext.trans ⟨X0, rfl⟩ ⟨X0', rfl⟩)
      rw [hY]
      clear hY
      go_wp2_with fail
      refine (HLL.out Y).mono ?_
      rintro e w1 ⟨rfl, own1, m1, r1⟩
      have M1 := Lib.hid m1
      have R1 := Lib.hid r1
      clear m1 r1
      go_wp2_with fail
      go_ret
      exact ⟨rfl, own1, (Mod.pt (Mod.refl T g) Y).trans M1.out, R1.out⟩
theorem haul_step (g : GW) (t b bm bs bk : Nat) (S S' : HaulS) (T : Nat → Prop) (R : GW → Prop) (h : HaulAt g t b S) (hpc : S.pc ≠ 11) (hs : 0 ≤ S.steps ∧ S.steps ≤ 1099511627776) (hT : T t)
    (hD : ∀ g', Mod (fun x => x = t) g g' → HaulAt g' t b { S with steps := S.steps + 1 } → Calls Tryz.prog 258 #[.pointer (some ⟨b, 0, none⟩), .pointer (some ⟨bm, 0, none⟩), .pointer (some ⟨bs, 0, none⟩), .pointer (some ⟨bk, 0, none⟩)] g'.w (Does (.bool true) g' T (fun g'' => HaulAt g'' t b S' ∧ R g''))) :
    Calls Tryz.prog 193 #[.pointer (some ⟨b, 0, none⟩), .pointer (some ⟨bm, 0, none⟩), .pointer (some ⟨bs, 0, none⟩), .pointer (some ⟨bk, 0, none⟩)] g.w (Does (.bool (S'.pc == 11)) g T (fun g'' => HaulAt g'' t b S' ∧ R g'')) := by
  have c12 := h.blk.cell (i := 12) rfl
  have c21 := h.blk.cell (i := 21) rfl
  have f21 := h.blk.live 21
  have hl := h.blk.lt
  have hpb : (S.pc == 11) = false := beq_eq_false_iff_ne.2 hpc
  obtain ⟨hs0, hs1⟩ := hs
  have e1 := IntWalk.i64_in (S.steps + 1) (by omega)
  have HO := Lib.hid h.blk.own
  have M1 := Lib.hid (show Mod (fun x => x = t) g ⟨g.own, g.w.setCell ⟨b, 21, none⟩ (.int .i64 (S.steps + 1))⟩ from Mod.st Mod.self HO.out)
  have HB := Lib.hid (hD ⟨g.own, g.w.setCell ⟨b, 21, none⟩ (.int .i64 (S.steps + 1))⟩ M1.out (h.st 21 (.int .i64 (S.steps + 1)) { S with steps := S.steps + 1 } rfl rfl))
  have HT := Lib.hid hT
  clear h hD hT hpc
  go_enter Tryz.func193, Tryz.ntmps193
  go_wp2_with fail
  refine HB.out.mono ?_
  rintro e w1 ⟨rfl, own1, m1, r1, r2⟩
  have M2 := Lib.hid m1
  have R1 := Lib.hid r1
  have R2 := Lib.hid r2
  clear m1 r1 r2 c12 c21 f21 hl
  have c12 := R1.out.blk.cell (i := 12) rfl
  have hl := R1.out.blk.lt
  simp only at c12 hl
  go_wp2_with fail
  go_ret
  exact ⟨rfl, own1, (M1.out.mono (fun x hx => hx ▸ HT.out)).trans M2.out, R1.out, R2.out⟩
end Go.Proofs.YtcpeoflomdhidaaGreat

