import Derived.Test.YtnebimabokgofaaGreatMgCyA
/-
  cycle: hands, starts, turns, settles, sweeps, serves.
-/
namespace Go.Proofs.YtnebimabokgofaaGreat
open Go Go.RowKit
set_option linter.unusedVariables false
set_option linter.unnecessarySimpa false
set_option linter.unusedSimpArgs false
set_option maxHeartbeats 4000000
set_option maxRecDepth 100000
section
variable {g : GW} {t B b k : Nat} {W : CyW}
theorem CyIn.at_ {tp hp : Option Addr} {bm bs bt bp bsp bh : Nat} {cm : Cnf} (H : CyIn g t B b k W tp hp bm bs bt bp bsp bh cm) : CyWAt g t B b k W := ⟨tp, hp, bm, bs, bt, bp, bsp, bh, cm, H⟩
theorem cy_hands (A : CyApart t B) (hd : W.Bd) (status stage : Int) (H : CyWAt g t B b k W) : Calls Tryz.prog 66 #[.pointer (some ⟨b, 0, none⟩), .pointer (some ⟨k, 0, none⟩), .int .i64 status, .int .i64 stage] g.w (Does (.tuple #[]) g (cyT t B) (fun g' => CyWAt g' t B b k (W.hands status stage))) := by
  obtain ⟨tp, hp, bm, bs, bt, bp, bsp, bh, cm, H⟩ := H
  have HH := Lib.hid H
  have HD := Lib.hid hd
  by_cases h0 : W.y.at_ = 0
  · have hz : (W.y.at_ == 0) = true := beq_iff_eq.2 h0
    have HV := Lib.hid (show W.hands status stage = if W.pollsB then W.polls.atY 2 else W.polls by unfold CyW.hands; rw [if_pos h0])
    have a0 := H.y.blk.cell (i := 0) rfl
    have a1 := H.y.blk.cell (i := 1) rfl
    have a2 := H.y.blk.cell (i := 2) rfl
    have a3 := H.y.blk.cell (i := 3) rfl
    have a4 := H.y.blk.cell (i := 4) rfl
    have a5 := H.y.blk.cell (i := 5) rfl
    have a6 := H.y.blk.cell (i := 6) rfl
    have a7 := H.y.blk.cell (i := 7) rfl
    have a8 := H.y.blk.cell (i := 8) rfl
    have a9 := H.y.blk.cell (i := 9) rfl
    have a10 := H.y.blk.cell (i := 10) rfl
    have a11 := H.y.blk.cell (i := 11) rfl
    have a12 := H.y.blk.cell (i := 12) rfl
    have a13 := H.y.blk.cell (i := 13) rfl
    have af1 := H.y.blk.live 1
    have al := H.y.blk.lt
    (try simp only [GW.to] at a0 a1 a2 a3 a4 a5 a6 a7 a8 a9 a10 a11 a12 a13 af1 al)
    have c0 := H.c.blk.cell (i := 0) rfl
    have c1 := H.c.blk.cell (i := 1) rfl
    have c2 := H.c.blk.cell (i := 2) rfl
    have c3 := H.c.blk.cell (i := 3) rfl
    have c4 := H.c.blk.cell (i := 4) rfl
    have c5 := H.c.blk.cell (i := 5) rfl
    have c6 := H.c.blk.cell (i := 6) rfl
    have c7 := H.c.blk.cell (i := 7) rfl
    have c8 := H.c.blk.cell (i := 8) rfl
    have c9 := H.c.blk.cell (i := 9) rfl
    have c10 := H.c.blk.cell (i := 10) rfl
    have c11 := H.c.blk.cell (i := 11) rfl
    have c12 := H.c.blk.cell (i := 12) rfl
    have cl := H.c.blk.lt
    (try simp only [GW.to] at c0 c1 c2 c3 c4 c5 c6 c7 c8 c9 c10 c11 c12 cl)
    clear H hd h0
    go_enter Tryz.func66, Tryz.ntmps66
    go_wp2_with fail
    refine (cy_polls A HD.out HH.out).mono ?_
    rintro e w1 ⟨rfl, own1, m1, h1⟩
    have M1 := Lib.hid m1
    have H1 := Lib.hid h1
    clear a0 a1 a2 a3 a4 a5 a6 a7 a8 a9 a10 a11 a12 a13 af1 al c0 c1 c2 c3 c4 c5 c6 c7 c8 c9 c10 c11 c12 cl
    clear m1 h1 hz
    cases hp : W.pollsB
    · have HW := Lib.hid (show W.hands status stage = W.polls by rw [HV.out, hp]; rfl)
      go_wp2_with fail
      exact bodyPost_end (results_none rfl _ _ _) rfl (Does.of ⟨own1, w1⟩ rfl rfl M1.out (by rw [HW.out]; exact H1.out.at_))
    · have HW := Lib.hid (show W.hands status stage = W.polls.atY 2 by rw [HV.out, hp]; rfl)
      have H2 := Lib.hid (H1.out.set A 1 (.int .i64 2) { W.polls.y with at_ := 2 } rfl)
      have a0 := H1.out.y.blk.cell (i := 0) rfl
      have a1 := H1.out.y.blk.cell (i := 1) rfl
      have a2 := H1.out.y.blk.cell (i := 2) rfl
      have a3 := H1.out.y.blk.cell (i := 3) rfl
      have a4 := H1.out.y.blk.cell (i := 4) rfl
      have a5 := H1.out.y.blk.cell (i := 5) rfl
      have a6 := H1.out.y.blk.cell (i := 6) rfl
      have a7 := H1.out.y.blk.cell (i := 7) rfl
      have a8 := H1.out.y.blk.cell (i := 8) rfl
      have a9 := H1.out.y.blk.cell (i := 9) rfl
      have a10 := H1.out.y.blk.cell (i := 10) rfl
      have a11 := H1.out.y.blk.cell (i := 11) rfl
      have a12 := H1.out.y.blk.cell (i := 12) rfl
      have a13 := H1.out.y.blk.cell (i := 13) rfl
      have af1 := H1.out.y.blk.live 1
      have al := H1.out.y.blk.lt
      (try simp only [GW.to] at a0 a1 a2 a3 a4 a5 a6 a7 a8 a9 a10 a11 a12 a13 af1 al)
      go_wp2_with fail
      exact bodyPost_end (results_none rfl _ _ _) rfl (Does.of ⟨own1, w1.setCell ⟨b, 1, none⟩ (.int .i64 2)⟩ rfl rfl (Mod.st M1.out H1.out.modY) (by rw [HW.out]; exact H2.out.at_))
  · have hz : (W.y.at_ == 0) = false := beq_eq_false_iff_ne.2 h0
    have HV := Lib.hid (show W.hands status stage = (W.posts status false).ent stage by unfold CyW.hands; rw [if_neg h0])
    have a0 := H.y.blk.cell (i := 0) rfl
    have a1 := H.y.blk.cell (i := 1) rfl
    have a2 := H.y.blk.cell (i := 2) rfl
    have a3 := H.y.blk.cell (i := 3) rfl
    have a4 := H.y.blk.cell (i := 4) rfl
    have a5 := H.y.blk.cell (i := 5) rfl
    have a6 := H.y.blk.cell (i := 6) rfl
    have a7 := H.y.blk.cell (i := 7) rfl
    have a8 := H.y.blk.cell (i := 8) rfl
    have a9 := H.y.blk.cell (i := 9) rfl
    have a10 := H.y.blk.cell (i := 10) rfl
    have a11 := H.y.blk.cell (i := 11) rfl
    have a12 := H.y.blk.cell (i := 12) rfl
    have a13 := H.y.blk.cell (i := 13) rfl
    have af1 := H.y.blk.live 1
    have al := H.y.blk.lt
    (try simp only [GW.to] at a0 a1 a2 a3 a4 a5 a6 a7 a8 a9 a10 a11 a12 a13 af1 al)
    have c0 := H.c.blk.cell (i := 0) rfl
    have c1 := H.c.blk.cell (i := 1) rfl
    have c2 := H.c.blk.cell (i := 2) rfl
    have c3 := H.c.blk.cell (i := 3) rfl
    have c4 := H.c.blk.cell (i := 4) rfl
    have c5 := H.c.blk.cell (i := 5) rfl
    have c6 := H.c.blk.cell (i := 6) rfl
    have c7 := H.c.blk.cell (i := 7) rfl
    have c8 := H.c.blk.cell (i := 8) rfl
    have c9 := H.c.blk.cell (i := 9) rfl
    have c10 := H.c.blk.cell (i := 10) rfl
    have c11 := H.c.blk.cell (i := 11) rfl
    have c12 := H.c.blk.cell (i := 12) rfl
    have cl := H.c.blk.lt
    (try simp only [GW.to] at c0 c1 c2 c3 c4 c5 c6 c7 c8 c9 c10 c11 c12 cl)
    clear H hd h0
    go_enter Tryz.func66, Tryz.ntmps66
    go_wp2_with fail
    refine (hand_post g (B + 63) bh status false W.K.hand HH.out.c.hand HD.out.hand).mono ?_
    rintro e w1 ⟨rfl, own1, m1, h1⟩
    have M1 := Lib.hid (m1.mono (S := cyT t B) (fun x hx => cyT_hand hx))
    have H1 := Lib.hid (show CyIn ⟨own1, w1⟩ t B b k (W.posts status false) tp hp bm bs bt bp bsp bh cm from HH.out.hand A m1 h1)
    clear a0 a1 a2 a3 a4 a5 a6 a7 a8 a9 a10 a11 a12 a13 af1 al c0 c1 c2 c3 c4 c5 c6 c7 c8 c9 c10 c11 c12 cl
    clear m1 h1 hz
    go_wp2_with fail
    refine (cy_enters A stage H1.out).mono ?_
    rintro e w2 ⟨rfl, own2, m2, h2⟩
    have M2 := Lib.hid (M1.out.trans m2)
    have H2 := Lib.hid h2
    clear m2 h2
    go_wp2_with fail
    exact bodyPost_end (results_none rfl _ _ _) rfl (Does.of ⟨own2, w2⟩ rfl rfl M2.out (by rw [HV.out]; exact H2.out.at_))
theorem cy_starts (A : CyApart t B) (hd : W.Bd) (H : CyWAt g t B b k W) : Calls Tryz.prog 65 #[.pointer (some ⟨b, 0, none⟩), .pointer (some ⟨k, 0, none⟩)] g.w (Does (.tuple #[]) g (cyT t B) (fun g' => CyWAt g' t B b k W.starts)) := by
  obtain ⟨tp, hp, bm, bs, bt, bp, bsp, bh, cm, H⟩ := H
  have HH := Lib.hid H
  have HD := Lib.hid hd
  by_cases h0 : W.y.at_ = 0
  · have hz : (W.y.at_ == 0) = true := beq_iff_eq.2 h0
    have HV := Lib.hid (show W.starts = (W.spc (beginS W.K.sp)).atY 2 by unfold CyW.starts; rw [if_pos h0])
    have a0 := H.y.blk.cell (i := 0) rfl
    have a1 := H.y.blk.cell (i := 1) rfl
    have a2 := H.y.blk.cell (i := 2) rfl
    have a3 := H.y.blk.cell (i := 3) rfl
    have a4 := H.y.blk.cell (i := 4) rfl
    have a5 := H.y.blk.cell (i := 5) rfl
    have a6 := H.y.blk.cell (i := 6) rfl
    have a7 := H.y.blk.cell (i := 7) rfl
    have a8 := H.y.blk.cell (i := 8) rfl
    have a9 := H.y.blk.cell (i := 9) rfl
    have a10 := H.y.blk.cell (i := 10) rfl
    have a11 := H.y.blk.cell (i := 11) rfl
    have a12 := H.y.blk.cell (i := 12) rfl
    have a13 := H.y.blk.cell (i := 13) rfl
    have af1 := H.y.blk.live 1
    have al := H.y.blk.lt
    (try simp only [GW.to] at a0 a1 a2 a3 a4 a5 a6 a7 a8 a9 a10 a11 a12 a13 af1 al)
    have c0 := H.c.blk.cell (i := 0) rfl
    have c1 := H.c.blk.cell (i := 1) rfl
    have c2 := H.c.blk.cell (i := 2) rfl
    have c3 := H.c.blk.cell (i := 3) rfl
    have c4 := H.c.blk.cell (i := 4) rfl
    have c5 := H.c.blk.cell (i := 5) rfl
    have c6 := H.c.blk.cell (i := 6) rfl
    have c7 := H.c.blk.cell (i := 7) rfl
    have c8 := H.c.blk.cell (i := 8) rfl
    have c9 := H.c.blk.cell (i := 9) rfl
    have c10 := H.c.blk.cell (i := 10) rfl
    have c11 := H.c.blk.cell (i := 11) rfl
    have c12 := H.c.blk.cell (i := 12) rfl
    have cl := H.c.blk.lt
    (try simp only [GW.to] at c0 c1 c2 c3 c4 c5 c6 c7 c8 c9 c10 c11 c12 cl)
    clear H hd h0
    go_enter Tryz.func65, Tryz.ntmps65
    go_wp2_with fail
    refine (space_begin g B bsp bt W.K.sp HH.out.c.sp A.hb HD.out.sp).mono ?_
    rintro e w1 ⟨rfl, own1, m1, h1⟩
    have M1 := Lib.hid (m1.mono (S := cyT t B) (fun x hx => cyT_inst hx))
    have H1 := Lib.hid (HH.out.spc A m1 h1)
    clear a0 a1 a2 a3 a4 a5 a6 a7 a8 a9 a10 a11 a12 a13 af1 al c0 c1 c2 c3 c4 c5 c6 c7 c8 c9 c10 c11 c12 cl
    clear m1 h1 hz
    have H2 := Lib.hid (H1.out.set A 1 (.int .i64 2) { W.y with at_ := 2 } rfl)
    have a0 := H1.out.y.blk.cell (i := 0) rfl
    have a1 := H1.out.y.blk.cell (i := 1) rfl
    have a2 := H1.out.y.blk.cell (i := 2) rfl
    have a3 := H1.out.y.blk.cell (i := 3) rfl
    have a4 := H1.out.y.blk.cell (i := 4) rfl
    have a5 := H1.out.y.blk.cell (i := 5) rfl
    have a6 := H1.out.y.blk.cell (i := 6) rfl
    have a7 := H1.out.y.blk.cell (i := 7) rfl
    have a8 := H1.out.y.blk.cell (i := 8) rfl
    have a9 := H1.out.y.blk.cell (i := 9) rfl
    have a10 := H1.out.y.blk.cell (i := 10) rfl
    have a11 := H1.out.y.blk.cell (i := 11) rfl
    have a12 := H1.out.y.blk.cell (i := 12) rfl
    have a13 := H1.out.y.blk.cell (i := 13) rfl
    have af1 := H1.out.y.blk.live 1
    have al := H1.out.y.blk.lt
    (try simp only [GW.to] at a0 a1 a2 a3 a4 a5 a6 a7 a8 a9 a10 a11 a12 a13 af1 al)
    go_wp2_with fail
    exact bodyPost_end (results_none rfl _ _ _) rfl (Does.of ⟨own1, w1.setCell ⟨b, 1, none⟩ (.int .i64 2)⟩ rfl rfl (Mod.st M1.out H1.out.modY) (by rw [HV.out]; exact H2.out.at_))
  · have hz : (W.y.at_ == 0) = false := beq_eq_false_iff_ne.2 h0
    have HV := Lib.hid (show W.starts = CyW.ent { W.posts 1 true with y := { W.y with started := W.y.started + 1, sense := !W.y.sense, steps := 0 } } 2 by unfold CyW.starts; rw [if_neg h0]; rfl)
    have a0 := H.y.blk.cell (i := 0) rfl
    have a1 := H.y.blk.cell (i := 1) rfl
    have a2 := H.y.blk.cell (i := 2) rfl
    have a3 := H.y.blk.cell (i := 3) rfl
    have a4 := H.y.blk.cell (i := 4) rfl
    have a5 := H.y.blk.cell (i := 5) rfl
    have a6 := H.y.blk.cell (i := 6) rfl
    have a7 := H.y.blk.cell (i := 7) rfl
    have a8 := H.y.blk.cell (i := 8) rfl
    have a9 := H.y.blk.cell (i := 9) rfl
    have a10 := H.y.blk.cell (i := 10) rfl
    have a11 := H.y.blk.cell (i := 11) rfl
    have a12 := H.y.blk.cell (i := 12) rfl
    have a13 := H.y.blk.cell (i := 13) rfl
    have af1 := H.y.blk.live 1
    have al := H.y.blk.lt
    (try simp only [GW.to] at a0 a1 a2 a3 a4 a5 a6 a7 a8 a9 a10 a11 a12 a13 af1 al)
    have c0 := H.c.blk.cell (i := 0) rfl
    have c1 := H.c.blk.cell (i := 1) rfl
    have c2 := H.c.blk.cell (i := 2) rfl
    have c3 := H.c.blk.cell (i := 3) rfl
    have c4 := H.c.blk.cell (i := 4) rfl
    have c5 := H.c.blk.cell (i := 5) rfl
    have c6 := H.c.blk.cell (i := 6) rfl
    have c7 := H.c.blk.cell (i := 7) rfl
    have c8 := H.c.blk.cell (i := 8) rfl
    have c9 := H.c.blk.cell (i := 9) rfl
    have c10 := H.c.blk.cell (i := 10) rfl
    have c11 := H.c.blk.cell (i := 11) rfl
    have c12 := H.c.blk.cell (i := 12) rfl
    have cl := H.c.blk.lt
    (try simp only [GW.to] at c0 c1 c2 c3 c4 c5 c6 c7 c8 c9 c10 c11 c12 cl)
    clear H hd h0
    go_enter Tryz.func65, Tryz.ntmps65
    go_wp2_with fail
    refine (hand_post g (B + 63) bh 1 true W.K.hand HH.out.c.hand HD.out.hand).mono ?_
    rintro e w1 ⟨rfl, own1, m1, h1⟩
    have M1 := Lib.hid (m1.mono (S := cyT t B) (fun x hx => cyT_hand hx))
    have H1 := Lib.hid (show CyIn ⟨own1, w1⟩ t B b k (W.posts 1 true) tp hp bm bs bt bp bsp bh cm from HH.out.hand A m1 h1)
    clear a0 a1 a2 a3 a4 a5 a6 a7 a8 a9 a10 a11 a12 a13 af1 al c0 c1 c2 c3 c4 c5 c6 c7 c8 c9 c10 c11 c12 cl
    clear m1 h1 hz
    have H2 := Lib.hid (((H1.out.set A 8 (.int .i64 (W.y.started + 1)) { W.y with started := W.y.started + 1 } rfl).set A 7 (.bool (!W.y.sense)) { W.y with started := W.y.started + 1, sense := !W.y.sense } rfl).set A 12 (.int .i64 0) { W.y with started := W.y.started + 1, sense := !W.y.sense, steps := 0 } rfl)
    have M2 := Lib.hid (show Mod (cyT t B) g ⟨own1, ((w1.setCell ⟨b, 8, none⟩ (.int .i64 (W.y.started + 1))).setCell ⟨b, 7, none⟩ (.bool (!W.y.sense))).setCell ⟨b, 12, none⟩ (.int .i64 0)⟩ from Mod.st (Mod.st (Mod.st M1.out H1.out.modY) H1.out.modY) H1.out.modY)
    have a0 := H1.out.y.blk.cell (i := 0) rfl
    have a1 := H1.out.y.blk.cell (i := 1) rfl
    have a2 := H1.out.y.blk.cell (i := 2) rfl
    have a3 := H1.out.y.blk.cell (i := 3) rfl
    have a4 := H1.out.y.blk.cell (i := 4) rfl
    have a5 := H1.out.y.blk.cell (i := 5) rfl
    have a6 := H1.out.y.blk.cell (i := 6) rfl
    have a7 := H1.out.y.blk.cell (i := 7) rfl
    have a8 := H1.out.y.blk.cell (i := 8) rfl
    have a9 := H1.out.y.blk.cell (i := 9) rfl
    have a10 := H1.out.y.blk.cell (i := 10) rfl
    have a11 := H1.out.y.blk.cell (i := 11) rfl
    have a12 := H1.out.y.blk.cell (i := 12) rfl
    have a13 := H1.out.y.blk.cell (i := 13) rfl
    have af7 := H1.out.y.blk.live 7
    have af8 := H1.out.y.blk.live 8
    have af12 := H1.out.y.blk.live 12
    have al := H1.out.y.blk.lt
    (try simp only [GW.to] at a0 a1 a2 a3 a4 a5 a6 a7 a8 a9 a10 a11 a12 a13 af7 af8 af12 al)
    obtain ⟨hs0, hs1⟩ := HD.out.started
    have hw8 : (W.posts 1 true).y = W.y := rfl
    rw [hw8] at a0 a1 a2 a3 a4 a7 a8 a9 a10 a11 a12 a13
    go_wp2_with fail
    refine (cy_enters A 2 H2.out).mono ?_
    rintro e w2 ⟨rfl, own2, m2, h2⟩
    have M3 := Lib.hid (M2.out.trans m2)
    have H3 := Lib.hid h2
    clear m2 h2
    go_wp2_with fail
    exact bodyPost_end (results_none rfl _ _ _) rfl (Does.of ⟨own2, w2⟩ rfl rfl M3.out (by rw [HV.out]; exact H3.out.at_))
end
end Go.Proofs.YtnebimabokgofaaGreat

