import Derived.Test.YtcpeoflomdhidaaGreatKW16
/-
  Packed: ActE, ActTZ, ActU.
-/
open Go.Ext renaming alloc → zA, patch → zP, drew → zD, drewN → zN, more → zM, refl → zR, setCell → zS
open Nat renaming le_refl → zL, le_add_right → zK
/-
  act: answers, goes, border.
-/
namespace Go.Proofs.YtcpeoflomdhidaaGreat
open Go Go.RowKit
set_option linter.unusedVariables false
set_option linter.unnecessarySimpa false
set_option linter.unusedSimpArgs false
set_option maxHeartbeats 2000000
set_option maxRecDepth 100000

theorem seg_tail {g : GW} {t q o : Nat} {x : Value} {xs : List Value} (h : Seg g t (some ⟨q, o, none⟩) (x :: xs)) : Seg g t (some ⟨q, o + 1, none⟩) xs :=
  ⟨fun i v hi => by
    obtain ⟨b, o', hA, hb, hc⟩ := h.cells (i + 1) v (by simpa using hi)
    injection hA with hA
    injection hA with h1 h2
    subst h1 h2
    exact ⟨q, o + 1, rfl, hb, by rw [show o + 1 + i = o + (i + 1) by omega]; exact hc⟩, fun a ha _ => by
    injection ha with ha
    subst ha
    exact h.own ⟨q, o, none⟩ rfl (by simp)⟩
structure AcW.BdS (W : AcW) : Prop where
  own : 0 ≤ W.a.own ∧ W.a.own ≤ 1099511627776
  next : 0 ≤ W.a.next ∧ W.a.next ≤ 1099511627776
  hand : 0 ≤ W.K.hand.count ∧ W.K.hand.count ≤ 1099511627776
  sp : 0 ≤ W.K.sp.count ∧ W.K.sp.count ≤ 1099511627776
  mem : 0 ≤ W.K.mem.count ∧ W.K.mem.count ≤ 1099511627776
  n : 0 ≤ W.K.n ∧ W.K.n ≤ 1099511627776
  line : W.K.sp.line.length < 1000000
theorem bdB_of {W : AcW} (h : W.bdB = true) : W.BdS := by
  unfold AcW.bdB AcW.cntOk at h
  simp only [Bool.and_eq_true, decide_eq_true_eq] at h
  obtain ⟨⟨⟨⟨⟨⟨h1, h2⟩, h3⟩, h4⟩, h5⟩, h6⟩, h7⟩ := h
  exact ⟨h1, h2, h3, h4, h5, h6, h7⟩
theorem greyOk_of {W : AcW} (h : W.greyOk = true) (h1 : W.a.pc = 1) : W.a.grey ≠ [] := by
  unfold AcW.greyOk at h
  rw [h1] at h
  intro e
  rw [e] at h
  cases h
section
variable {g : GW} {t B b k : Nat} {W : AcW}
theorem act_answers [TbId] (P : AcApart t B) (hc : 0 ≤ W.K.hand.count ∧ W.K.hand.count ≤ 1099511627776) (hn : 0 ≤ W.K.n ∧ W.K.n ≤ 1099511627776) (hg : W.a.pc = 1 → W.a.grey ≠ []) (H : AcWAt g t B b k W) : Calls Tryz.prog 168 #[.pointer (some ⟨b, 0, none⟩), .pointer (some ⟨k, 0, none⟩)] g.w (Does (.bool W.answersB) g (acT t B) (fun g' => AcWAt g' t B b k W.answers)) := by
  obtain ⟨p, bm, bs, bt, bp, bsp, bh, cm, H⟩ := H
  have HH := Lib.hid H
  have HP := Lib.hid P
  have HV := Lib.hid (show W.answersB = (W.a.pc != 1) from rfl)
  by_cases h1 : W.a.pc = 1
  · have HV2 := Lib.hid (show W.answersB = false by rw [HV.out, h1]; rfl)
    have HW := Lib.hid (show W.answers = (W.greyK (W.a.grey.headD 0)).withA { W.a with grey := W.a.grey.tail, pc := if W.a.grey.tail = [] then 2 else 1 } from if_pos h1)
    obtain ⟨y, l, hyl⟩ := List.exists_cons_of_ne_nil (hg h1)
    have HG := Lib.hid (show W.a.grey = y :: l from hyl)
    obtain ⟨q, o, hA, hq, hcell⟩ := H.a.r.grey.cells.cases (by rw [hyl]; simp)
    have k0 := hcell 0 (.int .i64 y) (by rw [hyl]; rfl)
    simp only [Nat.add_zero] at k0
    have HS := Lib.hid (fun X => shade_grey (g.pt X) (B + 60) bs bt (B + 50) bp (B + 61) W.K.sp.tab W.K.pile W.K.n y W.a.sense (H.pt X).c.shd hn (by omega) (by omega) (by omega))
    have hz : (W.a.pc == 1) = true := beq_iff_eq.2 h1
    have hgC := H.a.r.greyC
    rw [hyl] at hgC
    simp only [List.length_cons] at hgC
    obtain ⟨a0, a1, a2, a3, a4, a5, a6, a7, a8, a9, a10, a11, a12, a13, a14, a15, a16, a17, a18, al⟩ := H.a.blk.c19
    (try simp only [GW.to] at a0 a1 a2 a3 a4 a5 a6 a7 a8 a9 a10 a11 a12 a13 a14 a15 a16 a17 a18 al)
    obtain ⟨c0, c1, c2, c3, c4, c5, c6, c7, c8, c9, c10, c11, c12, cl⟩ := H.c.blk.c13
    (try simp only [GW.to] at c0 c1 c2 c3 c4 c5 c6 c7 c8 c9 c10 c11 c12 cl)
    rw [hA, hyl] at a9
    simp only [List.length_cons] at a9
    rw [hyl] at HW
    simp only [List.headD_cons, List.tail_cons] at HW
    have h1' := h1
    clear H hc hn hg h1 hyl hcell
    go_enter Tryz.func168, Tryz.ntmps168
    go_wp2_with fail
    refine wp_region_mixed [true, true, true, true, true, true, true, true, true, true, true, true, true, true, false] 1 14 (by kernel_rfl) (by kernel_rfl) (by kernel_rfl) ?_ (by decide) (by decide) (by decide) (by kernel_rfl) ?_
    · intro c a d v w h; cases d <;> exact h
    intro X00
    simp only [pickOps]
    repeat (go_big_quiet_step (fail))
    refine wpQuiet_nil (fun X0 => ?_)
    clear X00
    refine wpAnyM_tailL rfl (by kernel_rfl) (fun X2 => ?_)
    simp only [List.drop_succ_cons, List.drop_zero]
    go_wp2_with fail
    refine (HS.out _).mono ?_
    rintro e w1 ⟨rfl, own1, m1, h1⟩
    have P1 := (Mod.pt (Mod.refl _ _) _).trans m1
    have M1 := Lib.hid (P1.mono (S := acT t B) (fun x hx => acT_shd hx))
    have H1 := Lib.hid (show AcIn ⟨own1, w1⟩ t B b k (W.greyK y) p bm bs bt bp bsp bh cm from HH.out.greyK HP.out P1 h1)
    have hq1 : q < w1.heap.size := Nat.lt_of_lt_of_le hq P1.size
    clear P1 m1 h1 HS a0 a1 a2 a3 a4 a5 a6 a7 a8 a9 a10 a11 a12 a13 a14 a15 a16 a17 a18 al c0 c1 c2 c3 c4 c5 c6 c7 c8 c9 c10 c11 c12 cl k0 hq
    have HPC := Lib.hid (show (W.greyK y).a.pc = 1 from h1')
    have HSG := Lib.hid (show Seg ⟨own1, w1⟩ (t + 4) (some ⟨q, o, none⟩) (.int .i64 y :: l.map (Value.int .i64)) from by have h := H1.out.a.r.grey; rw [show (W.greyK y).a.grey = y :: l from HG.out, hA] at h; exact h)
    obtain ⟨a0, a1, a2, a3, a4, a5, a6, a7, a8, a9, a10, a11, a12, a13, a14, a15, a16, a17, a18, al⟩ := H1.out.a.blk.c19
    have af9 := H1.out.a.blk.live 9
    have af7 := H1.out.a.blk.live 7
    (try simp only [GW.to] at a0 a1 a2 a3 a4 a5 a6 a7 a8 a9 a10 a11 a12 a13 a14 a15 a16 a17 a18 af9 af7 al)
    rw [show (W.greyK y).a.grey = y :: l from HG.out, hA] at a9
    simp only [List.length_cons] at a9
    clear hA
    by_cases hC : p.greyC = 1
    · have hl0 : l = [] := List.length_eq_zero_iff.1 (by omega)
      have SL := Lib.hid (Seg.nil ⟨own1, w1⟩ (t + 4) (some ⟨q, o, none⟩))
      subst hl0
      have R2 : AcRows ⟨own1, w1⟩ t { W.a with grey := ([] : List Int), pc := 1 } { p with greyA := (some ⟨q, o, none⟩), greyC := 0 } := by
        obtain ⟨r1, r2, r3, r4, r5, r6, r7, r8, r9, r10, r11, r12⟩ := H1.out.a.r
        exact ⟨r1, r2, r3, SL.out, ⟨(by have := hgC.1; show (([] : List Int)).length ≤ 0; simp only [List.length_cons, List.length_nil] at this ⊢; omega), (by show 0 ≤ _; omega)⟩, r6, r7, r8, r9, r10, r11, r12⟩
      have H2 := Lib.hid (H1.out.turn (A' := { W.a with grey := ([] : List Int), pc := 1 }) (p' := { p with greyA := (some ⟨q, o, none⟩), greyC := 0 }) HP.out (g' := ⟨own1, w1.setCell ⟨b, 9, none⟩ (.slice (some ⟨q, o, none⟩) (([] : List Int)).length (0))⟩) (Mod.st (Mod.refl _ _) H1.out.a.blk.own) (by
        have h := H1.out.a.blk.set 9 (.slice (some ⟨q, o, none⟩) (([] : List Int)).length (0))
        have hc : AcS.cells { W.a with grey := ([] : List Int), pc := 1 } { p with greyA := (some ⟨q, o, none⟩), greyC := 0 } = ((W.greyK y).a.cells p).set 9 (.slice (some ⟨q, o, none⟩) (([] : List Int)).length (0)) := by
          unfold AcS.cells
          rw [HPC.out]
          rfl
        rw [hc]
        exact h) R2)
      have M2 := Lib.hid (show Mod (acT t B) g ⟨own1, w1.setCell ⟨b, 9, none⟩ (.slice (some ⟨q, o, none⟩) (([] : List Int)).length (0))⟩ from Mod.st M1.out H1.out.modA)
      clear R2
      go_upto_region 4 with fail
      generalize w1.setCell ⟨b, 9, none⟩ (.slice (some ⟨q, o, none⟩) _ (0)) = w2 at *
      clear a0 a1 a2 a3 a4 a5 a6 a7 a8 a9 a10 a11 a12 a13 a14 a15 a16 a17 a18 al af9 af7 H1 M1
      obtain ⟨a0, a1, a2, a3, a4, a5, a6, a7, a8, a9, a10, a11, a12, a13, a14, a15, a16, a17, a18, al⟩ := H2.out.a.blk.c19
      have af7 := H2.out.a.blk.live 7
      (try simp only [GW.to] at a0 a1 a2 a3 a4 a5 a6 a7 a8 a9 a10 a11 a12 a13 a14 a15 a16 a17 a18 af7 al)
      (try simp only [AcW.withA, List.length_cons, List.length_nil] at a9)
      have H3 := Lib.hid (H2.out.set HP.out 7 (.int .i64 2) { W.a with grey := [], pc := 2 } rfl ⟨rfl, rfl, rfl, rfl, rfl, rfl⟩)
      have M3 := Lib.hid (show Mod (acT t B) g ⟨own1, w2.setCell ⟨b, 7, none⟩ (.int .i64 2)⟩ from Mod.st M2.out H2.out.modA)
      have hzz : ((((0 : Nat) : Int)) == 0) = true := rfl
      go_wp2_with fail
      go_ret
      exact Does.of ⟨own1, _⟩ rfl (by rw [HV2.out]; try rfl) M3.out (by rw [HW.out]; exact H3.out.at_)
    · have SL := Lib.hid (seg_tail HSG.out)
      cases l with
      | nil =>
        have R2 : AcRows ⟨own1, w1⟩ t { W.a with grey := ([] : List Int), pc := 1 } { p with greyA := (some ⟨q, o + 1, none⟩), greyC := (p.greyC - 1) } := by
          obtain ⟨r1, r2, r3, r4, r5, r6, r7, r8, r9, r10, r11, r12⟩ := H1.out.a.r
          exact ⟨r1, r2, r3, SL.out, ⟨(by have := hgC.1; show (([] : List Int)).length ≤ (p.greyC - 1); simp only [List.length_cons, List.length_nil] at this ⊢; omega), (by show (p.greyC - 1) ≤ _; omega)⟩, r6, r7, r8, r9, r10, r11, r12⟩
        have H2 := Lib.hid (H1.out.turn (A' := { W.a with grey := ([] : List Int), pc := 1 }) (p' := { p with greyA := (some ⟨q, o + 1, none⟩), greyC := (p.greyC - 1) }) HP.out (g' := ⟨own1, w1.setCell ⟨b, 9, none⟩ (.slice (some ⟨q, o + 1, none⟩) (([] : List Int)).length ((p.greyC - 1)))⟩) (Mod.st (Mod.refl _ _) H1.out.a.blk.own) (by
          have h := H1.out.a.blk.set 9 (.slice (some ⟨q, o + 1, none⟩) (([] : List Int)).length ((p.greyC - 1)))
          have hc : AcS.cells { W.a with grey := ([] : List Int), pc := 1 } { p with greyA := (some ⟨q, o + 1, none⟩), greyC := (p.greyC - 1) } = ((W.greyK y).a.cells p).set 9 (.slice (some ⟨q, o + 1, none⟩) (([] : List Int)).length ((p.greyC - 1))) := by
            unfold AcS.cells
            rw [HPC.out]
            rfl
          rw [hc]
          exact h) R2)
        have M2 := Lib.hid (show Mod (acT t B) g ⟨own1, w1.setCell ⟨b, 9, none⟩ (.slice (some ⟨q, o + 1, none⟩) (([] : List Int)).length ((p.greyC - 1)))⟩ from Mod.st M1.out H1.out.modA)
        clear R2
        go_upto_region 4 with fail
        generalize w1.setCell ⟨b, 9, none⟩ (.slice (some ⟨q, o + 1, none⟩) _ ((p.greyC - 1))) = w2 at *
        clear a0 a1 a2 a3 a4 a5 a6 a7 a8 a9 a10 a11 a12 a13 a14 a15 a16 a17 a18 al af9 af7 H1 M1
        obtain ⟨a0, a1, a2, a3, a4, a5, a6, a7, a8, a9, a10, a11, a12, a13, a14, a15, a16, a17, a18, al⟩ := H2.out.a.blk.c19
        have af7 := H2.out.a.blk.live 7
        (try simp only [GW.to] at a0 a1 a2 a3 a4 a5 a6 a7 a8 a9 a10 a11 a12 a13 a14 a15 a16 a17 a18 af7 al)
        (try simp only [AcW.withA, List.length_cons, List.length_nil] at a9)
        have H3 := Lib.hid (H2.out.set HP.out 7 (.int .i64 2) { W.a with grey := [], pc := 2 } rfl ⟨rfl, rfl, rfl, rfl, rfl, rfl⟩)
        have M3 := Lib.hid (show Mod (acT t B) g ⟨own1, w2.setCell ⟨b, 7, none⟩ (.int .i64 2)⟩ from Mod.st M2.out H2.out.modA)
        have hzz : ((((0 : Nat) : Int)) == 0) = true := rfl
        go_wp2_with fail
        go_ret
        exact Does.of ⟨own1, _⟩ rfl (by rw [HV2.out]; try rfl) M3.out (by rw [HW.out]; exact H3.out.at_)
      | cons z l =>
        have R2 : AcRows ⟨own1, w1⟩ t { W.a with grey := (z :: l), pc := 1 } { p with greyA := (some ⟨q, o + 1, none⟩), greyC := (p.greyC - 1) } := by
          obtain ⟨r1, r2, r3, r4, r5, r6, r7, r8, r9, r10, r11, r12⟩ := H1.out.a.r
          exact ⟨r1, r2, r3, SL.out, ⟨(by have := hgC.1; show ((z :: l)).length ≤ (p.greyC - 1); simp only [List.length_cons, List.length_nil] at this ⊢; omega), (by show (p.greyC - 1) ≤ _; omega)⟩, r6, r7, r8, r9, r10, r11, r12⟩
        have H2 := Lib.hid (H1.out.turn (A' := { W.a with grey := (z :: l), pc := 1 }) (p' := { p with greyA := (some ⟨q, o + 1, none⟩), greyC := (p.greyC - 1) }) HP.out (g' := ⟨own1, w1.setCell ⟨b, 9, none⟩ (.slice (some ⟨q, o + 1, none⟩) ((z :: l)).length ((p.greyC - 1)))⟩) (Mod.st (Mod.refl _ _) H1.out.a.blk.own) (by
          have h := H1.out.a.blk.set 9 (.slice (some ⟨q, o + 1, none⟩) ((z :: l)).length ((p.greyC - 1)))
          have hc : AcS.cells { W.a with grey := (z :: l), pc := 1 } { p with greyA := (some ⟨q, o + 1, none⟩), greyC := (p.greyC - 1) } = ((W.greyK y).a.cells p).set 9 (.slice (some ⟨q, o + 1, none⟩) ((z :: l)).length ((p.greyC - 1))) := by
            unfold AcS.cells
            rw [HPC.out]
            rfl
          rw [hc]
          exact h) R2)
        have M2 := Lib.hid (show Mod (acT t B) g ⟨own1, w1.setCell ⟨b, 9, none⟩ (.slice (some ⟨q, o + 1, none⟩) ((z :: l)).length ((p.greyC - 1)))⟩ from Mod.st M1.out H1.out.modA)
        clear R2
        go_upto_region 4 with fail
        generalize w1.setCell ⟨b, 9, none⟩ (.slice (some ⟨q, o + 1, none⟩) _ ((p.greyC - 1))) = w2 at *
        clear a0 a1 a2 a3 a4 a5 a6 a7 a8 a9 a10 a11 a12 a13 a14 a15 a16 a17 a18 al af9 af7 H1 M1
        obtain ⟨a0, a1, a2, a3, a4, a5, a6, a7, a8, a9, a10, a11, a12, a13, a14, a15, a16, a17, a18, al⟩ := H2.out.a.blk.c19
        have af7 := H2.out.a.blk.live 7
        (try simp only [GW.to] at a0 a1 a2 a3 a4 a5 a6 a7 a8 a9 a10 a11 a12 a13 a14 a15 a16 a17 a18 af7 al)
        (try simp only [AcW.withA, List.length_cons, List.length_nil] at a9)
        have hzl : (((l.length : Int) + 1) == 0) = false := beq_eq_false_iff_ne.2 (by omega)
        go_wp2_with fail
        refine bodyPost_ret (v := .bool false) (by simp [results, Tryz.results168, go_sem]) rfl ?_
        exact Does.of ⟨own1, w2⟩ rfl (by rw [HV2.out]; try rfl) M2.out (by rw [HW.out]; exact H2.out.at_)
  · have HV2 := Lib.hid (show W.answersB = true by rw [HV.out]; unfold bne; rw [beq_eq_false_iff_ne.2 h1]; rfl)
    have HW := Lib.hid (show W.answers = { a := { W.a with status := W.a.seen }, K := { W.K with hand := W.K.hand.answer W.a.t W.a.seen } } from if_neg h1)
    have hz : (W.a.pc == 1) = false := beq_eq_false_iff_ne.2 h1
    have HK := Lib.hid (fun X => hand_answer (g.pt X) (B + 63) bh W.a.t W.a.seen W.K.hand (H.pt X).c.hand hc)
    obtain ⟨a0, a1, a2, a3, a4, a5, a6, a7, a8, a9, a10, a11, a12, a13, a14, a15, a16, a17, a18, al⟩ := H.a.blk.c19
    (try simp only [GW.to] at a0 a1 a2 a3 a4 a5 a6 a7 a8 a9 a10 a11 a12 a13 a14 a15 a16 a17 a18 al)
    obtain ⟨c0, c1, c2, c3, c4, c5, c6, c7, c8, c9, c10, c11, c12, cl⟩ := H.c.blk.c13
    (try simp only [GW.to] at c0 c1 c2 c3 c4 c5 c6 c7 c8 c9 c10 c11 c12 cl)
    clear H hc hn hg h1
    go_enter Tryz.func168, Tryz.ntmps168
    go_wp2_with fail
    refine wp_region_mixed [true, true, true, true, true, true, true, true, true, true, true, true, false] 1 12 (by kernel_rfl) (by kernel_rfl) (by kernel_rfl) ?_ (by decide) (by decide) (by decide) (by kernel_rfl) ?_
    · intro c a d v w h; cases d <;> exact h
    intro X00
    simp only [pickOps]
    repeat (go_big_quiet_step (fail))
    refine wpQuiet_nil (fun X0 => ?_)
    clear X00
    refine wpAnyM_tailL rfl (by kernel_rfl) (fun X2 => ?_)
    simp only [List.drop_succ_cons, List.drop_zero]
    go_wp2_with fail
    refine (HK.out _).mono ?_
    rintro e w1 ⟨rfl, own1, m1, h1⟩
    have P1 := (Mod.pt (Mod.refl _ _) _).trans m1
    have M1 := Lib.hid (P1.mono (S := acT t B) (fun x hx => acT_hand hx))
    have H1 := Lib.hid (HH.out.hand HP.out P1 h1)
    clear P1 m1 h1 HK a0 a1 a2 a3 a4 a5 a6 a7 a8 a9 a10 a11 a12 a13 a14 a15 a16 a17 a18 al c0 c1 c2 c3 c4 c5 c6 c7 c8 c9 c10 c11 c12 cl
    obtain ⟨a0, a1, a2, a3, a4, a5, a6, a7, a8, a9, a10, a11, a12, a13, a14, a15, a16, a17, a18, al⟩ := H1.out.a.blk.c19
    have af4 := H1.out.a.blk.live 4
    (try simp only [GW.to] at a0 a1 a2 a3 a4 a5 a6 a7 a8 a9 a10 a11 a12 a13 a14 a15 a16 a17 a18 af4 al)
    have H2 := Lib.hid (H1.out.set HP.out 4 (.int .i64 W.a.seen) { W.a with status := W.a.seen } rfl ⟨rfl, rfl, rfl, rfl, rfl, rfl⟩)
    have M2 := Lib.hid (show Mod (acT t B) g ⟨own1, w1.setCell ⟨b, 4, none⟩ (.int .i64 W.a.seen)⟩ from Mod.st M1.out H1.out.modA)
    go_wp2_with fail
    go_ret
    exact Does.of ⟨own1, _⟩ rfl (by rw [HV2.out]; try rfl) M2.out (by rw [HW.out]; exact H2.out.at_)
theorem act_goes [TbId] (P : AcApart t B) (hc : 0 ≤ W.K.hand.count ∧ W.K.hand.count ≤ 1099511627776) (hlen : W.a.locals.length ≤ 1000) (H : AcWAt g t B b k W) : Calls Tryz.prog 169 #[.pointer (some ⟨b, 0, none⟩), .pointer (some ⟨k, 0, none⟩)] g.w (Does (.tuple #[]) g (acT t B) (fun g' => AcWAt g' t B b k W.goes)) := by
  obtain ⟨p, bm, bs, bt, bp, bsp, bh, cm, H⟩ := H
  have HH := Lib.hid H
  have HP := Lib.hid P
  have HK := Lib.hid (fun X => hand_leave (g.pt X) (B + 63) bh W.a.t W.K.hand (H.pt X).c.hand hc)
  obtain ⟨a0, a1, a2, a3, a4, a5, a6, a7, a8, a9, a10, a11, a12, a13, a14, a15, a16, a17, a18, al⟩ := H.a.blk.c19
  (try simp only [GW.to] at a0 a1 a2 a3 a4 a5 a6 a7 a8 a9 a10 a11 a12 a13 a14 a15 a16 a17 a18 al)
  obtain ⟨c0, c1, c2, c3, c4, c5, c6, c7, c8, c9, c10, c11, c12, cl⟩ := H.c.blk.c13
  (try simp only [GW.to] at c0 c1 c2 c3 c4 c5 c6 c7 c8 c9 c10 c11 c12 cl)
  clear H hc
  go_enter Tryz.func169, Tryz.ntmps169
  go_wp2_with fail
  refine wp_region_mixed [true, true, true, true, true, true, true, true, false] 1 8 (by kernel_rfl) (by kernel_rfl) (by kernel_rfl) ?_ (by decide) (by decide) (by decide) (by kernel_rfl) ?_
  · intro c a d v w h; cases d <;> exact h
  intro X00
  simp only [pickOps]
  repeat (go_big_quiet_step (fail))
  refine wpQuiet_nil (fun X0 => ?_)
  clear X00
  refine wpAnyM_tailL rfl (by kernel_rfl) (fun X2 => ?_)
  simp only [List.drop_succ_cons, List.drop_zero]
  go_wp2_with fail
  refine (HK.out _).mono ?_
  rintro e w1 ⟨rfl, own1, m1, h1⟩
  have P1 := (Mod.pt (Mod.refl _ _) _).trans m1
  have M1 := Lib.hid (P1.mono (S := acT t B) (fun x hx => acT_hand hx))
  have H1 := Lib.hid (HH.out.hand HP.out P1 h1)
  clear P1 m1 h1 HK a0 a1 a2 a3 a4 a5 a6 a7 a8 a9 a10 a11 a12 a13 a14 a15 a16 a17 a18 al c0 c1 c2 c3 c4 c5 c6 c7 c8 c9 c10 c11 c12 cl
  obtain ⟨a0, a1, a2, a3, a4, a5, a6, a7, a8, a9, a10, a11, a12, a13, a14, a15, a16, a17, a18, al⟩ := H1.out.a.blk.c19
  have af3 := H1.out.a.blk.live 3
  (try simp only [GW.to] at a0 a1 a2 a3 a4 a5 a6 a7 a8 a9 a10 a11 a12 a13 a14 a15 a16 a17 a18 af3 al)
  have H2 := Lib.hid (H1.out.set HP.out 3 (.int .i64 4) { W.a with phase := 4 } rfl ⟨rfl, rfl, rfl, rfl, rfl, rfl⟩)
  have M2 := Lib.hid (show Mod (acT t B) g ⟨own1, w1.setCell ⟨b, 3, none⟩ (.int .i64 4)⟩ from Mod.st M1.out H1.out.modA)
  go_upto_region 2 with fail
  generalize w1.setCell ⟨b, 3, none⟩ (.int .i64 4) = w2 at *
  clear a0 a1 a2 a3 a4 a5 a6 a7 a8 a9 a10 a11 a12 a13 a14 a15 a16 a17 a18 al af3 M1 H1
  obtain ⟨a0, a1, a2, a3, a4, a5, a6, a7, a8, a9, a10, a11, a12, a13, a14, a15, a16, a17, a18, al⟩ := H2.out.a.blk.c19
  (try simp only [GW.to] at a0 a1 a2 a3 a4 a5 a6 a7 a8 a9 a10 a11 a12 a13 a14 a15 a16 a17 a18 al)
  have a2' : w2.cell? ⟨b, 2, none⟩ = some (.slice p.locA W.a.locals.length p.locC) := a2
  clear a2
  obtain ⟨w3, hcl, m3, R3⟩ := row_clear (g := ⟨own1, w2⟩) H2.out.a.r.loc
  have hcl' : (Builtin.clear_ #[149] 0 #[.slice p.locA W.a.locals.length p.locC]).run Tryz.prog w2 = .ok (.tuple #[]) w3 := hcl
  have M3 := Lib.hid (M2.out.trans (m3.mono (fun x (hx : x = t + 1) => Or.inl (by omega))))
  have hPt := HP.out.ht
  have hPa := HP.out.apart
  have H3 := Lib.hid (show AcIn ⟨own1, w3⟩ t B b k W.goes p bm bs bt bp bsp bh cm from by
    obtain ⟨r1, r2, r3, r4, r5, r6, r7, r8, r9, r10, r11, r12⟩ := H2.out.a.r
    refine ⟨⟨?_, ⟨r1.keep m3 (by omega), r2, ?_, r4.keep m3 (by omega), r5, r6, fun S hS => ?_, r8.keep m3 (by omega), r9, r10.keep m3 (by omega), r11, r12⟩⟩, H2.out.c.keep m3 (fun x hx => by omega), H2.out.tbl⟩
    · have h := H2.out.a.blk.keep m3 (by omega)
      have hc : AcS.cells W.goes.a p = AcS.cells { W.a with phase := 4 } p := by
        unfold AcS.cells AcW.goes
        simp
      rw [hc]
      exact h
    · show Row _ _ _ _ (.slice _ (List.replicate W.a.locals.length LVal.zero).length _) (List.replicate W.a.locals.length LVal.zero).length ((List.replicate W.a.locals.length LVal.zero).flatMap LVal.cells)
      rw [List.length_replicate]
      exact R3
    · obtain ⟨bf, cm, e1, e2, e3⟩ := r7 S hS
      exact ⟨bf, cm, e1, e2, e3.keep m3 (by omega) (by omega)⟩)
  clear hcl m3 R3
  go_wp2_with fail
  exact bodyPost_end (results_none rfl _ _ _) rfl (Does.of ⟨own1, w3⟩ rfl rfl M3.out H3.out.at_)
theorem act_border [TbId] (P : AcApart t B) (hok : W.bdB = true) (hg : W.greyOk = true) (hlen : W.a.locals.length ≤ 1000) (hol : W.a.ops.length ≤ 1000000) (H : AcWAt g t B b k W) : Calls Tryz.prog 93 #[.pointer (some ⟨b, 0, none⟩), .pointer (some ⟨k, 0, none⟩)] g.w (Does (.tuple #[]) g (acT t B) (fun g' => AcWAt g' t B b k W.border)) := by
  have HB := Lib.hid (bdB_of hok)
  have hgr : W.a.pc = 1 → W.a.grey ≠ [] := fun h => greyOk_of hg h
  have HH0 := Lib.hid H
  obtain ⟨p, bm, bs, bt, bp, bsp, bh, cm, H⟩ := H
  have HH := Lib.hid H
  have HP := Lib.hid P
  by_cases h0 : W.a.pc = 0
  · have HK := Lib.hid (act_looks P HB.out.hand hlen HH0.out)
    have HW := Lib.hid (show W.border = (if !W.looksB then W.looks else if (W.a.ops.length : Int) ≤ W.a.next then W.looks.withA { W.a with pc := 3 } else W.looks.withA W.a.began) from if_pos h0)
    obtain ⟨a0, a1, a2, a3, a4, a5, a6, a7, a8, a9, a10, a11, a12, a13, a14, a15, a16, a17, a18, al⟩ := H.a.blk.c19
    (try simp only [GW.to] at a0 a1 a2 a3 a4 a5 a6 a7 a8 a9 a10 a11 a12 a13 a14 a15 a16 a17 a18 al)
    rw [h0] at a7
    clear H h0 hgr hg hok
    go_enter Tryz.func93, Tryz.ntmps93
    go_wp2_with fail
    refine HK.out.mono ?_
    rintro e w1 ⟨rfl, own1, m1, h1⟩
    have M1 := Lib.hid m1
    clear m1 HK a0 a1 a2 a3 a4 a5 a6 a7 a8 a9 a10 a11 a12 a13 a14 a15 a16 a17 a18 al
    cases hl : W.looksB
    · have HW2 := Lib.hid (show W.border = W.looks by rw [HW.out, hl]; rfl)
      have H1 := Lib.hid h1
      clear hl h1
      go_wp2_with fail
      exact bodyPost_end (results_none rfl _ _ _) rfl (Does.of ⟨own1, w1⟩ rfl rfl M1.out (by rw [HW2.out]; exact H1.out))
    · have HL := Lib.hid (show W.looks = W.tickH by unfold AcW.looks; rw [hl]; rfl)
      have HW2 := Lib.hid (show W.border = (if (W.a.ops.length : Int) ≤ W.a.next then W.tickH.withA { W.a with pc := 3 } else W.tickH.withA W.a.began) by rw [HW.out, hl, HL.out]; rfl)
      rw [HL.out] at h1
      obtain ⟨p, bm, bs, bt, bp, bsp, bh, cm, h1⟩ := h1
      have H1 := Lib.hid h1
      clear h1 hl HL HW
      obtain ⟨a0, a1, a2, a3, a4, a5, a6, a7, a8, a9, a10, a11, a12, a13, a14, a15, a16, a17, a18, al⟩ := H1.out.a.blk.c19
      (try simp only [GW.to] at a0 a1 a2 a3 a4 a5 a6 a7 a8 a9 a10 a11 a12 a13 a14 a15 a16 a17 a18 al)
      have a1' : w1.cell? ⟨b, 1, none⟩ = some (.slice p.opsA W.a.ops.length p.opsC) := a1
      have a6' : w1.cell? ⟨b, 6, none⟩ = some (.int .i64 W.a.next) := a6
      clear a1 a6
      by_cases hnx : (W.a.ops.length : Int) ≤ W.a.next
      · have hd : decide ((W.a.ops.length : Int) ≤ W.a.next) = true := decide_eq_true hnx
        have HW3 := Lib.hid (show W.border = W.tickH.withA { W.a with pc := 3 } by rw [HW2.out, if_pos hnx])
        clear hnx
        go_wp2_with fail
        refine wp_region_mixed [true, true, true, true, true, true, true, true, true, true, true] 0 11 (by kernel_rfl) (by kernel_rfl) (by kernel_rfl) ?_ (by decide) (by decide) (by decide) (by kernel_rfl) ?_
        · intro c a d v w h; cases d <;> exact h
        intro X00
        simp only [pickOps]
        repeat (go_big_quiet_step (fail))
        refine wpQuiet_nil (fun X0 => ?_)
        clear X00
        refine wpAnyM_done (by kernel_rfl) (fun X0' => ?_) _
        (try go_simp)
        obtain ⟨own2, m2⟩ : ∃ own2, Mod (fun _ => False) ⟨own1, w1⟩ ⟨own2, w1.patch ⟨X0.blocks ++ X0'.blocks, X0'.drawn⟩⟩ := ⟨_, Mod.pt (Mod.refl _ _) _⟩
        generalize w1.patch ⟨X0.blocks ++ X0'.blocks, X0'.drawn⟩ = w2 at *
        have H2 := Lib.hid (H1.out.keep0 m2)
        have M2 := Lib.hid (M1.out.trans (m2.mono (fun _ => False.elim)))
        clear m2 H1 M1 a0 a1' a2 a3 a4 a5 a6' a7 a8 a9 a10 a11 a12 a13 a14 a15 a16 a17 a18 al
        obtain ⟨a0, a1, a2, a3, a4, a5, a6, a7, a8, a9, a10, a11, a12, a13, a14, a15, a16, a17, a18, al⟩ := H2.out.a.blk.c19
        have af7 := H2.out.a.blk.live 7
        (try simp only [GW.to] at a0 a1 a2 a3 a4 a5 a6 a7 a8 a9 a10 a11 a12 a13 a14 a15 a16 a17 a18 af7 al)
        have H3 := Lib.hid (H2.out.set HP.out 7 (.int .i64 3) { W.a with pc := 3 } rfl ⟨rfl, rfl, rfl, rfl, rfl, rfl⟩)
        go_wp2_with fail
        exact bodyPost_end (results_none rfl _ _ _) rfl (Does.of ⟨own2, _⟩ rfl rfl (Mod.st M2.out H2.out.modA) (by rw [HW3.out]; exact H3.out.at_))
      · have hd : decide ((W.a.ops.length : Int) ≤ W.a.next) = false := decide_eq_false hnx
        have HW3 := Lib.hid (show W.border = W.tickH.withA W.a.began by rw [HW2.out, if_neg hnx])
        clear hnx
        go_wp2_with fail
        refine wp_region_mixed [true, true, true, true, true, true, true, true, true, true, true] 0 11 (by kernel_rfl) (by kernel_rfl) (by kernel_rfl) ?_ (by decide) (by decide) (by decide) (by kernel_rfl) ?_
        · intro c a d v w h; cases d <;> exact h
        intro X00
        simp only [pickOps]
        repeat (go_big_quiet_step (fail))
        refine wpQuiet_nil (fun X0 => ?_)
        clear X00
        refine wpAnyM_done (by kernel_rfl) (fun X0' => ?_) _
        (try go_simp)
        obtain ⟨own2, m2⟩ : ∃ own2, Mod (fun _ => False) ⟨own1, w1⟩ ⟨own2, w1.patch ⟨X0.blocks ++ X0'.blocks, X0'.drawn⟩⟩ := ⟨_, Mod.pt (Mod.refl _ _) _⟩
        generalize w1.patch ⟨X0.blocks ++ X0'.blocks, X0'.drawn⟩ = w2 at *
        have H2 := Lib.hid (H1.out.keep0 m2)
        have M2 := Lib.hid (M1.out.trans (m2.mono (fun _ => False.elim)))
        clear m2 H1 M1 a0 a1' a2 a3 a4 a5 a6' a7 a8 a9 a10 a11 a12 a13 a14 a15 a16 a17 a18 al
        obtain ⟨a0, a1, a2, a3, a4, a5, a6, a7, a8, a9, a10, a11, a12, a13, a14, a15, a16, a17, a18, al⟩ := H2.out.a.blk.c19
        have af3 := H2.out.a.blk.live 3
        have af10 := H2.out.a.blk.live 10
        have af11 := H2.out.a.blk.live 11
        have af12 := H2.out.a.blk.live 12
        have af13 := H2.out.a.blk.live 13
        have af14 := H2.out.a.blk.live 14
        have af15 := H2.out.a.blk.live 15
        have af16 := H2.out.a.blk.live 16
        have af17 := H2.out.a.blk.live 17
        have af18 := H2.out.a.blk.live 18
        (try simp only [GW.to] at a0 a1 a2 a3 a4 a5 a6 a7 a8 a9 a10 a11 a12 a13 a14 a15 a16 a17 a18 af3 af10 af11 af12 af13 af14 af15 af16 af17 af18 al)
        have R3 : AcRows ⟨own2, w2⟩ t W.a.began { p with fp := none, gotA := none, gotC := 0, wrA := none, wrC := 0 } := by
          obtain ⟨r1, r2, r3, r4, r5, r6, r7, r8, r9, r10, r11, r12⟩ := H2.out.a.r
          exact ⟨r1, r2, r3, r4, r5, (fun _ => rfl), (fun S hS => by cases hS), Seg.nil _ _ _, ⟨Nat.le_refl _, Nat.zero_le _⟩, Seg.nil _ _ _, rfl, ⟨(by show 0 / 2 ≤ 0; decide), Nat.zero_le _⟩⟩
        have H3 := Lib.hid (H2.out.turn (A' := W.a.began) (p' := { p with fp := none, gotA := none, gotC := 0, wrA := none, wrC := 0 }) HP.out (g' := ⟨own2, (((((((((w2.setCell ⟨b, 3, none⟩ (.int .i64 2)).setCell ⟨b, 10, none⟩ (.int .i64 0)).setCell ⟨b, 11, none⟩ (.int .i64 0)).setCell ⟨b, 12, none⟩ (.pointer none)).setCell ⟨b, 13, none⟩ (.int .i64 0)).setCell ⟨b, 14, none⟩ (.bool false)).setCell ⟨b, 15, none⟩ (.complex .f64 0 0)).setCell ⟨b, 16, none⟩ (.complex .f64 0 0)).setCell ⟨b, 17, none⟩ (.slice none 0 0)).setCell ⟨b, 18, none⟩ (.slice none 0 0)⟩) (Mod.st (Mod.st (Mod.st (Mod.st (Mod.st (Mod.st (Mod.st (Mod.st (Mod.st (Mod.st (Mod.refl _ _) H2.out.a.blk.own) H2.out.a.blk.own) H2.out.a.blk.own) H2.out.a.blk.own) H2.out.a.blk.own) H2.out.a.blk.own) H2.out.a.blk.own) H2.out.a.blk.own) H2.out.a.blk.own) H2.out.a.blk.own) (by
          have h := ((((((((((H2.out.a.blk).set 3 (.int .i64 2)).set 10 (.int .i64 0)).set 11 (.int .i64 0)).set 12 (.pointer none)).set 13 (.int .i64 0)).set 14 (.bool false)).set 15 (.complex .f64 0 0)).set 16 (.complex .f64 0 0)).set 17 (.slice none 0 0)).set 18 (.slice none 0 0)
          have hc : AcS.cells W.a.began { p with fp := none, gotA := none, gotC := 0, wrA := none, wrC := 0 } = (((((((((((W.a.cells p)).set 3 (.int .i64 2)).set 10 (.int .i64 0)).set 11 (.int .i64 0)).set 12 (.pointer none)).set 13 (.int .i64 0)).set 14 (.bool false)).set 15 (.complex .f64 0 0)).set 16 (.complex .f64 0 0)).set 17 (.slice none 0 0)).set 18 (.slice none 0 0) := by simp [AcS.cells, AcS.began]
          rw [hc]
          exact h) R3)
        have M3 := Lib.hid (show Mod (acT t B) g ⟨own2, (((((((((w2.setCell ⟨b, 3, none⟩ (.int .i64 2)).setCell ⟨b, 10, none⟩ (.int .i64 0)).setCell ⟨b, 11, none⟩ (.int .i64 0)).setCell ⟨b, 12, none⟩ (.pointer none)).setCell ⟨b, 13, none⟩ (.int .i64 0)).setCell ⟨b, 14, none⟩ (.bool false)).setCell ⟨b, 15, none⟩ (.complex .f64 0 0)).setCell ⟨b, 16, none⟩ (.complex .f64 0 0)).setCell ⟨b, 17, none⟩ (.slice none 0 0)).setCell ⟨b, 18, none⟩ (.slice none 0 0)⟩ from (Mod.st (Mod.st (Mod.st (Mod.st (Mod.st (Mod.st (Mod.st (Mod.st (Mod.st (Mod.st M2.out H2.out.modA) H2.out.modA) H2.out.modA) H2.out.modA) H2.out.modA) H2.out.modA) H2.out.modA) H2.out.modA) H2.out.modA) H2.out.modA))
        clear R3
        go_wp2_with fail
        exact bodyPost_end (results_none rfl _ _ _) rfl (Does.of ⟨own2, _⟩ rfl rfl M3.out (by rw [HW3.out]; exact H3.out.at_))
  by_cases h12 : W.a.pc = 1 ∨ W.a.pc = 2
  · have HK := Lib.hid (act_answers P HB.out.hand HB.out.n hgr HH0.out)
    have HW := Lib.hid (show W.border = (if W.answersB then W.answers.withA { W.answers.a with pc := 0 } else W.answers) by unfold AcW.border; rw [if_neg h0, if_pos h12])
    obtain ⟨a0, a1, a2, a3, a4, a5, a6, a7, a8, a9, a10, a11, a12, a13, a14, a15, a16, a17, a18, al⟩ := H.a.blk.c19
    (try simp only [GW.to] at a0 a1 a2 a3 a4 a5 a6 a7 a8 a9 a10 a11 a12 a13 a14 a15 a16 a17 a18 al)
    have hz0 : (W.a.pc == 0) = false := beq_eq_false_iff_ne.2 h0
    have hz12 : (W.a.pc == 1) = true ∨ ((W.a.pc == 1) = false ∧ (W.a.pc == 2) = true) := by
      rcases h12 with h | h
      · exact Or.inl (beq_iff_eq.2 h)
      · exact Or.inr ⟨by rw [h]; rfl, beq_iff_eq.2 h⟩
    clear H h0 hgr hg hok h12
    rcases hz12 with hz1 | ⟨hz1, hz2⟩
    · go_enter Tryz.func93, Tryz.ntmps93
      go_wp2_with fail
      refine HK.out.mono ?_
      rintro e w1 ⟨rfl, own1, m1, h1⟩
      have M1 := Lib.hid m1
      clear m1 HK a0 a1 a2 a3 a4 a5 a6 a7 a8 a9 a10 a11 a12 a13 a14 a15 a16 a17 a18 al
      cases ha : W.answersB
      · have HW2 := Lib.hid (show W.border = W.answers by rw [HW.out, ha]; rfl)
        have H1 := Lib.hid h1
        clear ha h1
        go_wp2_with fail
        exact bodyPost_end (results_none rfl _ _ _) rfl (Does.of ⟨own1, w1⟩ rfl rfl M1.out (by rw [HW2.out]; exact H1.out))
      · have HW2 := Lib.hid (show W.border = W.answers.withA { W.answers.a with pc := 0 } by rw [HW.out, ha]; rfl)
        obtain ⟨p1, bm1, bs1, bt1, bp1, bsp1, bh1, cm1, h1⟩ := h1
        have H1 := Lib.hid h1
        clear h1 ha
        have H2 := Lib.hid (H1.out.set HP.out 7 (.int .i64 0) { W.answers.a with pc := 0 } rfl ⟨rfl, rfl, rfl, rfl, rfl, rfl⟩)
        obtain ⟨a0, a1, a2, a3, a4, a5, a6, a7, a8, a9, a10, a11, a12, a13, a14, a15, a16, a17, a18, al⟩ := H1.out.a.blk.c19
        have af7 := H1.out.a.blk.live 7
        (try simp only [GW.to] at a0 a1 a2 a3 a4 a5 a6 a7 a8 a9 a10 a11 a12 a13 a14 a15 a16 a17 a18 af7 al)
        go_wp2_with fail
        exact bodyPost_end (results_none rfl _ _ _) rfl (Does.of ⟨own1, _⟩ rfl rfl (Mod.st M1.out H1.out.modA) (by rw [HW2.out]; exact H2.out.at_))
    · go_enter Tryz.func93, Tryz.ntmps93
      go_wp2_with fail
      refine HK.out.mono ?_
      rintro e w1 ⟨rfl, own1, m1, h1⟩
      have M1 := Lib.hid m1
      clear m1 HK a0 a1 a2 a3 a4 a5 a6 a7 a8 a9 a10 a11 a12 a13 a14 a15 a16 a17 a18 al
      cases ha : W.answersB
      · have HW2 := Lib.hid (show W.border = W.answers by rw [HW.out, ha]; rfl)
        have H1 := Lib.hid h1
        clear ha h1
        go_wp2_with fail
        exact bodyPost_end (results_none rfl _ _ _) rfl (Does.of ⟨own1, w1⟩ rfl rfl M1.out (by rw [HW2.out]; exact H1.out))
      · have HW2 := Lib.hid (show W.border = W.answers.withA { W.answers.a with pc := 0 } by rw [HW.out, ha]; rfl)
        obtain ⟨p1, bm1, bs1, bt1, bp1, bsp1, bh1, cm1, h1⟩ := h1
        have H1 := Lib.hid h1
        clear h1 ha
        have H2 := Lib.hid (H1.out.set HP.out 7 (.int .i64 0) { W.answers.a with pc := 0 } rfl ⟨rfl, rfl, rfl, rfl, rfl, rfl⟩)
        obtain ⟨a0, a1, a2, a3, a4, a5, a6, a7, a8, a9, a10, a11, a12, a13, a14, a15, a16, a17, a18, al⟩ := H1.out.a.blk.c19
        have af7 := H1.out.a.blk.live 7
        (try simp only [GW.to] at a0 a1 a2 a3 a4 a5 a6 a7 a8 a9 a10 a11 a12 a13 a14 a15 a16 a17 a18 af7 al)
        go_wp2_with fail
        exact bodyPost_end (results_none rfl _ _ _) rfl (Does.of ⟨own1, _⟩ rfl rfl (Mod.st M1.out H1.out.modA) (by rw [HW2.out]; exact H2.out.at_))
  have hz0 : (W.a.pc == 0) = false := beq_eq_false_iff_ne.2 h0
  have hz1 : (W.a.pc == 1) = false := beq_eq_false_iff_ne.2 (fun h => h12 (Or.inl h))
  have hz2 : (W.a.pc == 2) = false := beq_eq_false_iff_ne.2 (fun h => h12 (Or.inr h))
  by_cases h3 : W.a.pc = 3
  · have HW := Lib.hid (show W.border = (W.spc (drainS W.K.sp W.a.t)).withA { W.a with pc := 4 } by unfold AcW.border; rw [if_neg h0, if_neg h12, if_pos h3])
    have hz3 : (W.a.pc == 3) = true := beq_iff_eq.2 h3
    have HK := Lib.hid (fun X => space_drain W.a.t (g.pt X) B bsp bt W.K.sp (H.pt X).c.sp P.hb HB.out.sp)
    obtain ⟨a0, a1, a2, a3, a4, a5, a6, a7, a8, a9, a10, a11, a12, a13, a14, a15, a16, a17, a18, al⟩ := H.a.blk.c19
    (try simp only [GW.to] at a0 a1 a2 a3 a4 a5 a6 a7 a8 a9 a10 a11 a12 a13 a14 a15 a16 a17 a18 al)
    obtain ⟨c0, c1, c2, c3, c4, c5, c6, c7, c8, c9, c10, c11, c12, cl⟩ := H.c.blk.c13
    (try simp only [GW.to] at c0 c1 c2 c3 c4 c5 c6 c7 c8 c9 c10 c11 c12 cl)
    clear H h0 hgr hg hok h12 h3
    go_enter Tryz.func93, Tryz.ntmps93
    go_wp2_with fail
    refine wp_region_mixed [true, true, true, true, true, true, true, true, false] 1 8 (by kernel_rfl) (by kernel_rfl) (by kernel_rfl) ?_ (by decide) (by decide) (by decide) (by kernel_rfl) ?_
    · intro c a d v w h; cases d <;> exact h
    intro X00
    simp only [pickOps]
    repeat (go_big_quiet_step (fail))
    refine wpQuiet_nil (fun X0 => ?_)
    clear X00
    refine wpAnyM_tailL rfl (by kernel_rfl) (fun X2 => ?_)
    simp only [List.drop_succ_cons, List.drop_zero]
    go_wp2_with fail
    refine (HK.out _).mono ?_
    rintro e w1 ⟨rfl, own1, m1, h1⟩
    have P1 := (Mod.pt (Mod.refl _ _) _).trans m1
    have M1 := Lib.hid (P1.mono (S := acT t B) (fun x hx => acT_inst hx))
    have H1 := Lib.hid (HH.out.spc HP.out P1 h1)
    clear P1 m1 h1 HK a0 a1 a2 a3 a4 a5 a6 a7 a8 a9 a10 a11 a12 a13 a14 a15 a16 a17 a18 al c0 c1 c2 c3 c4 c5 c6 c7 c8 c9 c10 c11 c12 cl
    obtain ⟨a0, a1, a2, a3, a4, a5, a6, a7, a8, a9, a10, a11, a12, a13, a14, a15, a16, a17, a18, al⟩ := H1.out.a.blk.c19
    have af7 := H1.out.a.blk.live 7
    (try simp only [GW.to] at a0 a1 a2 a3 a4 a5 a6 a7 a8 a9 a10 a11 a12 a13 a14 a15 a16 a17 a18 af7 al)
    have H2 := Lib.hid (H1.out.set HP.out 7 (.int .i64 4) { W.a with pc := 4 } rfl ⟨rfl, rfl, rfl, rfl, rfl, rfl⟩)
    go_wp2_with fail
    exact bodyPost_end (results_none rfl _ _ _) rfl (Does.of ⟨own1, _⟩ rfl rfl (Mod.st M1.out H1.out.modA) (by rw [HW.out]; exact H2.out.at_))
  have hz3 : (W.a.pc == 3) = false := beq_eq_false_iff_ne.2 h3
  by_cases h4 : W.a.pc = 4
  · have HW := Lib.hid (show W.border = W.goes by unfold AcW.border; rw [if_neg h0, if_neg h12, if_neg h3, if_pos h4])
    have hz4 : (W.a.pc == 4) = true := beq_iff_eq.2 h4
    have HK := Lib.hid (act_goes P HB.out.hand hlen HH0.out)
    obtain ⟨a0, a1, a2, a3, a4, a5, a6, a7, a8, a9, a10, a11, a12, a13, a14, a15, a16, a17, a18, al⟩ := H.a.blk.c19
    (try simp only [GW.to] at a0 a1 a2 a3 a4 a5 a6 a7 a8 a9 a10 a11 a12 a13 a14 a15 a16 a17 a18 al)
    clear H h0 hgr hg hok h12 h3 h4
    go_enter Tryz.func93, Tryz.ntmps93
    go_wp2_with fail
    refine HK.out.mono ?_
    rintro e w1 ⟨rfl, own1, m1, h1⟩
    have M1 := Lib.hid m1
    have H1 := Lib.hid h1
    clear m1 h1
    go_wp2_with fail
    exact bodyPost_end (results_none rfl _ _ _) rfl (Does.of ⟨own1, w1⟩ rfl rfl M1.out (by rw [HW.out]; exact H1.out))
  · have HW := Lib.hid (show W.border = W by unfold AcW.border; rw [if_neg h0, if_neg h12, if_neg h3, if_neg h4])
    have hz4 : (W.a.pc == 4) = false := beq_eq_false_iff_ne.2 h4
    obtain ⟨a0, a1, a2, a3, a4, a5, a6, a7, a8, a9, a10, a11, a12, a13, a14, a15, a16, a17, a18, al⟩ := H.a.blk.c19
    (try simp only [GW.to] at a0 a1 a2 a3 a4 a5 a6 a7 a8 a9 a10 a11 a12 a13 a14 a15 a16 a17 a18 al)
    clear H h0 hgr hg hok h12 h3 h4
    go_enter Tryz.func93, Tryz.ntmps93
    go_wp2_with fail
    exact bodyPost_end (results_none rfl _ _ _) rfl (Does.of g rfl rfl (Mod.refl _ _) (by rw [HW.out]; exact HH.out.at_))
end
end Go.Proofs.YtcpeoflomdhidaaGreat

/-
  act: Step outside an operation (not there yet, or at the border).
-/
namespace Go.Proofs.YtcpeoflomdhidaaGreat
open Go Go.RowKit
set_option linter.unusedVariables false
set_option linter.unnecessarySimpa false
set_option linter.unusedSimpArgs false
set_option maxHeartbeats 2000000
set_option maxRecDepth 100000

section
variable {g : GW} {t b B k : Nat} {W : AcW}
theorem act_step_z [TbId] (P : AcApart t B) (H : AcWAt g t B b k W) (r : AcR) (h : W.stepZ = some r) :
    Calls Tryz.prog 33 #[.pointer (some ⟨b, 0, none⟩), .pointer (some ⟨k, 0, none⟩)] g.w (Does (resV r.1) g (acT t B) (fun g' => AcWAt g' t B b k r.2)) := by
  unfold AcW.stepZ at h
  cases hZ : (W.a.phase == 0 || W.a.phase == 1)
  · rw [hZ] at h; cases h
  rw [hZ, if_pos rfl] at h
  rw [Bool.or_eq_true, beq_iff_eq, beq_iff_eq] at hZ
  unfold AcW.stepR at h
  cases hR : W.okR
  · rw [hR] at h; cases h
  rw [hR, if_pos rfl] at h
  unfold AcW.okR at hR
  simp only [Bool.and_eq_true, Bool.or_eq_true, bne_iff_ne, ne_eq, decide_eq_true_eq, beq_iff_eq] at hR
  obtain ⟨h3, hw, hl2, hol, hck⟩ := hR
  unfold AcW.step at h
  cases hbd : W.bdB
  · rw [hbd, if_pos rfl] at h; cases h
  rw [if_neg (by rw [hbd]; simp)] at h
  have hd := bdB_of hbd
  obtain ⟨p, bm, bs, bt, bp, bsp, bh, cm, H⟩ := H
  have HH := Lib.hid H
  have HP := Lib.hid P
  have hPt := P.ht
  have hPb := P.hb
  have hPa := P.apart
  go_enter Tryz.func33, Tryz.ntmps33
  go_upto_region 1 with fail
  obtain ⟨own0, M0, R0⟩ := start1 g 85 resZ
  unfold resZ at M0 R0
  generalize (g.w.alloc (.cells #[.int .i64 0, .int .i64 0, .int .i64 0, .bool false, .complex .f64 0 0] 85)) = w0 at *
  have M0' := Lib.hid M0
  have R0' := Lib.hid R0
  clear M0 R0
  have H0 := Lib.hid (HH.out.keep0 M0'.out)
  have M0 := Lib.hid (M0'.out.mono (S := acT t B) (fun _ => False.elim))
  obtain ⟨a0, a1, a2, a3, a4, a5, a6, a7, a8, a9, a10, a11, a12, a13, a14, a15, a16, a17, a18, al⟩ := H0.out.a.blk.c19
  (try simp only [GW.to] at a0 a1 a2 a3 a4 a5 a6 a7 a8 a9 a10 a11 a12 a13 a14 a15 a16 a17 a18 al)
  clear H M0'
  by_cases h0 : W.a.phase = 0
  · rw [if_pos h0] at h
    injection h with h
    have HJ := Lib.hid (fun X => hand_join ((⟨own0, w0⟩ : GW).pt X) (B + 63) bh W.a.t W.K.hand (H0.out.pt X).c.hand hd.hand)
    obtain ⟨c0, c1, c2, c3, c4, c5, c6, c7, c8, c9, c10, c11, c12, cl⟩ := H0.out.c.blk.c13
    (try simp only [GW.to] at c0 c1 c2 c3 c4 c5 c6 c7 c8 c9 c10 c11 c12 cl)
    rw [h0] at a3
    cases hj : W.K.hand.mayJoin W.a.t
    · have HD := Lib.hid (show W.joins = { a := { W.a with phase := 4 }, K := { W.K with hand := W.K.hand.join W.a.t } } by unfold AcW.joins; rw [hj]; rfl)
      rw [show W.K.hand.joined W.a.t = .tuple #[.int .i64 0, .bool false, .bool false] by unfold HandS.joined; rw [hj]; rfl] at HJ
      clear hj h0 h3 hw hZ
      go_upto_region 3 with fail
      refine wp_region_split_any [] [true, true, true, true, true, true, true, true] 8 ?sp_o 7 ?sp1 ?sp2 ?spE ?sp3 ?sp4 ?sp5 ?sp6 ?sp7 ?sp8 ?sp9 ?sp10 ?sp11 ?sp12
      case sp10 => exact rfl
      case sp1 => kernel_rfl
      case sp2 => kernel_rfl
      case spE => kernel_rfl
      case sp3 => kernel_rfl
      case sp4 => (intro c a d v w h; cases d <;> exact h)
      case sp5 => decide
      case sp6 => decide
      case sp7 => decide
      case sp8 => kernel_rfl
      case sp9 => kernel_rfl
      case sp11 => exact rfl
      intro X00
      simp only [pickOps, movesAct, moveOf, List.getElem?_toArray, List.getElem?_cons_zero, List.getElem?_cons_succ]
      (try go_simp)
      repeat (go_big_quiet_step (fail))
      refine wpQuiet_nil (fun X0 K Q' hK => ?_)
      clear X00
      (try go_simp)
      refine (HJ.out _).mono ?_
      rintro e w1 ⟨rfl, own1, m1, h1⟩
      have P1 := (Mod.pt (Mod.refl _ _) _).trans m1
      have M1 := Lib.hid (M0.out.trans (P1.mono (S := acT t B) (fun x hx => acT_hand hx)))
      have H1 := Lib.hid (H0.out.hand HP.out P1 h1)
      have R1 := Lib.hid (R0'.out.keep P1 (by omega))
      clear P1 m1 h1 HJ H0 M0 R0'
      clear a0 a1 a2 a3 a4 a5 a6 a7 a8 a9 a10 a11 a12 a13 a14 a15 a16 a17 a18 al
      clear c0 c1 c2 c3 c4 c5 c6 c7 c8 c9 c10 c11 c12 cl
      obtain ⟨a0, a1, a2, a3, a4, a5, a6, a7, a8, a9, a10, a11, a12, a13, a14, a15, a16, a17, a18, al⟩ := H1.out.a.blk.c19
      have af3 := H1.out.a.blk.live 3
      (try simp only [GW.to] at a0 a1 a2 a3 a4 a5 a6 a7 a8 a9 a10 a11 a12 a13 a14 a15 a16 a17 a18 af3 al)
      (try go_simp)
      refine hK _ _ ?_
      clear hK K Q'
      refine wpAny_pure_step (v := .tuple #[.int .i64 0, .bool false, .bool false]) 9 _ rfl ?sp2 ?sp3 ?sp4 ?sp5 rfl (fun w => rfl) ?_
      case sp2 => kernel_rfl
      case sp3 => kernel_rfl
      case sp4 => kernel_rfl
      case sp5 => (intro c a d v w h; cases d <;> exact h)
      (try go_simp)
      refine wpAny_pure_step (v := .int .i64 0) 10 _ rfl ?sp2 ?sp3 ?sp4 ?sp5 rfl (fun w => rfl) ?_
      case sp2 => kernel_rfl
      case sp3 => kernel_rfl
      case sp4 => kernel_rfl
      case sp5 => (intro c a d v w h; cases d <;> exact h)
      (try go_simp)
      refine wpAny_pure_step (v := .bool false) 11 _ rfl ?sp2 ?sp3 ?sp4 ?sp5 rfl (fun w => rfl) ?_
      case sp2 => kernel_rfl
      case sp3 => kernel_rfl
      case sp4 => kernel_rfl
      case sp5 => (intro c a d v w h; cases d <;> exact h)
      (try go_simp)
      refine wpAny_pure_step (v := .bool false) 12 _ rfl ?sp2 ?sp3 ?sp4 ?sp5 rfl (fun w => rfl) ?_
      case sp2 => kernel_rfl
      case sp3 => kernel_rfl
      case sp4 => kernel_rfl
      case sp5 => (intro c a d v w h; cases d <;> exact h)
      (try go_simp)
      refine wpAny_loud_step 13 _ (by kernel_rfl) rfl rfl (fun K Q' hK => ?_)
      (try go_simp)
      refine hK _ _ ?_
      clear hK K Q'
      refine wpAny_loud_step 14 _ (by kernel_rfl) rfl rfl (fun K Q' hK => ?_)
      (try go_simp)
      refine hK _ _ ?_
      clear hK K Q'
      refine wpAny_loud_step 15 _ (by kernel_rfl) rfl rfl (fun K Q' hK => ?_)
      (try go_simp)
      refine hK _ _ ?_
      clear hK K Q'
      refine wpAny_done (by kernel_rfl) ?_ _
      have H2 := Lib.hid (H1.out.set HP.out 3 (.int .i64 4) { W.a with phase := 4 } rfl ⟨rfl, rfl, rfl, rfl, rfl, rfl⟩)
      have m2 : Mod (fun x => x = t) (⟨own1, w1⟩ : GW) ⟨own1, w1.setCell ⟨b, 3, none⟩ (.int .i64 4)⟩ := Mod.st (Mod.refl _ _) H1.out.a.blk.own
      have M2 := Lib.hid (M1.out.trans (m2.mono (S := acT t B) (fun x hx => acT_t hx)))
      have R2 := Lib.hid (R1.out.keep m2 (by omega))
      go_upto_region 16 with fail
      generalize w1.setCell ⟨b, 3, none⟩ (.int .i64 4) = w2 at *
      clear m2 M1 H1 R1
      obtain ⟨r0, r1, r2, r3, r4, rl⟩ := R2.out.c5
      have rf0 := R2.out.live 0
      have rf1 := R2.out.live 1
      have rf2 := R2.out.live 2
      have rf3 := R2.out.live 3
      have rf4 := R2.out.live 4
      (try simp only [GW.to] at r0 r1 r2 r3 r4 rf0 rf1 rf2 rf3 rf4 rl)
      go_wp2_with fail
      obtain ⟨Mf, mf, Rf⟩ := put_res M2.out R2.out (Nat.le_refl _) (0) (0) (0) (false) (0) (0)
      generalize ((((((w2).setCell ⟨g.w.heap.size, 0, none⟩ (.int .i64 (0))).setCell ⟨g.w.heap.size, 1, none⟩ (.int .i64 (0))).setCell ⟨g.w.heap.size, 2, none⟩ (.int .i64 (0))).setCell ⟨g.w.heap.size, 3, none⟩ (.bool (false))).setCell ⟨g.w.heap.size, 4, none⟩ (.complex .f64 (0) (0))) = wf at *
      obtain ⟨f0, f1, f2, f3, f4, fl⟩ := Rf.c5
      (try simp only [GW.to] at f0 f1 f2 f3 f4 fl)
      refine bodyPost_ret (v := .tuple #[.agg #[.int .i64 (0), .int .i64 (0), .int .i64 (0), .bool (false), .complex .f64 (0) (0)], .bool false]) (by simp [results, Tryz.results33, go_sem, f0, f1, f2, f3, f4]) rfl ?_
      exact Does.of ⟨own1, wf⟩ rfl (by rw [← h]; rfl) Mf (by rw [← h, show W.joins.no.2 = W.joins from rfl, HD.out]; exact (H2.out.keep mf (by omega) (fun x (hx : x = 9) => by omega) (fun x (hx : x = 9) => by omega)).at_)
    · have HD := Lib.hid (show W.joins = { a := { W.a with status := W.K.hand.status, sense := W.K.hand.sense, phase := 1, pc := 0 }, K := { W.K with hand := W.K.hand.join W.a.t } } by unfold AcW.joins; rw [hj]; rfl)
      rw [show W.K.hand.joined W.a.t = .tuple #[.int .i64 W.K.hand.status, .bool W.K.hand.sense, .bool true] by unfold HandS.joined; rw [hj]; rfl] at HJ
      generalize W.K.hand.status = st at *
      generalize W.K.hand.sense = se at *
      clear hj h0 h3 hw hZ
      go_upto_region 3 with fail
      refine wp_region_split_any [] [true, true, true, true, true, true, true, true] 8 ?sp_ox1 7 ?sp1x1 ?sp2x1 ?spEx1 ?sp3x1 ?sp4x1 ?sp5x1 ?sp6x1 ?sp7x1 ?sp8x1 ?sp9x1 ?sp10x1 ?sp11x1 ?sp12x1
      case sp10x1 => exact rfl
      case sp1x1 => kernel_rfl
      case sp2x1 => kernel_rfl
      case spEx1 => kernel_rfl
      case sp3x1 => kernel_rfl
      case sp4x1 => (intro c a d v w h; cases d <;> exact h)
      case sp5x1 => decide
      case sp6x1 => decide
      case sp7x1 => decide
      case sp8x1 => kernel_rfl
      case sp9x1 => kernel_rfl
      case sp11x1 => exact rfl
      intro X00
      simp only [pickOps, movesAct, moveOf, List.getElem?_toArray, List.getElem?_cons_zero, List.getElem?_cons_succ]
      (try go_simp)
      repeat (go_big_quiet_step (fail))
      refine wpQuiet_nil (fun X0 K Q' hK => ?_)
      clear X00
      (try go_simp)
      refine (HJ.out _).mono ?_
      rintro e w1 ⟨rfl, own1, m1, h1⟩
      have P1 := (Mod.pt (Mod.refl _ _) _).trans m1
      have M1 := Lib.hid (M0.out.trans (P1.mono (S := acT t B) (fun x hx => acT_hand hx)))
      have H1 := Lib.hid (H0.out.hand HP.out P1 h1)
      have R1 := Lib.hid (R0'.out.keep P1 (by omega))
      clear P1 m1 h1 HJ H0 M0 R0'
      clear a0 a1 a2 a3 a4 a5 a6 a7 a8 a9 a10 a11 a12 a13 a14 a15 a16 a17 a18 al
      clear c0 c1 c2 c3 c4 c5 c6 c7 c8 c9 c10 c11 c12 cl
      obtain ⟨a0, a1, a2, a3, a4, a5, a6, a7, a8, a9, a10, a11, a12, a13, a14, a15, a16, a17, a18, al⟩ := H1.out.a.blk.c19
      have af3 := H1.out.a.blk.live 3
      have af4 := H1.out.a.blk.live 4
      have af5 := H1.out.a.blk.live 5
      have af7 := H1.out.a.blk.live 7
      (try simp only [GW.to] at a0 a1 a2 a3 a4 a5 a6 a7 a8 a9 a10 a11 a12 a13 a14 a15 a16 a17 a18 af3 af4 af5 af7 al)
      (try go_simp)
      refine hK _ _ ?_
      clear hK K Q'
      refine wpAny_pure_step (v := .tuple #[.int .i64 st, .bool se, .bool true]) 9 _ rfl ?sp2 ?sp3 ?sp4 ?sp5 rfl (fun w => rfl) ?_
      case sp2 => kernel_rfl
      case sp3 => kernel_rfl
      case sp4 => kernel_rfl
      case sp5 => (intro c a d v w h; cases d <;> exact h)
      (try go_simp)
      refine wpAny_pure_step (v := .int .i64 st) 10 _ rfl ?sp2 ?sp3 ?sp4 ?sp5 rfl (fun w => rfl) ?_
      case sp2 => kernel_rfl
      case sp3 => kernel_rfl
      case sp4 => kernel_rfl
      case sp5 => (intro c a d v w h; cases d <;> exact h)
      (try go_simp)
      refine wpAny_pure_step (v := .bool se) 11 _ rfl ?sp2 ?sp3 ?sp4 ?sp5 rfl (fun w => rfl) ?_
      case sp2 => kernel_rfl
      case sp3 => kernel_rfl
      case sp4 => kernel_rfl
      case sp5 => (intro c a d v w h; cases d <;> exact h)
      (try go_simp)
      refine wpAny_pure_step (v := .bool true) 12 _ rfl ?sp2 ?sp3 ?sp4 ?sp5 rfl (fun w => rfl) ?_
      case sp2 => kernel_rfl
      case sp3 => kernel_rfl
      case sp4 => kernel_rfl
      case sp5 => (intro c a d v w h; cases d <;> exact h)
      (try go_simp)
      refine wpAny_loud_step 13 _ (by kernel_rfl) rfl rfl (fun K Q' hK => ?_)
      (try go_simp)
      refine hK _ _ ?_
      clear hK K Q'
      refine wpAny_loud_step 14 _ (by kernel_rfl) rfl rfl (fun K Q' hK => ?_)
      (try go_simp)
      refine hK _ _ ?_
      clear hK K Q'
      refine wpAny_loud_step 15 _ (by kernel_rfl) rfl rfl (fun K Q' hK => ?_)
      (try go_simp)
      refine hK _ _ ?_
      clear hK K Q'
      refine wpAny_done (by kernel_rfl) ?_ _
      have H2 := Lib.hid ((((H1.out.set HP.out 4 (.int .i64 st) { W.a with status := st } rfl ⟨rfl, rfl, rfl, rfl, rfl, rfl⟩).set HP.out 5 (.bool se) { W.a with status := st, sense := se } rfl ⟨rfl, rfl, rfl, rfl, rfl, rfl⟩).set HP.out 3 (.int .i64 1) { W.a with status := st, sense := se, phase := 1 } rfl ⟨rfl, rfl, rfl, rfl, rfl, rfl⟩).set HP.out 7 (.int .i64 0) { W.a with status := st, sense := se, phase := 1, pc := 0 } rfl ⟨rfl, rfl, rfl, rfl, rfl, rfl⟩)
      have m2 : Mod (fun x => x = t) (⟨own1, w1⟩ : GW) ⟨own1, (((w1.setCell ⟨b, 4, none⟩ (.int .i64 st)).setCell ⟨b, 5, none⟩ (.bool se)).setCell ⟨b, 3, none⟩ (.int .i64 1)).setCell ⟨b, 7, none⟩ (.int .i64 0)⟩ := Mod.st (Mod.st (Mod.st (Mod.st (Mod.refl _ _) H1.out.a.blk.own) H1.out.a.blk.own) H1.out.a.blk.own) H1.out.a.blk.own
      have M2 := Lib.hid (M1.out.trans (m2.mono (S := acT t B) (fun x hx => acT_t hx)))
      have R2 := Lib.hid (R1.out.keep m2 (by omega))
      go_upto_region 16 with fail
      generalize (((w1.setCell ⟨b, 4, none⟩ (.int .i64 st)).setCell ⟨b, 5, none⟩ (.bool se)).setCell ⟨b, 3, none⟩ (.int .i64 1)).setCell ⟨b, 7, none⟩ (.int .i64 0) = w2 at *
      clear m2 M1 H1 R1
      obtain ⟨r0, r1, r2, r3, r4, rl⟩ := R2.out.c5
      have rf0 := R2.out.live 0
      have rf1 := R2.out.live 1
      have rf2 := R2.out.live 2
      have rf3 := R2.out.live 3
      have rf4 := R2.out.live 4
      (try simp only [GW.to] at r0 r1 r2 r3 r4 rf0 rf1 rf2 rf3 rf4 rl)
      go_wp2_with fail
      obtain ⟨Mf, mf, Rf⟩ := put_res M2.out R2.out (Nat.le_refl _) (0) (0) (0) (false) (0) (0)
      generalize ((((((w2).setCell ⟨g.w.heap.size, 0, none⟩ (.int .i64 (0))).setCell ⟨g.w.heap.size, 1, none⟩ (.int .i64 (0))).setCell ⟨g.w.heap.size, 2, none⟩ (.int .i64 (0))).setCell ⟨g.w.heap.size, 3, none⟩ (.bool (false))).setCell ⟨g.w.heap.size, 4, none⟩ (.complex .f64 (0) (0))) = wf at *
      obtain ⟨f0, f1, f2, f3, f4, fl⟩ := Rf.c5
      (try simp only [GW.to] at f0 f1 f2 f3 f4 fl)
      refine bodyPost_ret (v := .tuple #[.agg #[.int .i64 (0), .int .i64 (0), .int .i64 (0), .bool (false), .complex .f64 (0) (0)], .bool false]) (by simp [results, Tryz.results33, go_sem, f0, f1, f2, f3, f4]) rfl ?_
      exact Does.of ⟨own1, wf⟩ rfl (by rw [← h]; rfl) Mf (by rw [← h, show W.joins.no.2 = W.joins from rfl, HD.out]; exact (H2.out.keep mf (by omega) (fun x (hx : x = 9) => by omega) (fun x (hx : x = 9) => by omega)).at_)
  rw [if_neg h0] at h
  by_cases h1 : W.a.phase = 1
  · rw [if_pos h1] at h
    split at h
    case isFalse => cases h
    case isTrue hg =>
      injection h with h
      have HB := Lib.hid (act_border (g := ⟨own0, w0⟩) P hbd hg hl2 hol H0.out.at_)
      rw [h1] at a3
      clear h0 h1 h3 hw hg hbd hZ
      go_wp2_with fail
      refine HB.out.mono ?_
      rintro e w1 ⟨rfl, own1, m1, h1⟩
      obtain ⟨p1, bm1, bs1, bt1, bp1, bsp1, bh1, cm1, h1⟩ := h1
      have M1 := Lib.hid (M0.out.trans m1)
      have H1 := Lib.hid h1
      have R1 := Lib.hid (R0'.out.keep m1 (fun h => by unfold acT at h; omega))
      clear m1 h1 HB H0 M0 R0'
      clear a0 a1 a2 a3 a4 a5 a6 a7 a8 a9 a10 a11 a12 a13 a14 a15 a16 a17 a18 al
      obtain ⟨r0, r1, r2, r3, r4, rl⟩ := R1.out.c5
      have rf0 := R1.out.live 0
      have rf1 := R1.out.live 1
      have rf2 := R1.out.live 2
      have rf3 := R1.out.live 3
      have rf4 := R1.out.live 4
      (try simp only [GW.to] at r0 r1 r2 r3 r4 rf0 rf1 rf2 rf3 rf4 rl)
      go_wp2_with fail
      obtain ⟨Mf, mf, Rf⟩ := put_res M1.out R1.out (Nat.le_refl _) (0) (0) (0) (false) (0) (0)
      generalize ((((((w1).setCell ⟨g.w.heap.size, 0, none⟩ (.int .i64 (0))).setCell ⟨g.w.heap.size, 1, none⟩ (.int .i64 (0))).setCell ⟨g.w.heap.size, 2, none⟩ (.int .i64 (0))).setCell ⟨g.w.heap.size, 3, none⟩ (.bool (false))).setCell ⟨g.w.heap.size, 4, none⟩ (.complex .f64 (0) (0))) = wf at *
      obtain ⟨f0, f1, f2, f3, f4, fl⟩ := Rf.c5
      (try simp only [GW.to] at f0 f1 f2 f3 f4 fl)
      refine bodyPost_ret (v := .tuple #[.agg #[.int .i64 (0), .int .i64 (0), .int .i64 (0), .bool (false), .complex .f64 (0) (0)], .bool false]) (by simp [results, Tryz.results33, go_sem, f0, f1, f2, f3, f4]) rfl ?_
      exact Does.of ⟨own1, wf⟩ rfl (by rw [← h]; rfl) Mf (by rw [← h]; exact (H1.out.keep mf (by omega) (fun x (hx : x = 9) => by omega) (fun x (hx : x = 9) => by omega)).at_)
  exact absurd hZ (by omega)
end
end Go.Proofs.YtcpeoflomdhidaaGreat

/-
  slices.Clone at op.Op and op.Value.
-/
namespace Go.Proofs.YtcpeoflomdhidaaGreat
open Go Go.RowKit
set_option linter.unusedVariables false
set_option maxHeartbeats 2000000
attribute [local go_sem] Lib.run_eql_slice_nil
theorem infoOp : (Tryz.prog.info? 80).map (fun i => (i.zero, i.size, i.bytes)) = some (some (.agg #[.int .i64 0, .int .i64 0, .int .i64 0, .int .i64 0, .int .i64 0, .complex .f64 0 0]), 6, 56) := by kernel_rfl
theorem oflat_len (l : List Opr) : (l.flatMap Opr.cells).length = l.length * 6 := by
  induction l with
  | nil => rfl
  | cons x l ih => simp [List.flatMap_cons, Opr.cells, ih]; omega
def ClonedRow (t : Nat) (E : TypeId) (size n : Nat) (xs : List Value) (g : GW) (e : Ending) (w' : World) : Prop :=
  ∃ A' c', e = .returned (.slice A' n c') ∧ Mod (fun _ => False) g (g.to t w') ∧ Row (g.to t w') t E size (.slice A' n c') n xs ∧ Ext g.w w' ∧ (∀ a, A' = some a → g.w.heap.size ≤ a.block) ∧ n ≤ c' ∧ c' ≤ 9223372036854775807
theorem clone_ops (A : Option Addr) (cap : Nat) (l : List Opr) (t : Nat) (g : GW) (hc : CellsAt g.w A (l.flatMap Opr.cells)) (hl : l.length ≤ 1000000) :
    Calls Tryz.prog 166 #[.slice A l.length cap] g.w (ClonedRow t 80 6 l.length (l.flatMap Opr.cells) g) := by
  obtain ⟨i0, hi, hz0, hz1, hz2⟩ := info_parts infoOp
  have hq := fun w => Lib.run_eql_slice_nil (P := Tryz.prog) w 81 80 A l.length cap 0 0 Tryz.underlying81
  rcases A with _ | ad
  · obtain rfl : l = [] := by
      rcases l with _ | ⟨x, l⟩
      · rfl
      · obtain ⟨b, o, h, _⟩ := hc.at_ (i := 0) (by simp [Opr.cells])
        cases h
    go_enter Tryz.func166, Tryz.ntmps166
    go_wp2_with fail
    go_ret
    exact ⟨none, 0, rfl, Mod.ext (Ext.refl _) _, Row.nil _ _ _ _, Ext.refl _, (fun a h => by cases h), Nat.le_refl _, by decide⟩
  · go_enter Tryz.func166, Tryz.ntmps166
    go_wp2_with (at_builtin; refine wpList_append_own _ rfl (.tmp 5) (.tmp 6) 81 rfl g.w.heap.size 80 i0 (.agg #[.int .i64 0, .int .i64 0, .int .i64 0, .int .i64 0, .int .i64 0, .complex .f64 0 0]) 6 56 Tryz.underlying81 hi hz0 hz1 hz2 rfl (by decide) _ _ _ rfl (World.ownsRow_made (cap := 0) _ #[] (Nat.le_refl _) (by decide) rfl) ad l.length cap (l.flatMap Opr.cells) rfl (by rw [oflat_len]) (cells_add (hc.alloc _)) (by intro u hu; simp [Opr.cells] at hu; obtain ⟨_, _, hu⟩ := hu; rcases hu with rfl | rfl | rfl | rfl | rfl | rfl <;> rfl) (by unfold maxLen; omega) (by omega) (by simp) ?_; intro v' w1 hown hgrow hn)
    simp only [Nat.zero_add, List.nil_append] at hown
    obtain ⟨A', c', hv⟩ := own_form hown
    rw [hv] at hown
    have HV := Lib.hid hv
    clear hv
    go_ret
    have he : Ext g.w w1 := ext_grown (Ext.alloc (Ext.refl _) _) hgrow (fun k hk => by cases hk; exact Nat.le_refl _)
    have hf := own_fresh hown
    have hle := own_len hown
    exact ⟨A', c', congrArg Ending.returned HV.out, Mod.ext he _, ⟨own_lower hown (Nat.zero_le _), fun k hk => GW.to_new (by
      cases A' with
      | none => cases hk
      | some a => injection hk with hk; subst hk; exact hf a rfl)⟩, he, hf, hle.1, hle.2⟩
end Go.Proofs.YtcpeoflomdhidaaGreat

