import Derived.Test.YtoaehfdjffejeaaGreatKL18
/-
  Packed: ActE, Pures, ActF.
-/
open Go.Ext renaming alloc → zA, patch → zP, drew → zD, drewN → zN, more → zM, refl → zR, setCell → zS
open Nat renaming le_refl → zL, le_add_right → zK
/-
  act: answers, goes, border.
-/
namespace Go.Proofs.YtoaehfdjffejeaaGreat
open Go Go.RowKit
set_option linter.unusedVariables false
set_option linter.unnecessarySimpa false
set_option linter.unusedSimpArgs false
set_option maxHeartbeats 2000000
set_option maxRecDepth 100000

theorem seg_tail {g : GW} {t q o : Nat} {x : Value} {xs : List Value} (h : Seg g t (some ⟨q, o, none⟩) (x :: xs)) : Seg g t (some ⟨q, o + 1, none⟩) xs :=
  ⟨fun i v hi => by
    obtain ⟨b, o', hA, hb, hc⟩ := h.cells (i + 1) v (by simpa using hi)
    injection hA with hA
    injection hA with h1 h2
    subst h1 h2
    exact ⟨q, o + 1, rfl, hb, by rw [show o + 1 + i = o + (i + 1) by omega]; exact hc⟩, fun a ha _ => by
    injection ha with ha
    subst ha
    exact h.own ⟨q, o, none⟩ rfl (by simp)⟩
structure AcW.BdS (W : AcW) : Prop where
  own : 0 ≤ W.a.own ∧ W.a.own ≤ 1099511627776
  next : 0 ≤ W.a.next ∧ W.a.next ≤ 1099511627776
  hand : 0 ≤ W.K.hand.count ∧ W.K.hand.count ≤ 1099511627776
  sp : 0 ≤ W.K.sp.count ∧ W.K.sp.count ≤ 1099511627776
  mem : 0 ≤ W.K.mem.count ∧ W.K.mem.count ≤ 1099511627776
  n : 0 ≤ W.K.n ∧ W.K.n ≤ 1099511627776
  line : W.K.sp.line.length < 1000000
theorem bdB_of {W : AcW} (h : W.bdB = true) : W.BdS := by
  unfold AcW.bdB AcW.cntOk at h
  simp only [Bool.and_eq_true, decide_eq_true_eq] at h
  obtain ⟨⟨⟨⟨⟨⟨h1, h2⟩, h3⟩, h4⟩, h5⟩, h6⟩, h7⟩ := h
  exact ⟨h1, h2, h3, h4, h5, h6, h7⟩
theorem greyOk_of {W : AcW} (h : W.greyOk = true) (h1 : W.a.pc = 1) : W.a.grey ≠ [] := by
  unfold AcW.greyOk at h
  rw [h1] at h
  intro e
  rw [e] at h
  cases h
section
variable {g : GW} {t B b k : Nat} {W : AcW}
theorem act_answers [TbId] (P : AcApart t B) (hc : 0 ≤ W.K.hand.count ∧ W.K.hand.count ≤ 1099511627776) (hn : 0 ≤ W.K.n ∧ W.K.n ≤ 1099511627776) (hg : W.a.pc = 1 → W.a.grey ≠ []) (H : AcWAt g t B b k W) : Calls Tryz.prog 51 #[.pointer (some ⟨b, 0, none⟩), .pointer (some ⟨k, 0, none⟩)] g.w (Does (.bool W.answersB) g (acT t B) (fun g' => AcWAt g' t B b k W.answers)) := by
  obtain ⟨p, bm, bs, bt, bp, bsp, bh, cm, H⟩ := H
  have HH := Lib.hid H
  have HP := Lib.hid P
  have HV := Lib.hid (show W.answersB = (W.a.pc != 1) from rfl)
  by_cases h1 : W.a.pc = 1
  · have HV2 := Lib.hid (show W.answersB = false by rw [HV.out, h1]; rfl)
    have HW := Lib.hid (show W.answers = (W.greyK (W.a.grey.headD 0)).withA { W.a with grey := W.a.grey.tail, pc := if W.a.grey.tail = [] then 2 else 1 } from if_pos h1)
    obtain ⟨y, l, hyl⟩ := List.exists_cons_of_ne_nil (hg h1)
    have HG := Lib.hid (show W.a.grey = y :: l from hyl)
    obtain ⟨q, o, hA, hq, hcell⟩ := H.a.r.grey.cells.cases (by rw [hyl]; simp)
    have k0 := hcell 0 (.int .i64 y) (by rw [hyl]; rfl)
    simp only [Nat.add_zero] at k0
    have HS := Lib.hid (fun X => shade_grey (g.pt X) (B + 60) bs bt (B + 50) bp (B + 61) W.K.sp.tab W.K.pile W.K.n y W.a.sense (H.pt X).c.shd hn (by omega) (by omega) (by omega))
    have hz : (W.a.pc == 1) = true := beq_iff_eq.2 h1
    have hgC := H.a.r.greyC
    rw [hyl] at hgC
    simp only [List.length_cons] at hgC
    obtain ⟨a0, a1, a2, a3, a4, a5, a6, a7, a8, a9, a10, a11, a12, a13, a14, a15, a16, a17, a18, al⟩ := H.a.blk.c19
    (try simp only [GW.to] at a0 a1 a2 a3 a4 a5 a6 a7 a8 a9 a10 a11 a12 a13 a14 a15 a16 a17 a18 al)
    obtain ⟨c0, c1, c2, c3, c4, c5, c6, c7, c8, c9, c10, c11, c12, cl⟩ := H.c.blk.c13
    (try simp only [GW.to] at c0 c1 c2 c3 c4 c5 c6 c7 c8 c9 c10 c11 c12 cl)
    rw [hA, hyl] at a9
    simp only [List.length_cons] at a9
    rw [hyl] at HW
    simp only [List.headD_cons, List.tail_cons] at HW
    have h1' := h1
    clear H hc hn hg h1 hyl hcell
    go_enter Tryz.func51, Tryz.ntmps51
    go_wp2_with fail
    refine wp_region_mixed [true, true, true, true, true, true, true, true, true, true, true, true, true, true, false] 1 14 (by kernel_rfl) (by kernel_rfl) (by kernel_rfl) ?_ (by decide) (by decide) (by decide) (by kernel_rfl) ?_
    · intro c a d v w h; cases d <;> exact h
    intro X00
    simp only [pickOps]
    repeat (go_big_quiet_step (fail))
    refine wpQuiet_nil (fun X0 => ?_)
    clear X00
    refine wpAnyM_tailL rfl (by kernel_rfl) (fun X2 => ?_)
    simp only [List.drop_succ_cons, List.drop_zero]
    go_wp2_with fail
    refine (HS.out _).mono ?_
    rintro e w1 ⟨rfl, own1, m1, h1⟩
    have P1 := (Mod.pt (Mod.refl _ _) _).trans m1
    have M1 := Lib.hid (P1.mono (S := acT t B) (fun x hx => acT_shd hx))
    have H1 := Lib.hid (show AcIn ⟨own1, w1⟩ t B b k (W.greyK y) p bm bs bt bp bsp bh cm from HH.out.greyK HP.out P1 h1)
    have hq1 : q < w1.heap.size := Nat.lt_of_lt_of_le hq P1.size
    clear P1 m1 h1 HS a0 a1 a2 a3 a4 a5 a6 a7 a8 a9 a10 a11 a12 a13 a14 a15 a16 a17 a18 al c0 c1 c2 c3 c4 c5 c6 c7 c8 c9 c10 c11 c12 cl k0 hq
    have HPC := Lib.hid (show (W.greyK y).a.pc = 1 from h1')
    have HSG := Lib.hid (show Seg ⟨own1, w1⟩ (t + 4) (some ⟨q, o, none⟩) (.int .i64 y :: l.map (Value.int .i64)) from by have h := H1.out.a.r.grey; rw [show (W.greyK y).a.grey = y :: l from HG.out, hA] at h; exact h)
    obtain ⟨a0, a1, a2, a3, a4, a5, a6, a7, a8, a9, a10, a11, a12, a13, a14, a15, a16, a17, a18, al⟩ := H1.out.a.blk.c19
    have af9 := H1.out.a.blk.live 9
    have af7 := H1.out.a.blk.live 7
    (try simp only [GW.to] at a0 a1 a2 a3 a4 a5 a6 a7 a8 a9 a10 a11 a12 a13 a14 a15 a16 a17 a18 af9 af7 al)
    rw [show (W.greyK y).a.grey = y :: l from HG.out, hA] at a9
    simp only [List.length_cons] at a9
    clear hA
    by_cases hC : p.greyC = 1
    · have hl0 : l = [] := List.length_eq_zero_iff.1 (by omega)
      have SL := Lib.hid (Seg.nil ⟨own1, w1⟩ (t + 4) (some ⟨q, o, none⟩))
      subst hl0
      have R2 : AcRows ⟨own1, w1⟩ t { W.a with grey := ([] : List Int), pc := 1 } { p with greyA := (some ⟨q, o, none⟩), greyC := 0 } := by
        obtain ⟨r1, r2, r3, r4, r5, r6, r7, r8, r9, r10, r11, r12⟩ := H1.out.a.r
        exact ⟨r1, r2, r3, SL.out, ⟨(by have := hgC.1; show (([] : List Int)).length ≤ 0; simp only [List.length_cons, List.length_nil] at this ⊢; omega), (by show 0 ≤ _; omega)⟩, r6, r7, r8, r9, r10, r11, r12⟩
      have H2 := Lib.hid (H1.out.turn (A' := { W.a with grey := ([] : List Int), pc := 1 }) (p' := { p with greyA := (some ⟨q, o, none⟩), greyC := 0 }) HP.out (g' := ⟨own1, w1.setCell ⟨b, 9, none⟩ (.slice (some ⟨q, o, none⟩) (([] : List Int)).length (0))⟩) (Mod.st (Mod.refl _ _) H1.out.a.blk.own) (by
        have h := H1.out.a.blk.set 9 (.slice (some ⟨q, o, none⟩) (([] : List Int)).length (0))
        have hc : AcS.cells { W.a with grey := ([] : List Int), pc := 1 } { p with greyA := (some ⟨q, o, none⟩), greyC := 0 } = ((W.greyK y).a.cells p).set 9 (.slice (some ⟨q, o, none⟩) (([] : List Int)).length (0)) := by
          unfold AcS.cells
          rw [HPC.out]
          rfl
        rw [hc]
        exact h) R2)
      have M2 := Lib.hid (show Mod (acT t B) g ⟨own1, w1.setCell ⟨b, 9, none⟩ (.slice (some ⟨q, o, none⟩) (([] : List Int)).length (0))⟩ from Mod.st M1.out H1.out.modA)
      clear R2
      go_upto_region 4 with fail
      generalize w1.setCell ⟨b, 9, none⟩ (.slice (some ⟨q, o, none⟩) _ (0)) = w2 at *
      clear a0 a1 a2 a3 a4 a5 a6 a7 a8 a9 a10 a11 a12 a13 a14 a15 a16 a17 a18 al af9 af7 H1 M1
      obtain ⟨a0, a1, a2, a3, a4, a5, a6, a7, a8, a9, a10, a11, a12, a13, a14, a15, a16, a17, a18, al⟩ := H2.out.a.blk.c19
      have af7 := H2.out.a.blk.live 7
      (try simp only [GW.to] at a0 a1 a2 a3 a4 a5 a6 a7 a8 a9 a10 a11 a12 a13 a14 a15 a16 a17 a18 af7 al)
      (try simp only [AcW.withA, List.length_cons, List.length_nil] at a9)
      have H3 := Lib.hid (H2.out.set HP.out 7 (.int .i64 2) { W.a with grey := [], pc := 2 } rfl ⟨rfl, rfl, rfl, rfl, rfl, rfl⟩)
      have M3 := Lib.hid (show Mod (acT t B) g ⟨own1, w2.setCell ⟨b, 7, none⟩ (.int .i64 2)⟩ from Mod.st M2.out H2.out.modA)
      have hzz : ((((0 : Nat) : Int)) == 0) = true := rfl
      go_wp2_with fail
      go_ret
      exact Does.of ⟨own1, _⟩ rfl (by rw [HV2.out]; try rfl) M3.out (by rw [HW.out]; exact H3.out.at_)
    · have SL := Lib.hid (seg_tail HSG.out)
      cases l with
      | nil =>
        have R2 : AcRows ⟨own1, w1⟩ t { W.a with grey := ([] : List Int), pc := 1 } { p with greyA := (some ⟨q, o + 1, none⟩), greyC := (p.greyC - 1) } := by
          obtain ⟨r1, r2, r3, r4, r5, r6, r7, r8, r9, r10, r11, r12⟩ := H1.out.a.r
          exact ⟨r1, r2, r3, SL.out, ⟨(by have := hgC.1; show (([] : List Int)).length ≤ (p.greyC - 1); simp only [List.length_cons, List.length_nil] at this ⊢; omega), (by show (p.greyC - 1) ≤ _; omega)⟩, r6, r7, r8, r9, r10, r11, r12⟩
        have H2 := Lib.hid (H1.out.turn (A' := { W.a with grey := ([] : List Int), pc := 1 }) (p' := { p with greyA := (some ⟨q, o + 1, none⟩), greyC := (p.greyC - 1) }) HP.out (g' := ⟨own1, w1.setCell ⟨b, 9, none⟩ (.slice (some ⟨q, o + 1, none⟩) (([] : List Int)).length ((p.greyC - 1)))⟩) (Mod.st (Mod.refl _ _) H1.out.a.blk.own) (by
          have h := H1.out.a.blk.set 9 (.slice (some ⟨q, o + 1, none⟩) (([] : List Int)).length ((p.greyC - 1)))
          have hc : AcS.cells { W.a with grey := ([] : List Int), pc := 1 } { p with greyA := (some ⟨q, o + 1, none⟩), greyC := (p.greyC - 1) } = ((W.greyK y).a.cells p).set 9 (.slice (some ⟨q, o + 1, none⟩) (([] : List Int)).length ((p.greyC - 1))) := by
            unfold AcS.cells
            rw [HPC.out]
            rfl
          rw [hc]
          exact h) R2)
        have M2 := Lib.hid (show Mod (acT t B) g ⟨own1, w1.setCell ⟨b, 9, none⟩ (.slice (some ⟨q, o + 1, none⟩) (([] : List Int)).length ((p.greyC - 1)))⟩ from Mod.st M1.out H1.out.modA)
        clear R2
        go_upto_region 4 with fail
        generalize w1.setCell ⟨b, 9, none⟩ (.slice (some ⟨q, o + 1, none⟩) _ ((p.greyC - 1))) = w2 at *
        clear a0 a1 a2 a3 a4 a5 a6 a7 a8 a9 a10 a11 a12 a13 a14 a15 a16 a17 a18 al af9 af7 H1 M1
        obtain ⟨a0, a1, a2, a3, a4, a5, a6, a7, a8, a9, a10, a11, a12, a13, a14, a15, a16, a17, a18, al⟩ := H2.out.a.blk.c19
        have af7 := H2.out.a.blk.live 7
        (try simp only [GW.to] at a0 a1 a2 a3 a4 a5 a6 a7 a8 a9 a10 a11 a12 a13 a14 a15 a16 a17 a18 af7 al)
        (try simp only [AcW.withA, List.length_cons, List.length_nil] at a9)
        have H3 := Lib.hid (H2.out.set HP.out 7 (.int .i64 2) { W.a with grey := [], pc := 2 } rfl ⟨rfl, rfl, rfl, rfl, rfl, rfl⟩)
        have M3 := Lib.hid (show Mod (acT t B) g ⟨own1, w2.setCell ⟨b, 7, none⟩ (.int .i64 2)⟩ from Mod.st M2.out H2.out.modA)
        have hzz : ((((0 : Nat) : Int)) == 0) = true := rfl
        go_wp2_with fail
        go_ret
        exact Does.of ⟨own1, _⟩ rfl (by rw [HV2.out]; try rfl) M3.out (by rw [HW.out]; exact H3.out.at_)
      | cons z l =>
        have R2 : AcRows ⟨own1, w1⟩ t { W.a with grey := (z :: l), pc := 1 } { p with greyA := (some ⟨q, o + 1, none⟩), greyC := (p.greyC - 1) } := by
          obtain ⟨r1, r2, r3, r4, r5, r6, r7, r8, r9, r10, r11, r12⟩ := H1.out.a.r
          exact ⟨r1, r2, r3, SL.out, ⟨(by have := hgC.1; show ((z :: l)).length ≤ (p.greyC - 1); simp only [List.length_cons, List.length_nil] at this ⊢; omega), (by show (p.greyC - 1) ≤ _; omega)⟩, r6, r7, r8, r9, r10, r11, r12⟩
        have H2 := Lib.hid (H1.out.turn (A' := { W.a with grey := (z :: l), pc := 1 }) (p' := { p with greyA := (some ⟨q, o + 1, none⟩), greyC := (p.greyC - 1) }) HP.out (g' := ⟨own1, w1.setCell ⟨b, 9, none⟩ (.slice (some ⟨q, o + 1, none⟩) ((z :: l)).length ((p.greyC - 1)))⟩) (Mod.st (Mod.refl _ _) H1.out.a.blk.own) (by
          have h := H1.out.a.blk.set 9 (.slice (some ⟨q, o + 1, none⟩) ((z :: l)).length ((p.greyC - 1)))
          have hc : AcS.cells { W.a with grey := (z :: l), pc := 1 } { p with greyA := (some ⟨q, o + 1, none⟩), greyC := (p.greyC - 1) } = ((W.greyK y).a.cells p).set 9 (.slice (some ⟨q, o + 1, none⟩) ((z :: l)).length ((p.greyC - 1))) := by
            unfold AcS.cells
            rw [HPC.out]
            rfl
          rw [hc]
          exact h) R2)
        have M2 := Lib.hid (show Mod (acT t B) g ⟨own1, w1.setCell ⟨b, 9, none⟩ (.slice (some ⟨q, o + 1, none⟩) ((z :: l)).length ((p.greyC - 1)))⟩ from Mod.st M1.out H1.out.modA)
        clear R2
        go_upto_region 4 with fail
        generalize w1.setCell ⟨b, 9, none⟩ (.slice (some ⟨q, o + 1, none⟩) _ ((p.greyC - 1))) = w2 at *
        clear a0 a1 a2 a3 a4 a5 a6 a7 a8 a9 a10 a11 a12 a13 a14 a15 a16 a17 a18 al af9 af7 H1 M1
        obtain ⟨a0, a1, a2, a3, a4, a5, a6, a7, a8, a9, a10, a11, a12, a13, a14, a15, a16, a17, a18, al⟩ := H2.out.a.blk.c19
        have af7 := H2.out.a.blk.live 7
        (try simp only [GW.to] at a0 a1 a2 a3 a4 a5 a6 a7 a8 a9 a10 a11 a12 a13 a14 a15 a16 a17 a18 af7 al)
        (try simp only [AcW.withA, List.length_cons, List.length_nil] at a9)
        have hzl : (((l.length : Int) + 1) == 0) = false := beq_eq_false_iff_ne.2 (by omega)
        go_wp2_with fail
        refine bodyPost_ret (v := .bool false) (by simp [results, Tryz.results51, go_sem]) rfl ?_
        exact Does.of ⟨own1, w2⟩ rfl (by rw [HV2.out]; try rfl) M2.out (by rw [HW.out]; exact H2.out.at_)
  · have HV2 := Lib.hid (show W.answersB = true by rw [HV.out]; unfold bne; rw [beq_eq_false_iff_ne.2 h1]; rfl)
    have HW := Lib.hid (show W.answers = { a := { W.a with status := W.a.seen }, K := { W.K with hand := W.K.hand.answer W.a.t W.a.seen } } from if_neg h1)
    have hz : (W.a.pc == 1) = false := beq_eq_false_iff_ne.2 h1
    have HK := Lib.hid (fun X => hand_answer (g.pt X) (B + 63) bh W.a.t W.a.seen W.K.hand (H.pt X).c.hand hc)
    obtain ⟨a0, a1, a2, a3, a4, a5, a6, a7, a8, a9, a10, a11, a12, a13, a14, a15, a16, a17, a18, al⟩ := H.a.blk.c19
    (try simp only [GW.to] at a0 a1 a2 a3 a4 a5 a6 a7 a8 a9 a10 a11 a12 a13 a14 a15 a16 a17 a18 al)
    obtain ⟨c0, c1, c2, c3, c4, c5, c6, c7, c8, c9, c10, c11, c12, cl⟩ := H.c.blk.c13
    (try simp only [GW.to] at c0 c1 c2 c3 c4 c5 c6 c7 c8 c9 c10 c11 c12 cl)
    clear H hc hn hg h1
    go_enter Tryz.func51, Tryz.ntmps51
    go_wp2_with fail
    refine wp_region_mixed [true, true, true, true, true, true, true, true, true, true, true, true, false] 1 12 (by kernel_rfl) (by kernel_rfl) (by kernel_rfl) ?_ (by decide) (by decide) (by decide) (by kernel_rfl) ?_
    · intro c a d v w h; cases d <;> exact h
    intro X00
    simp only [pickOps]
    repeat (go_big_quiet_step (fail))
    refine wpQuiet_nil (fun X0 => ?_)
    clear X00
    refine wpAnyM_tailL rfl (by kernel_rfl) (fun X2 => ?_)
    simp only [List.drop_succ_cons, List.drop_zero]
    go_wp2_with fail
    refine (HK.out _).mono ?_
    rintro e w1 ⟨rfl, own1, m1, h1⟩
    have P1 := (Mod.pt (Mod.refl _ _) _).trans m1
    have M1 := Lib.hid (P1.mono (S := acT t B) (fun x hx => acT_hand hx))
    have H1 := Lib.hid (HH.out.hand HP.out P1 h1)
    clear P1 m1 h1 HK a0 a1 a2 a3 a4 a5 a6 a7 a8 a9 a10 a11 a12 a13 a14 a15 a16 a17 a18 al c0 c1 c2 c3 c4 c5 c6 c7 c8 c9 c10 c11 c12 cl
    obtain ⟨a0, a1, a2, a3, a4, a5, a6, a7, a8, a9, a10, a11, a12, a13, a14, a15, a16, a17, a18, al⟩ := H1.out.a.blk.c19
    have af4 := H1.out.a.blk.live 4
    (try simp only [GW.to] at a0 a1 a2 a3 a4 a5 a6 a7 a8 a9 a10 a11 a12 a13 a14 a15 a16 a17 a18 af4 al)
    have H2 := Lib.hid (H1.out.set HP.out 4 (.int .i64 W.a.seen) { W.a with status := W.a.seen } rfl ⟨rfl, rfl, rfl, rfl, rfl, rfl⟩)
    have M2 := Lib.hid (show Mod (acT t B) g ⟨own1, w1.setCell ⟨b, 4, none⟩ (.int .i64 W.a.seen)⟩ from Mod.st M1.out H1.out.modA)
    go_wp2_with fail
    go_ret
    exact Does.of ⟨own1, _⟩ rfl (by rw [HV2.out]; try rfl) M2.out (by rw [HW.out]; exact H2.out.at_)
theorem act_goes [TbId] (P : AcApart t B) (hc : 0 ≤ W.K.hand.count ∧ W.K.hand.count ≤ 1099511627776) (hlen : W.a.locals.length ≤ 1000) (H : AcWAt g t B b k W) : Calls Tryz.prog 53 #[.pointer (some ⟨b, 0, none⟩), .pointer (some ⟨k, 0, none⟩)] g.w (Does (.tuple #[]) g (acT t B) (fun g' => AcWAt g' t B b k W.goes)) := by
  obtain ⟨p, bm, bs, bt, bp, bsp, bh, cm, H⟩ := H
  have HH := Lib.hid H
  have HP := Lib.hid P
  have HK := Lib.hid (fun X => hand_leave (g.pt X) (B + 63) bh W.a.t W.K.hand (H.pt X).c.hand hc)
  obtain ⟨a0, a1, a2, a3, a4, a5, a6, a7, a8, a9, a10, a11, a12, a13, a14, a15, a16, a17, a18, al⟩ := H.a.blk.c19
  (try simp only [GW.to] at a0 a1 a2 a3 a4 a5 a6 a7 a8 a9 a10 a11 a12 a13 a14 a15 a16 a17 a18 al)
  obtain ⟨c0, c1, c2, c3, c4, c5, c6, c7, c8, c9, c10, c11, c12, cl⟩ := H.c.blk.c13
  (try simp only [GW.to] at c0 c1 c2 c3 c4 c5 c6 c7 c8 c9 c10 c11 c12 cl)
  clear H hc
  go_enter Tryz.func53, Tryz.ntmps53
  go_wp2_with fail
  refine wp_region_mixed [true, true, true, true, true, true, true, true, false] 1 8 (by kernel_rfl) (by kernel_rfl) (by kernel_rfl) ?_ (by decide) (by decide) (by decide) (by kernel_rfl) ?_
  · intro c a d v w h; cases d <;> exact h
  intro X00
  simp only [pickOps]
  repeat (go_big_quiet_step (fail))
  refine wpQuiet_nil (fun X0 => ?_)
  clear X00
  refine wpAnyM_tailL rfl (by kernel_rfl) (fun X2 => ?_)
  simp only [List.drop_succ_cons, List.drop_zero]
  go_wp2_with fail
  refine (HK.out _).mono ?_
  rintro e w1 ⟨rfl, own1, m1, h1⟩
  have P1 := (Mod.pt (Mod.refl _ _) _).trans m1
  have M1 := Lib.hid (P1.mono (S := acT t B) (fun x hx => acT_hand hx))
  have H1 := Lib.hid (HH.out.hand HP.out P1 h1)
  clear P1 m1 h1 HK a0 a1 a2 a3 a4 a5 a6 a7 a8 a9 a10 a11 a12 a13 a14 a15 a16 a17 a18 al c0 c1 c2 c3 c4 c5 c6 c7 c8 c9 c10 c11 c12 cl
  obtain ⟨a0, a1, a2, a3, a4, a5, a6, a7, a8, a9, a10, a11, a12, a13, a14, a15, a16, a17, a18, al⟩ := H1.out.a.blk.c19
  have af3 := H1.out.a.blk.live 3
  (try simp only [GW.to] at a0 a1 a2 a3 a4 a5 a6 a7 a8 a9 a10 a11 a12 a13 a14 a15 a16 a17 a18 af3 al)
  have H2 := Lib.hid (H1.out.set HP.out 3 (.int .i64 4) { W.a with phase := 4 } rfl ⟨rfl, rfl, rfl, rfl, rfl, rfl⟩)
  have M2 := Lib.hid (show Mod (acT t B) g ⟨own1, w1.setCell ⟨b, 3, none⟩ (.int .i64 4)⟩ from Mod.st M1.out H1.out.modA)
  go_upto_region 2 with fail
  generalize w1.setCell ⟨b, 3, none⟩ (.int .i64 4) = w2 at *
  clear a0 a1 a2 a3 a4 a5 a6 a7 a8 a9 a10 a11 a12 a13 a14 a15 a16 a17 a18 al af3 M1 H1
  obtain ⟨a0, a1, a2, a3, a4, a5, a6, a7, a8, a9, a10, a11, a12, a13, a14, a15, a16, a17, a18, al⟩ := H2.out.a.blk.c19
  (try simp only [GW.to] at a0 a1 a2 a3 a4 a5 a6 a7 a8 a9 a10 a11 a12 a13 a14 a15 a16 a17 a18 al)
  have a2' : w2.cell? ⟨b, 2, none⟩ = some (.slice p.locA W.a.locals.length p.locC) := a2
  clear a2
  obtain ⟨w3, hcl, m3, R3⟩ := row_clear (g := ⟨own1, w2⟩) H2.out.a.r.loc
  have hcl' : (Builtin.clear_ #[39] 0 #[.slice p.locA W.a.locals.length p.locC]).run Tryz.prog w2 = .ok (.tuple #[]) w3 := hcl
  have M3 := Lib.hid (M2.out.trans (m3.mono (fun x (hx : x = t + 1) => Or.inl (by omega))))
  have hPt := HP.out.ht
  have hPa := HP.out.apart
  have H3 := Lib.hid (show AcIn ⟨own1, w3⟩ t B b k W.goes p bm bs bt bp bsp bh cm from by
    obtain ⟨r1, r2, r3, r4, r5, r6, r7, r8, r9, r10, r11, r12⟩ := H2.out.a.r
    refine ⟨⟨?_, ⟨r1.keep m3 (by omega), r2, ?_, r4.keep m3 (by omega), r5, r6, fun S hS => ?_, r8.keep m3 (by omega), r9, r10.keep m3 (by omega), r11, r12⟩⟩, H2.out.c.keep m3 (fun x hx => by omega), H2.out.tbl⟩
    · have h := H2.out.a.blk.keep m3 (by omega)
      have hc : AcS.cells W.goes.a p = AcS.cells { W.a with phase := 4 } p := by
        unfold AcS.cells AcW.goes
        simp
      rw [hc]
      exact h
    · show Row _ _ _ _ (.slice _ (List.replicate W.a.locals.length LVal.zero).length _) (List.replicate W.a.locals.length LVal.zero).length ((List.replicate W.a.locals.length LVal.zero).flatMap LVal.cells)
      rw [List.length_replicate]
      exact R3
    · obtain ⟨bf, cm, e1, e2, e3⟩ := r7 S hS
      exact ⟨bf, cm, e1, e2, e3.keep m3 (by omega) (by omega)⟩)
  clear hcl m3 R3
  go_wp2_with fail
  exact bodyPost_end (results_none rfl _ _ _) rfl (Does.of ⟨own1, w3⟩ rfl rfl M3.out H3.out.at_)
theorem act_border [TbId] (P : AcApart t B) (hok : W.bdB = true) (hg : W.greyOk = true) (hlen : W.a.locals.length ≤ 1000) (hol : W.a.ops.length ≤ 1000000) (H : AcWAt g t B b k W) : Calls Tryz.prog 27 #[.pointer (some ⟨b, 0, none⟩), .pointer (some ⟨k, 0, none⟩)] g.w (Does (.tuple #[]) g (acT t B) (fun g' => AcWAt g' t B b k W.border)) := by
  have HB := Lib.hid (bdB_of hok)
  have hgr : W.a.pc = 1 → W.a.grey ≠ [] := fun h => greyOk_of hg h
  have HH0 := Lib.hid H
  obtain ⟨p, bm, bs, bt, bp, bsp, bh, cm, H⟩ := H
  have HH := Lib.hid H
  have HP := Lib.hid P
  by_cases h0 : W.a.pc = 0
  · have HK := Lib.hid (act_looks P HB.out.hand hlen HH0.out)
    have HW := Lib.hid (show W.border = (if !W.looksB then W.looks else if (W.a.ops.length : Int) ≤ W.a.next then W.looks.withA { W.a with pc := 3 } else W.looks.withA W.a.began) from if_pos h0)
    obtain ⟨a0, a1, a2, a3, a4, a5, a6, a7, a8, a9, a10, a11, a12, a13, a14, a15, a16, a17, a18, al⟩ := H.a.blk.c19
    (try simp only [GW.to] at a0 a1 a2 a3 a4 a5 a6 a7 a8 a9 a10 a11 a12 a13 a14 a15 a16 a17 a18 al)
    rw [h0] at a7
    clear H h0 hgr hg hok
    go_enter Tryz.func27, Tryz.ntmps27
    go_wp2_with fail
    refine HK.out.mono ?_
    rintro e w1 ⟨rfl, own1, m1, h1⟩
    have M1 := Lib.hid m1
    clear m1 HK a0 a1 a2 a3 a4 a5 a6 a7 a8 a9 a10 a11 a12 a13 a14 a15 a16 a17 a18 al
    cases hl : W.looksB
    · have HW2 := Lib.hid (show W.border = W.looks by rw [HW.out, hl]; rfl)
      have H1 := Lib.hid h1
      clear hl h1
      go_wp2_with fail
      exact bodyPost_end (results_none rfl _ _ _) rfl (Does.of ⟨own1, w1⟩ rfl rfl M1.out (by rw [HW2.out]; exact H1.out))
    · have HL := Lib.hid (show W.looks = W.tickH by unfold AcW.looks; rw [hl]; rfl)
      have HW2 := Lib.hid (show W.border = (if (W.a.ops.length : Int) ≤ W.a.next then W.tickH.withA { W.a with pc := 3 } else W.tickH.withA W.a.began) by rw [HW.out, hl, HL.out]; rfl)
      rw [HL.out] at h1
      obtain ⟨p, bm, bs, bt, bp, bsp, bh, cm, h1⟩ := h1
      have H1 := Lib.hid h1
      clear h1 hl HL HW
      obtain ⟨a0, a1, a2, a3, a4, a5, a6, a7, a8, a9, a10, a11, a12, a13, a14, a15, a16, a17, a18, al⟩ := H1.out.a.blk.c19
      (try simp only [GW.to] at a0 a1 a2 a3 a4 a5 a6 a7 a8 a9 a10 a11 a12 a13 a14 a15 a16 a17 a18 al)
      have a1' : w1.cell? ⟨b, 1, none⟩ = some (.slice p.opsA W.a.ops.length p.opsC) := a1
      have a6' : w1.cell? ⟨b, 6, none⟩ = some (.int .i64 W.a.next) := a6
      clear a1 a6
      by_cases hnx : (W.a.ops.length : Int) ≤ W.a.next
      · have hd : decide ((W.a.ops.length : Int) ≤ W.a.next) = true := decide_eq_true hnx
        have HW3 := Lib.hid (show W.border = W.tickH.withA { W.a with pc := 3 } by rw [HW2.out, if_pos hnx])
        clear hnx
        go_wp2_with fail
        refine wp_region_mixed [true, true, true, true, true, true, true, true, true, true, true] 0 11 (by kernel_rfl) (by kernel_rfl) (by kernel_rfl) ?_ (by decide) (by decide) (by decide) (by kernel_rfl) ?_
        · intro c a d v w h; cases d <;> exact h
        intro X00
        simp only [pickOps]
        repeat (go_big_quiet_step (fail))
        refine wpQuiet_nil (fun X0 => ?_)
        clear X00
        refine wpAnyM_done (by kernel_rfl) (fun X0' => ?_) _
        (try go_simp)
        obtain ⟨own2, m2⟩ : ∃ own2, Mod (fun _ => False) ⟨own1, w1⟩ ⟨own2, w1.patch ⟨X0.blocks ++ X0'.blocks, X0'.drawn⟩⟩ := ⟨_, Mod.pt (Mod.refl _ _) _⟩
        generalize w1.patch ⟨X0.blocks ++ X0'.blocks, X0'.drawn⟩ = w2 at *
        have H2 := Lib.hid (H1.out.keep0 m2)
        have M2 := Lib.hid (M1.out.trans (m2.mono (fun _ => False.elim)))
        clear m2 H1 M1 a0 a1' a2 a3 a4 a5 a6' a7 a8 a9 a10 a11 a12 a13 a14 a15 a16 a17 a18 al
        obtain ⟨a0, a1, a2, a3, a4, a5, a6, a7, a8, a9, a10, a11, a12, a13, a14, a15, a16, a17, a18, al⟩ := H2.out.a.blk.c19
        have af7 := H2.out.a.blk.live 7
        (try simp only [GW.to] at a0 a1 a2 a3 a4 a5 a6 a7 a8 a9 a10 a11 a12 a13 a14 a15 a16 a17 a18 af7 al)
        have H3 := Lib.hid (H2.out.set HP.out 7 (.int .i64 3) { W.a with pc := 3 } rfl ⟨rfl, rfl, rfl, rfl, rfl, rfl⟩)
        go_wp2_with fail
        exact bodyPost_end (results_none rfl _ _ _) rfl (Does.of ⟨own2, _⟩ rfl rfl (Mod.st M2.out H2.out.modA) (by rw [HW3.out]; exact H3.out.at_))
      · have hd : decide ((W.a.ops.length : Int) ≤ W.a.next) = false := decide_eq_false hnx
        have HW3 := Lib.hid (show W.border = W.tickH.withA W.a.began by rw [HW2.out, if_neg hnx])
        clear hnx
        go_wp2_with fail
        refine wp_region_mixed [true, true, true, true, true, true, true, true, true, true, true] 0 11 (by kernel_rfl) (by kernel_rfl) (by kernel_rfl) ?_ (by decide) (by decide) (by decide) (by kernel_rfl) ?_
        · intro c a d v w h; cases d <;> exact h
        intro X00
        simp only [pickOps]
        repeat (go_big_quiet_step (fail))
        refine wpQuiet_nil (fun X0 => ?_)
        clear X00
        refine wpAnyM_done (by kernel_rfl) (fun X0' => ?_) _
        (try go_simp)
        obtain ⟨own2, m2⟩ : ∃ own2, Mod (fun _ => False) ⟨own1, w1⟩ ⟨own2, w1.patch ⟨X0.blocks ++ X0'.blocks, X0'.drawn⟩⟩ := ⟨_, Mod.pt (Mod.refl _ _) _⟩
        generalize w1.patch ⟨X0.blocks ++ X0'.blocks, X0'.drawn⟩ = w2 at *
        have H2 := Lib.hid (H1.out.keep0 m2)
        have M2 := Lib.hid (M1.out.trans (m2.mono (fun _ => False.elim)))
        clear m2 H1 M1 a0 a1' a2 a3 a4 a5 a6' a7 a8 a9 a10 a11 a12 a13 a14 a15 a16 a17 a18 al
        obtain ⟨a0, a1, a2, a3, a4, a5, a6, a7, a8, a9, a10, a11, a12, a13, a14, a15, a16, a17, a18, al⟩ := H2.out.a.blk.c19
        have af3 := H2.out.a.blk.live 3
        have af10 := H2.out.a.blk.live 10
        have af11 := H2.out.a.blk.live 11
        have af12 := H2.out.a.blk.live 12
        have af13 := H2.out.a.blk.live 13
        have af14 := H2.out.a.blk.live 14
        have af15 := H2.out.a.blk.live 15
        have af16 := H2.out.a.blk.live 16
        have af17 := H2.out.a.blk.live 17
        have af18 := H2.out.a.blk.live 18
        (try simp only [GW.to] at a0 a1 a2 a3 a4 a5 a6 a7 a8 a9 a10 a11 a12 a13 a14 a15 a16 a17 a18 af3 af10 af11 af12 af13 af14 af15 af16 af17 af18 al)
        have R3 : AcRows ⟨own2, w2⟩ t W.a.began { p with fp := none, gotA := none, gotC := 0, wrA := none, wrC := 0 } := by
          obtain ⟨r1, r2, r3, r4, r5, r6, r7, r8, r9, r10, r11, r12⟩ := H2.out.a.r
          exact ⟨r1, r2, r3, r4, r5, (fun _ => rfl), (fun S hS => by cases hS), Seg.nil _ _ _, ⟨Nat.le_refl _, Nat.zero_le _⟩, Seg.nil _ _ _, rfl, ⟨(by show 0 / 2 ≤ 0; decide), Nat.zero_le _⟩⟩
        have H3 := Lib.hid (H2.out.turn (A' := W.a.began) (p' := { p with fp := none, gotA := none, gotC := 0, wrA := none, wrC := 0 }) HP.out (g' := ⟨own2, (((((((((w2.setCell ⟨b, 3, none⟩ (.int .i64 2)).setCell ⟨b, 10, none⟩ (.int .i64 0)).setCell ⟨b, 11, none⟩ (.int .i64 0)).setCell ⟨b, 12, none⟩ (.pointer none)).setCell ⟨b, 13, none⟩ (.int .i64 0)).setCell ⟨b, 14, none⟩ (.bool false)).setCell ⟨b, 15, none⟩ (.complex .f64 0 0)).setCell ⟨b, 16, none⟩ (.complex .f64 0 0)).setCell ⟨b, 17, none⟩ (.slice none 0 0)).setCell ⟨b, 18, none⟩ (.slice none 0 0)⟩) (Mod.st (Mod.st (Mod.st (Mod.st (Mod.st (Mod.st (Mod.st (Mod.st (Mod.st (Mod.st (Mod.refl _ _) H2.out.a.blk.own) H2.out.a.blk.own) H2.out.a.blk.own) H2.out.a.blk.own) H2.out.a.blk.own) H2.out.a.blk.own) H2.out.a.blk.own) H2.out.a.blk.own) H2.out.a.blk.own) H2.out.a.blk.own) (by
          have h := ((((((((((H2.out.a.blk).set 3 (.int .i64 2)).set 10 (.int .i64 0)).set 11 (.int .i64 0)).set 12 (.pointer none)).set 13 (.int .i64 0)).set 14 (.bool false)).set 15 (.complex .f64 0 0)).set 16 (.complex .f64 0 0)).set 17 (.slice none 0 0)).set 18 (.slice none 0 0)
          have hc : AcS.cells W.a.began { p with fp := none, gotA := none, gotC := 0, wrA := none, wrC := 0 } = (((((((((((W.a.cells p)).set 3 (.int .i64 2)).set 10 (.int .i64 0)).set 11 (.int .i64 0)).set 12 (.pointer none)).set 13 (.int .i64 0)).set 14 (.bool false)).set 15 (.complex .f64 0 0)).set 16 (.complex .f64 0 0)).set 17 (.slice none 0 0)).set 18 (.slice none 0 0) := by simp [AcS.cells, AcS.began]
          rw [hc]
          exact h) R3)
        have M3 := Lib.hid (show Mod (acT t B) g ⟨own2, (((((((((w2.setCell ⟨b, 3, none⟩ (.int .i64 2)).setCell ⟨b, 10, none⟩ (.int .i64 0)).setCell ⟨b, 11, none⟩ (.int .i64 0)).setCell ⟨b, 12, none⟩ (.pointer none)).setCell ⟨b, 13, none⟩ (.int .i64 0)).setCell ⟨b, 14, none⟩ (.bool false)).setCell ⟨b, 15, none⟩ (.complex .f64 0 0)).setCell ⟨b, 16, none⟩ (.complex .f64 0 0)).setCell ⟨b, 17, none⟩ (.slice none 0 0)).setCell ⟨b, 18, none⟩ (.slice none 0 0)⟩ from (Mod.st (Mod.st (Mod.st (Mod.st (Mod.st (Mod.st (Mod.st (Mod.st (Mod.st (Mod.st M2.out H2.out.modA) H2.out.modA) H2.out.modA) H2.out.modA) H2.out.modA) H2.out.modA) H2.out.modA) H2.out.modA) H2.out.modA) H2.out.modA))
        clear R3
        go_wp2_with fail
        exact bodyPost_end (results_none rfl _ _ _) rfl (Does.of ⟨own2, _⟩ rfl rfl M3.out (by rw [HW3.out]; exact H3.out.at_))
  by_cases h12 : W.a.pc = 1 ∨ W.a.pc = 2
  · have HK := Lib.hid (act_answers P HB.out.hand HB.out.n hgr HH0.out)
    have HW := Lib.hid (show W.border = (if W.answersB then W.answers.withA { W.answers.a with pc := 0 } else W.answers) by unfold AcW.border; rw [if_neg h0, if_pos h12])
    obtain ⟨a0, a1, a2, a3, a4, a5, a6, a7, a8, a9, a10, a11, a12, a13, a14, a15, a16, a17, a18, al⟩ := H.a.blk.c19
    (try simp only [GW.to] at a0 a1 a2 a3 a4 a5 a6 a7 a8 a9 a10 a11 a12 a13 a14 a15 a16 a17 a18 al)
    have hz0 : (W.a.pc == 0) = false := beq_eq_false_iff_ne.2 h0
    have hz12 : (W.a.pc == 1) = true ∨ ((W.a.pc == 1) = false ∧ (W.a.pc == 2) = true) := by
      rcases h12 with h | h
      · exact Or.inl (beq_iff_eq.2 h)
      · exact Or.inr ⟨by rw [h]; rfl, beq_iff_eq.2 h⟩
    clear H h0 hgr hg hok h12
    rcases hz12 with hz1 | ⟨hz1, hz2⟩
    · go_enter Tryz.func27, Tryz.ntmps27
      go_wp2_with fail
      refine HK.out.mono ?_
      rintro e w1 ⟨rfl, own1, m1, h1⟩
      have M1 := Lib.hid m1
      clear m1 HK a0 a1 a2 a3 a4 a5 a6 a7 a8 a9 a10 a11 a12 a13 a14 a15 a16 a17 a18 al
      cases ha : W.answersB
      · have HW2 := Lib.hid (show W.border = W.answers by rw [HW.out, ha]; rfl)
        have H1 := Lib.hid h1
        clear ha h1
        go_wp2_with fail
        exact bodyPost_end (results_none rfl _ _ _) rfl (Does.of ⟨own1, w1⟩ rfl rfl M1.out (by rw [HW2.out]; exact H1.out))
      · have HW2 := Lib.hid (show W.border = W.answers.withA { W.answers.a with pc := 0 } by rw [HW.out, ha]; rfl)
        obtain ⟨p1, bm1, bs1, bt1, bp1, bsp1, bh1, cm1, h1⟩ := h1
        have H1 := Lib.hid h1
        clear h1 ha
        have H2 := Lib.hid (H1.out.set HP.out 7 (.int .i64 0) { W.answers.a with pc := 0 } rfl ⟨rfl, rfl, rfl, rfl, rfl, rfl⟩)
        obtain ⟨a0, a1, a2, a3, a4, a5, a6, a7, a8, a9, a10, a11, a12, a13, a14, a15, a16, a17, a18, al⟩ := H1.out.a.blk.c19
        have af7 := H1.out.a.blk.live 7
        (try simp only [GW.to] at a0 a1 a2 a3 a4 a5 a6 a7 a8 a9 a10 a11 a12 a13 a14 a15 a16 a17 a18 af7 al)
        go_wp2_with fail
        exact bodyPost_end (results_none rfl _ _ _) rfl (Does.of ⟨own1, _⟩ rfl rfl (Mod.st M1.out H1.out.modA) (by rw [HW2.out]; exact H2.out.at_))
    · go_enter Tryz.func27, Tryz.ntmps27
      go_wp2_with fail
      refine HK.out.mono ?_
      rintro e w1 ⟨rfl, own1, m1, h1⟩
      have M1 := Lib.hid m1
      clear m1 HK a0 a1 a2 a3 a4 a5 a6 a7 a8 a9 a10 a11 a12 a13 a14 a15 a16 a17 a18 al
      cases ha : W.answersB
      · have HW2 := Lib.hid (show W.border = W.answers by rw [HW.out, ha]; rfl)
        have H1 := Lib.hid h1
        clear ha h1
        go_wp2_with fail
        exact bodyPost_end (results_none rfl _ _ _) rfl (Does.of ⟨own1, w1⟩ rfl rfl M1.out (by rw [HW2.out]; exact H1.out))
      · have HW2 := Lib.hid (show W.border = W.answers.withA { W.answers.a with pc := 0 } by rw [HW.out, ha]; rfl)
        obtain ⟨p1, bm1, bs1, bt1, bp1, bsp1, bh1, cm1, h1⟩ := h1
        have H1 := Lib.hid h1
        clear h1 ha
        have H2 := Lib.hid (H1.out.set HP.out 7 (.int .i64 0) { W.answers.a with pc := 0 } rfl ⟨rfl, rfl, rfl, rfl, rfl, rfl⟩)
        obtain ⟨a0, a1, a2, a3, a4, a5, a6, a7, a8, a9, a10, a11, a12, a13, a14, a15, a16, a17, a18, al⟩ := H1.out.a.blk.c19
        have af7 := H1.out.a.blk.live 7
        (try simp only [GW.to] at a0 a1 a2 a3 a4 a5 a6 a7 a8 a9 a10 a11 a12 a13 a14 a15 a16 a17 a18 af7 al)
        go_wp2_with fail
        exact bodyPost_end (results_none rfl _ _ _) rfl (Does.of ⟨own1, _⟩ rfl rfl (Mod.st M1.out H1.out.modA) (by rw [HW2.out]; exact H2.out.at_))
  have hz0 : (W.a.pc == 0) = false := beq_eq_false_iff_ne.2 h0
  have hz1 : (W.a.pc == 1) = false := beq_eq_false_iff_ne.2 (fun h => h12 (Or.inl h))
  have hz2 : (W.a.pc == 2) = false := beq_eq_false_iff_ne.2 (fun h => h12 (Or.inr h))
  by_cases h3 : W.a.pc = 3
  · have HW := Lib.hid (show W.border = (W.spc (drainS W.K.sp W.a.t)).withA { W.a with pc := 4 } by unfold AcW.border; rw [if_neg h0, if_neg h12, if_pos h3])
    have hz3 : (W.a.pc == 3) = true := beq_iff_eq.2 h3
    have HK := Lib.hid (fun X => space_drain W.a.t (g.pt X) B bsp bt W.K.sp (H.pt X).c.sp P.hb HB.out.sp)
    obtain ⟨a0, a1, a2, a3, a4, a5, a6, a7, a8, a9, a10, a11, a12, a13, a14, a15, a16, a17, a18, al⟩ := H.a.blk.c19
    (try simp only [GW.to] at a0 a1 a2 a3 a4 a5 a6 a7 a8 a9 a10 a11 a12 a13 a14 a15 a16 a17 a18 al)
    obtain ⟨c0, c1, c2, c3, c4, c5, c6, c7, c8, c9, c10, c11, c12, cl⟩ := H.c.blk.c13
    (try simp only [GW.to] at c0 c1 c2 c3 c4 c5 c6 c7 c8 c9 c10 c11 c12 cl)
    clear H h0 hgr hg hok h12 h3
    go_enter Tryz.func27, Tryz.ntmps27
    go_wp2_with fail
    refine wp_region_mixed [true, true, true, true, true, true, true, true, false] 1 8 (by kernel_rfl) (by kernel_rfl) (by kernel_rfl) ?_ (by decide) (by decide) (by decide) (by kernel_rfl) ?_
    · intro c a d v w h; cases d <;> exact h
    intro X00
    simp only [pickOps]
    repeat (go_big_quiet_step (fail))
    refine wpQuiet_nil (fun X0 => ?_)
    clear X00
    refine wpAnyM_tailL rfl (by kernel_rfl) (fun X2 => ?_)
    simp only [List.drop_succ_cons, List.drop_zero]
    go_wp2_with fail
    refine (HK.out _).mono ?_
    rintro e w1 ⟨rfl, own1, m1, h1⟩
    have P1 := (Mod.pt (Mod.refl _ _) _).trans m1
    have M1 := Lib.hid (P1.mono (S := acT t B) (fun x hx => acT_inst hx))
    have H1 := Lib.hid (HH.out.spc HP.out P1 h1)
    clear P1 m1 h1 HK a0 a1 a2 a3 a4 a5 a6 a7 a8 a9 a10 a11 a12 a13 a14 a15 a16 a17 a18 al c0 c1 c2 c3 c4 c5 c6 c7 c8 c9 c10 c11 c12 cl
    obtain ⟨a0, a1, a2, a3, a4, a5, a6, a7, a8, a9, a10, a11, a12, a13, a14, a15, a16, a17, a18, al⟩ := H1.out.a.blk.c19
    have af7 := H1.out.a.blk.live 7
    (try simp only [GW.to] at a0 a1 a2 a3 a4 a5 a6 a7 a8 a9 a10 a11 a12 a13 a14 a15 a16 a17 a18 af7 al)
    have H2 := Lib.hid (H1.out.set HP.out 7 (.int .i64 4) { W.a with pc := 4 } rfl ⟨rfl, rfl, rfl, rfl, rfl, rfl⟩)
    go_wp2_with fail
    exact bodyPost_end (results_none rfl _ _ _) rfl (Does.of ⟨own1, _⟩ rfl rfl (Mod.st M1.out H1.out.modA) (by rw [HW.out]; exact H2.out.at_))
  have hz3 : (W.a.pc == 3) = false := beq_eq_false_iff_ne.2 h3
  by_cases h4 : W.a.pc = 4
  · have HW := Lib.hid (show W.border = W.goes by unfold AcW.border; rw [if_neg h0, if_neg h12, if_neg h3, if_pos h4])
    have hz4 : (W.a.pc == 4) = true := beq_iff_eq.2 h4
    have HK := Lib.hid (act_goes P HB.out.hand hlen HH0.out)
    obtain ⟨a0, a1, a2, a3, a4, a5, a6, a7, a8, a9, a10, a11, a12, a13, a14, a15, a16, a17, a18, al⟩ := H.a.blk.c19
    (try simp only [GW.to] at a0 a1 a2 a3 a4 a5 a6 a7 a8 a9 a10 a11 a12 a13 a14 a15 a16 a17 a18 al)
    clear H h0 hgr hg hok h12 h3 h4
    go_enter Tryz.func27, Tryz.ntmps27
    go_wp2_with fail
    refine HK.out.mono ?_
    rintro e w1 ⟨rfl, own1, m1, h1⟩
    have M1 := Lib.hid m1
    have H1 := Lib.hid h1
    clear m1 h1
    go_wp2_with fail
    exact bodyPost_end (results_none rfl _ _ _) rfl (Does.of ⟨own1, w1⟩ rfl rfl M1.out (by rw [HW.out]; exact H1.out))
  · have HW := Lib.hid (show W.border = W by unfold AcW.border; rw [if_neg h0, if_neg h12, if_neg h3, if_neg h4])
    have hz4 : (W.a.pc == 4) = false := beq_eq_false_iff_ne.2 h4
    obtain ⟨a0, a1, a2, a3, a4, a5, a6, a7, a8, a9, a10, a11, a12, a13, a14, a15, a16, a17, a18, al⟩ := H.a.blk.c19
    (try simp only [GW.to] at a0 a1 a2 a3 a4 a5 a6 a7 a8 a9 a10 a11 a12 a13 a14 a15 a16 a17 a18 al)
    clear H h0 hgr hg hok h12 h3 h4
    go_enter Tryz.func27, Tryz.ntmps27
    go_wp2_with fail
    exact bodyPost_end (results_none rfl _ _ _) rfl (Does.of g rfl rfl (Mod.refl _ _) (by rw [HW.out]; exact HH.out.at_))
end
end Go.Proofs.YtoaehfdjffejeaaGreat

/-
  A region that draws: calm ones, one that writes, then step by step. No program here.
-/
namespace Go
section
variable {P : Program} {ops : Array Oper} {Q : Exit → Act → World → Prop} {md : Region.Mode} {w0 : World}
theorem wpAny_pure_step {v : Value} {fuel : Nat} {listed : Array Bool} {a : Act} {w : World} (i : Nat) (o : Oper) (ho : ops[i]? = some o) (hs : Region.noSelect ops = true) (hf : Region.free md ops listed i = true) (hr : (Region.ready md ops listed).contains i = true)
    (hQ : ∀ (c : List PanicEntry) (a : Act) (d : Option Tmp) (v : Value) (w : World), Q (.panic c) (a.put d v) w → Q (.panic c) a w) (hg : o.guard = none) (hv : ∀ w, (execOp a.eval o).run P w = .ok (.value v) w) (h : wpAny P md ops Q fuel (listed.setIfInBounds i true) (a.put o.dst v) w) : wpAny P md ops Q (fuel + 1) listed a w :=
  wpAny_take ho hs hf hr (fun c a w h => hQ c a _ _ w h) (Or.inl ⟨by simp [Region.wanted, hg], hv⟩) h
theorem wpAny_loud_step {fuel : Nat} {listed : Array Bool} {a : Act} {w : World} (i : Nat) (o : Oper) (hr : Region.ready md ops listed = [i]) (ho : ops[i]? = some o) (hg : o.guard = none)
    (h : ∀ K : Act → World → Prop, ∀ Q' : Exit → Act → World → Prop, (∀ a' w', wpAny P md ops Q fuel (listed.setIfInBounds i true) a' w' → K a' w') → o.wp P a w K Q') : wpAny P md ops Q (fuel + 1) listed a w := by
  refine wpAny_all hr (by simp) (fun j hj => ?_)
  simp only [List.mem_cons, List.not_mem_nil, or_false] at hj
  subst hj
  unfold wpOp
  simp only [ho, Region.wanted, hg, if_true]
  exact .inl (h _ Q fun a2 w2 h4 => h4)
theorem wp_region_split_any {id : Nat} {a : Act} {w : World} {l : List Oper} (E : List Nat) (m : List Bool) (L : Nat) (o : Oper) (n2 : Nat) (hm : P.follows .mixedOrders = true) (hs : Region.noSelect l.toArray = true) (hE : movesOk .any l.toArray E (Array.replicate l.length false) = true) (hLast : Region.lastE .any l.toArray E L = true) (hQ : ∀ (c : List PanicEntry) (a : Act) (d : Option Tmp) (v : Value) (w : World), Q (.panic c) (a.put d v) w → Q (.panic c) a w)
    (hlen : m.length ≤ l.length) (hn : n2 + 1 + countB m + E.length = l.length) (hM : maskBut L m 0 = true) (hB : lexMask .any l.toArray m 0 (movesList E (Array.replicate l.length false)) = true)
    (hr : Region.ready .any l.toArray (markOps m 0 (movesList E (Array.replicate l.length false))) = [L]) (ho : l[L]? = some o) (hg : o.guard = none)
    (h : ∀ X00 : Extra, wpQuiet P l.toArray (fun w' => ∃ X : Extra, w' = w.patch ⟨X00.blocks ++ X.blocks, X.drawn⟩) (fun a' => ∀ X, ∀ K : Act → World → Prop, ∀ Q' : Exit → Act → World → Prop,
      (∀ a2 w2, wpAny P .any l.toArray Q n2 ((markOps m 0 (movesList E (Array.replicate l.length false))).setIfInBounds L true) a2 w2 → K a2 w2) → o.wp P a' (w.patch X) K Q') (pickOps m l) (movesAct l.toArray E a)) : (Code.region id l.toArray true).wp P Q a w := by
  obtain ⟨c1, c2⟩ := closed_moves (md := .any) (ops := l.toArray) E _ (Closed.start _ (by simp)) hE
  obtain ⟨X, hX⟩ := Ext.drew (Ext.refl w)
  have h2 : wpCalm P l.toArray w (fun a' => ∀ X, wpAnyM P .any l.toArray Q w L (n2 + 1) (markOps m 0 (movesList E (Array.replicate l.length false))) a' (w.patch X)) (pickOps m l) (movesAct l.toArray E a) := by
    refine wpCalm_mono (fun a' h3 X => ?_) _ _ (wpCalm_of_quiet _ _ h)
    rintro w1 ⟨Y, rfl⟩
    refine ⟨fun h0 => (by rw [hr] at h0; cases h0), fun j hj => ?_⟩
    rw [hr] at hj
    simp only [List.mem_singleton] at hj
    subst hj
    refine ⟨fun h0 => by omega, fun _ => ?_⟩
    obtain ⟨Z, hZ⟩ := (show Ext w ((w.patch X).patch Y) from Ext.trans ⟨X, rfl⟩ ⟨Y, rfl⟩)
    rw [hZ]
    have ho' : l.toArray[j]? = some o := by simpa using ho
    unfold wpOp
    simp only [ho', Region.wanted, hg, if_true]
    exact .inl (h3 Z _ Q fun a2 w2 h4 => h4)
  have h5 := wpAnyM_lexE (md := .any) hLast hs hQ (n2 + 1) m l 0 _ _ c1 (fun i hi => c2 i (Or.inr hi)) (by simp) hlen hB hM h2 X
  rw [← hX] at h5
  refine wp_region_any hm ?_
  have h6 := wpAny_moves (md := .any) hs hQ E (n2 + 1 + countB m) _ a _ hE (wpAny_of_M (w0 := w) (L := L) _ _ _ _ h5)
  simpa [hn] using h6
end
end Go

/-
  act: takes what was granted.
-/
namespace Go
open Go.RowKit
set_option linter.unusedVariables false
theorem objRow_same (arr : Bool) (A : Option Addr) (cap : Nat) (refs : List Bool) (kind : Int) (got : List Int) (side : Bool) (j : Nat) : objRow ⟨arr, A, cap, refs⟩ kind got side j = objRow ⟨arr, none, 0, refs⟩ kind got side j := by
  have e : ∀ (n : Nat) (f : Int) (vs : List Value), putFields ⟨arr, A, cap, refs⟩ f vs n = putFields ⟨arr, none, 0, refs⟩ f vs n := fun n => by
    induction n with
    | zero => intro f vs; rfl
    | succ n ih => intro f vs; unfold putFields; rw [ih]; rfl
  unfold objRow
  exact e _ _ _
theorem objWrites_same (arr : Bool) (A : Option Addr) (cap : Nat) (refs : List Bool) (kind : Int) (got : List Int) (side : Bool) (n : Nat) : objWrites ⟨arr, A, cap, refs⟩ kind got side n = objWrites ⟨arr, none, 0, refs⟩ kind got side n := by
  induction n with
  | zero => rfl
  | succ n ih => unfold objWrites; rw [ih, objRow_same]
end Go
namespace Go.Proofs.YtoaehfdjffejeaaGreat
open Go Go.RowKit
set_option linter.unusedVariables false
set_option linter.unnecessarySimpa false
set_option linter.unusedSimpArgs false
set_option maxHeartbeats 2000000
set_option maxRecDepth 100000

theorem fragOk_same {c d : Cnf} (h : c.Same d) (x : Int) : fragOk c x = fragOk d x := by unfold fragOk; rw [h.check, h.frags]
theorem wrongE_same {c d : Cnf} (h : c.Same d) (is : Bool) (arr : Bool) (A : Option Addr) (cap : Nat) (refs : List Bool) (n : Int) (array : Bool) (got : List Int) : wrongE c is ⟨arr, A, cap, refs⟩ n array got = wrongE d is ⟨arr, none, 0, refs⟩ n array got := by
  unfold wrongE
  rw [h.check, show fragOk c = fragOk d from funext (fragOk_same h)]
  rfl
theorem own_base {w : World} {base e size n : Nat} {v : Value} {xs : List Value} (h : w.ownsRow base e size v n xs) : w.ownsRow 0 e size v n xs := by
  rcases h with ⟨h0, h1 | ⟨g, cap, cur, hv, hb, r⟩⟩
  · exact ⟨h0, Or.inl h1⟩
  · exact ⟨h0, Or.inr ⟨g, cap, cur, hv, Nat.zero_le _, r⟩⟩
section
variable {g : GW} {t B b k : Nat} {W : AcW} {p : AcP} {bm bs bt bp bsp bh : Nat} {cm : Cnf}
theorem act_takes_1 [TbId] (P : AcApart t B) (H : AcIn g t B b k W p bm bs bt bp bsp bh cm) (oa ob oc on : Int) (x y : Nat) (got : List Int) (gA : Option Addr) (gC : Nat) (st at_ : Int) (hg : Seg g 0 gA (got.map (Value.int .i64))) (hgc : got.length ≤ gC ∧ gC ≤ 9223372036854775807) (hok : W.takesOk ⟨1, oa, ob, oc, on, x, y⟩ got at_ = true) :
    Calls Tryz.prog 63 #[.pointer (some ⟨b, 0, none⟩), .pointer (some ⟨k, 0, none⟩), .agg #[.int .i64 1, .int .i64 oa, .int .i64 ob, .int .i64 oc, .int .i64 on, .complex .f64 x y], .agg #[.int .i64 st, .slice gA got.length gC, .int .i64 at_]] g.w (Does (.bool true) g (fun x => x = t) (fun g' => ∃ p', AcIn g' t B b k (W.takes ⟨1, oa, ob, oc, on, x, y⟩ got at_) p' bm bs bt bp bsp bh cm)) := by
  unfold AcW.takesOk at hok
  simp only [Bool.and_eq_true, decide_eq_true_eq, List.all_eq_true, if_true, beq_iff_eq] at hok
  obtain ⟨h1, h2, h3, h4⟩ := hok
  have HE := Lib.hid h4
  have HH := Lib.hid H
  have HP := Lib.hid P
  have hPt := P.ht
  have HG := Lib.hid hg
  have HB := Lib.hid (show ∀ x ∈ got, -9223372036854775808 ≤ x ∧ x ≤ 9223372036854775807 from fun x hx => by have := h2 x hx; omega)
  clear H hg h2 h4
  go_enter Tryz.func63, Tryz.ntmps63
  go_upto_region 3 with fail
  obtain ⟨own0, M0, Q0, G0⟩ := start2 g 26 116 [.int .i64 1, .int .i64 oa, .int .i64 ob, .int .i64 oc, .int .i64 on, .complex .f64 x y] [.int .i64 st, .slice gA got.length gC, .int .i64 at_]
  generalize (g.w.alloc (.cells #[.int .i64 1, .int .i64 oa, .int .i64 ob, .int .i64 oc, .int .i64 on, .complex .f64 x y] 26)).alloc (.cells #[.int .i64 st, .slice gA got.length gC, .int .i64 at_] 116) = w0 at *
  have H0 := Lib.hid (HH.out.keep0 M0)
  have M0' := Lib.hid M0
  have Q0' := Lib.hid Q0
  have G0' := Lib.hid G0
  have HG0 := Lib.hid (HG.out.keep M0 id)
  have hqb := Q0.lt
  obtain ⟨a0, a1, a2, a3, a4, a5, a6, a7, a8, a9, a10, a11, a12, a13, a14, a15, a16, a17, a18, al⟩ := H0.out.a.blk.c19
  have af18 := H0.out.a.blk.live 18
  (try simp only [GW.to] at a0 a1 a2 a3 a4 a5 a6 a7 a8 a9 a10 a11 a12 a13 a14 a15 a16 a17 a18 af18 al)
  obtain ⟨c0, c1, c2, c3, c4, c5, c6, c7, c8, c9, c10, c11, c12, cl⟩ := H0.out.c.blk.c13
  (try simp only [GW.to] at c0 c1 c2 c3 c4 c5 c6 c7 c8 c9 c10 c11 c12 cl)
  obtain ⟨x0, x1, x2, x3, x4, x5, xl⟩ := Q0.c6
  (try simp only [GW.to] at x0 x1 x2 x3 x4 x5 xl)
  obtain ⟨y0, y1, y2, yl⟩ := G0.c3
  (try simp only [GW.to] at y0 y1 y2 yl)
  clear M0 Q0 G0
  have HO := Lib.hid (fun X => object_any cm ob gA gC got (w0.patch X) (H0.out.c.cnf.ok.ext ⟨X, rfl⟩) (HG0.out.cells.ext ⟨X, rfl⟩) h1 HB.out)
  unfold Cnf.val at HO
  refine wp_region_split_any [0] [false, true, true, true, true, true, true, true, true] 9 ?sp_o 8 ?sp1 ?sp2 ?spE ?sp3 ?sp4 ?sp5 ?sp6 ?sp7 ?sp8 ?sp9 ?sp10 ?sp11 ?sp12
  case sp10 => exact rfl
  case sp1 => kernel_rfl
  case sp2 => kernel_rfl
  case spE => kernel_rfl
  case sp3 => kernel_rfl
  case sp4 => (intro c a d v w h; cases d <;> exact h)
  case sp5 => decide
  case sp6 => decide
  case sp7 => decide
  case sp8 => kernel_rfl
  case sp9 => kernel_rfl
  case sp11 => exact rfl
  intro X00
  simp only [pickOps, movesAct, moveOf, List.getElem?_toArray, List.getElem?_cons_zero, List.getElem?_cons_succ]
  (try go_simp)
  repeat (go_big_quiet_step (fail))
  refine wpQuiet_nil (fun X0 K Q' hK => ?_)
  clear X00
  (try go_simp)
  refine (HO.out _).mono ?_
  rintro e w2 ⟨s', lv, nW, rfl, hs', hown, hE2⟩
  obtain ⟨sa, sA, sc, sr⟩ := s'
  have hsh : (sa, sr) = (W.K.c.shapeAt ob).getD (false, []) := by rw [← same_shapeAt HH.out.c.same]; exact hs'
  have hsp : shpOf W.K.c ob = ⟨sa, none, 0, sr⟩ := by unfold shpOf; rw [← hsh]
  have hw0 : wrongE cm (cm.shapeAt ob).isSome ⟨sa, sA, sc, sr⟩ 0 false got = 0 := by
    rw [wrongE_same HH.out.c.same, same_shapeAt HH.out.c.same, ← hsp]
    exact HE.out
  rw [hw0] at hown ⊢
  simp only [if_true] at hown
  have HWL := Lib.hid (show W.takenW ⟨1, oa, ob, oc, on, x, y⟩ got at_ = objWrites ⟨sa, sA, sc, sr⟩ ob got (isSide got) got.length by
    unfold AcW.takenW
    rw [if_pos rfl, hsp]
    exact (objWrites_same sa sA sc sr _ _ _ _).symm)
  clear hsh hsp hw0 hs' HE HO
  generalize objWrites ⟨sa, sA, sc, sr⟩ ob got (isSide got) got.length = wl at *
  obtain ⟨lA, lC, hlv⟩ := own_form hown
  subst hlv
  obtain ⟨own2, m2, R2⟩ : ∃ own2, Mod (fun _ => False) ⟨own0, w0⟩ ⟨own2, w2⟩ ∧ Row ⟨own2, w2⟩ 0 170 2 (.slice lA nW lC) nW (wl) := by
    have hE02 : Ext w0 w2 := (show Ext w0 (w0.patch X0) from ⟨X0, rfl⟩).trans hE2
    refine ⟨_, Mod.ext (g := ⟨own0, w0⟩) (show Ext w0 w2 from hE02) 0, ⟨?_, fun k hk => ?_⟩⟩
    · exact own_base hown
    · have h := (hown.lt k hk).1
      exact GW.to_new (Nat.le_trans (by show w0.heap.size ≤ (w0.patch X0).heap.size; rw [World.size_patch]; omega) h)
  have H2 := Lib.hid (H0.out.keep0 m2)
  have M2 := Lib.hid (M0'.out.trans m2)
  have Q2 := Lib.hid (Q0'.out.keep m2 id)
  have G2 := Lib.hid (G0'.out.keep m2 id)
  have HG2 := Lib.hid (HG0.out.keep m2 id)
  have RW := Lib.hid R2
  clear m2 R2 hown hE2 a0 a1 a2 a3 a4 a5 a6 a7 a8 a9 a10 a11 a12 a13 a14 a15 a16 a17 a18 af18 al c0 c1 c2 c3 c4 c5 c6 c7 c8 c9 c10 c11 c12 cl x0 x1 x2 x3 x4 x5 xl y0 y1 y2 yl H0 M0' Q0' G0' HG0
  obtain ⟨a0, a1, a2, a3, a4, a5, a6, a7, a8, a9, a10, a11, a12, a13, a14, a15, a16, a17, a18, al⟩ := H2.out.a.blk.c19
  have af18 := H2.out.a.blk.live 18
  (try simp only [GW.to] at a0 a1 a2 a3 a4 a5 a6 a7 a8 a9 a10 a11 a12 a13 a14 a15 a16 a17 a18 af18 al)
  (try go_simp)
  refine hK _ _ ?_
  clear hK K Q'
  refine wpAny_pure_step (v := .tuple #[.slice lA nW lC, .int .i64 0]) 10 _ rfl ?sp2 ?sp3 ?sp4 ?sp5 rfl (fun w => rfl) ?_
  case sp2 => kernel_rfl
  case sp3 => kernel_rfl
  case sp4 => kernel_rfl
  case sp5 => (intro c a d v w h; cases d <;> exact h)
  (try go_simp)
  refine wpAny_pure_step (v := .slice lA nW lC) 11 _ rfl ?sp2 ?sp3 ?sp4 ?sp5 rfl (fun w => rfl) ?_
  case sp2 => kernel_rfl
  case sp3 => kernel_rfl
  case sp4 => kernel_rfl
  case sp5 => (intro c a d v w h; cases d <;> exact h)
  (try go_simp)
  refine wpAny_pure_step (v := .int .i64 0) 12 _ rfl ?sp2 ?sp3 ?sp4 ?sp5 rfl (fun w => rfl) ?_
  case sp2 => kernel_rfl
  case sp3 => kernel_rfl
  case sp4 => kernel_rfl
  case sp5 => (intro c a d v w h; cases d <;> exact h)
  (try go_simp)
  refine wpAny_pure_step (v := .pointer (some ⟨b, 0, none⟩)) 13 _ rfl ?sp2 ?sp3 ?sp4 ?sp5 rfl (fun w => rfl) ?_
  case sp2 => kernel_rfl
  case sp3 => kernel_rfl
  case sp4 => kernel_rfl
  case sp5 => (intro c a d v w h; cases d <;> exact h)
  (try go_simp)
  refine wpAny_pure_step (v := .pointer (some ⟨b, 10, none⟩)) 14 _ rfl ?sp2 ?sp3 ?sp4 ?sp5 rfl (fun w => rfl) ?_
  case sp2 => kernel_rfl
  case sp3 => kernel_rfl
  case sp4 => kernel_rfl
  case sp5 => (intro c a d v w h; cases d <;> exact h)
  (try go_simp)
  refine wpAny_pure_step (v := .pointer (some ⟨b, 18, none⟩)) 15 _ rfl ?sp2 ?sp3 ?sp4 ?sp5 rfl (fun w => rfl) ?_
  case sp2 => kernel_rfl
  case sp3 => kernel_rfl
  case sp4 => kernel_rfl
  case sp5 => (intro c a d v w h; cases d <;> exact h)
  (try go_simp)
  refine wpAny_loud_step 16 _ (by kernel_rfl) rfl rfl (fun K Q' hK => ?_)
  (try go_simp)
  refine hK _ _ ?_
  clear hK K Q'
  refine wpAny_pure_step (v := .int .i64 0) 17 _ rfl ?sp2 ?sp3 ?sp4 ?sp5 rfl (fun w => rfl) ?_
  case sp2 => kernel_rfl
  case sp3 => kernel_rfl
  case sp4 => kernel_rfl
  case sp5 => (intro c a d v w h; cases d <;> exact h)
  (try go_simp)
  refine wpAny_done (by kernel_rfl) ?_ _
  have hnw : wl.length / 2 = nW := by rw [RW.out.len]; omega
  have hnw2 : wl.length % 2 = 0 := by rw [RW.out.len]; omega
  obtain ⟨A', c', e1, e2, e3, -⟩ := RW.out.form
  have e4 : lC = c' := by injection e1
  rw [← e4] at e2 e3
  clear e1 e4 A' c'
  have R5 : AcRows ⟨own2, w2⟩ t (W.takes ⟨1, oa, ob, oc, on, x, y⟩ got at_).a { p with gotA := gA, gotC := gC, wrA := lA, wrC := lC } := by
    obtain ⟨r1, r2, r3, r4, r5, r6, r7, r8, r9, r10, r11, r12⟩ := H2.out.a.r
    have hwl : (W.takes ⟨1, oa, ob, oc, on, x, y⟩ got at_).a.writes = wl := HWL.out
    exact ⟨r1, r2, r3, r4, r5, r6, r7, HG2.out, hgc, (by rw [hwl]; exact RW.out.seg), (by rw [hwl]; exact hnw2), (by rw [hwl, hnw]; exact ⟨e2, e3⟩)⟩
  have H5 := Lib.hid (H2.out.turn (A' := (W.takes ⟨1, oa, ob, oc, on, x, y⟩ got at_).a) (p' := { p with gotA := gA, gotC := gC, wrA := lA, wrC := lC }) HP.out (g' := ⟨own2, (((w2.setCell ⟨b, 18, none⟩ (.slice lA nW lC)).setCell ⟨b, 17, none⟩ (.slice gA got.length gC)).setCell ⟨b, 3, none⟩ (.int .i64 2)).setCell ⟨b, 11, none⟩ (.int .i64 7)⟩) (Mod.st (Mod.st (Mod.st (Mod.st (Mod.refl _ _) H2.out.a.blk.own) H2.out.a.blk.own) H2.out.a.blk.own) H2.out.a.blk.own) (by
    have h := (((H2.out.a.blk.set 18 (.slice lA nW lC)).set 17 (.slice gA got.length gC)).set 3 (.int .i64 2)).set 11 (.int .i64 7)
    have hc : AcS.cells (W.takes ⟨1, oa, ob, oc, on, x, y⟩ got at_).a { p with gotA := gA, gotC := gC, wrA := lA, wrC := lC } = (((((W.a.cells p).set 18 (.slice lA nW lC)).set 17 (.slice gA got.length gC)).set 3 (.int .i64 2)).set 11 (.int .i64 7)) := by
      unfold AcS.cells AcW.takes AcW.withA
      simp only
      rw [HWL.out, hnw]
      rfl
    rw [hc]
    exact h) R5)
  have M5 := Lib.hid (show Mod (fun x => x = t) g ⟨own2, (((w2.setCell ⟨b, 18, none⟩ (.slice lA nW lC)).setCell ⟨b, 17, none⟩ (.slice gA got.length gC)).setCell ⟨b, 3, none⟩ (.int .i64 2)).setCell ⟨b, 11, none⟩ (.int .i64 7)⟩ from Mod.st (Mod.st (Mod.st (Mod.st (M2.out.mono (fun _ => False.elim)) H2.out.a.blk.own) H2.out.a.blk.own) H2.out.a.blk.own) H2.out.a.blk.own)
  have F3 := H2.out.a.blk.live 3
  have F11 := H2.out.a.blk.live 11
  have F17 := H2.out.a.blk.live 17
  obtain ⟨x0, x1, x2, x3, x4, x5, xl⟩ := Q2.out.c6
  (try simp only [GW.to] at x0 x1 x2 x3 x4 x5 xl)
  obtain ⟨y0, y1, y2, yl⟩ := G2.out.c3
  (try simp only [GW.to] at y0 y1 y2 yl)
  have hbq : b ≠ g.w.heap.size + 1 := fun e => by have h1 := H2.out.a.blk.own; have h2 := G2.out.own; rw [e] at h1; omega
  have hqb2 : g.w.heap.size + 1 ≠ b := fun e => hbq e.symm
  clear R5 hnw hnw2 e2 e3
  simp only at F3 F11 F17
  go_wp2_with fail
  go_ret
  exact Does.of ⟨own2, _⟩ rfl rfl M5.out ⟨_, H5.out⟩
end
end Go.Proofs.YtoaehfdjffejeaaGreat

