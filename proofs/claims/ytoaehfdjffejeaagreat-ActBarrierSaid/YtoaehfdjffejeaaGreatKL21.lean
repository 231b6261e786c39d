import Derived.Test.YtoaehfdjffejeaaGreatKL20
/-
  Packed: ActL, OpCheckA.
-/
open Go.Ext renaming alloc → zA, patch → zP, drew → zD, drewN → zN, more → zM, refl → zR, setCell → zS
open Nat renaming le_refl → zL, le_add_right → zK
/-
  act: stores.
-/
namespace Go
section
variable {P : Program} {a : Act} {w : World} {Q : Exit → Act → World → Prop}
theorem wp_scope_via2s {c r0 r1 : Code} (l0 l1 : Nat) (h0 : findLabel c l0 = some r0) (h1 : findLabel c l1 = some r1) (first : c.wp P (Exit.via P Q [(l0, r0), (l1, r1)]) a w) : (Code.scope c).wp P Q a w :=
  wp_scope_via [(l0, r0), (l1, r1)] (by
    intro p hp
    simp only [List.mem_cons, List.not_mem_nil, or_false] at hp
    rcases hp with rfl | rfl
    · exact h0
    · exact h1) first
end
end Go
namespace Go.Proofs.YtoaehfdjffejeaaGreat
open Go Go.RowKit
set_option linter.unusedVariables false
set_option linter.unnecessarySimpa false
set_option linter.unusedSimpArgs false
set_option maxHeartbeats 2000000
set_option maxRecDepth 100000

section
variable {g : GW} {t b B k : Nat} {W : AcW} {p : AcP} {bm bs bt bp bsp bh : Nat} {cm : Cnf}
theorem act_storesOld [TbId] (P : AcApart t B) (hn : 0 ≤ W.K.n ∧ W.K.n ≤ 1099511627776) (h4 : W.a.at_ = 4) (H : AcIn g t B b k W p bm bs bt bp bsp bh cm) :
    Calls Tryz.prog 61 #[.pointer (some ⟨b, 0, none⟩), .pointer (some ⟨k, 0, none⟩)] g.w (Does (resV W.storesOld.1) g (acT t B) (fun g' => AcWAt g' t B b k W.storesOld.2)) := by
  have HI := Lib.hid (fun w' => index_any_w W.a.old w')
  obtain ⟨i, hi⟩ : ∃ i, (wIndex W.a.old).getD 0 = i := ⟨_, rfl⟩
  have HD := Lib.hid (show W.storesOld = ((W.greyK i).withA { W.a with at_ := W.a.behind }).no by unfold AcW.storesOld; rw [hi])
  have HH := Lib.hid H
  have HP := Lib.hid P
  have hPt := P.ht
  have hPb := P.hb
  go_enter Tryz.func61, Tryz.ntmps61
  go_wp2_with fail
  refine wp_scope_via2s 0 4 rfl rfl ?_
  go_upto_region 1 with fail
  obtain ⟨own0, M0, R0⟩ := start1 g 36 resZ
  unfold resZ at M0 R0
  generalize (g.w.alloc (.cells #[.int .i64 0, .int .i64 0, .int .i64 0, .bool false, .complex .f64 0 0] 36)) = w0 at *
  have M0' := Lib.hid M0
  have R0' := Lib.hid R0
  clear M0 R0
  have H0 := Lib.hid (HH.out.keep0 M0'.out)
  have M1 := Lib.hid (M0'.out.mono (S := acT t B) (fun _ => False.elim))
  have H1 := H0
  have R1 := R0'
  obtain ⟨a0, a1, a2, a3, a4, a5, a6, a7, a8, a9, a10, a11, a12, a13, a14, a15, a16, a17, a18, al⟩ := H0.out.a.blk.c19
  (try simp only [GW.to] at a0 a1 a2 a3 a4 a5 a6 a7 a8 a9 a10 a11 a12 a13 a14 a15 a16 a17 a18 al)
  rw [h4] at a11
  clear H0 R0' M0' H h4
  obtain ⟨u, hu⟩ : ∃ u, W.a.old = u := ⟨_, rfl⟩
  rw [hu] at HI a15 hi
  have HU := Lib.hid hu
  clear hu
  obtain ⟨u1, u2⟩ := u
  simp only at HI a15
  have HI2 := Lib.hid (fun w' => (show ∃ bb : Bool, Calls Tryz.prog 82 #[.complex .f64 u1 u2] w' (Gives (.tuple #[.int .i64 i, .bool bb]) w') from by
    have h := HI.out w'
    unfold optV at h
    revert h
    rw [← hi]
    cases wIndex (u1, u2) with
    | none => exact fun h => ⟨_, h⟩
    | some j => exact fun h => ⟨_, h⟩))
  clear HI hi
  generalize w0 = w1 at *
  generalize own0 = own1 at *
  go_wp2_with fail
  go_step3
  refine via_here ?_
  go_wp2_with fail
  obtain ⟨bb, HI3⟩ := HI2.out w1
  refine HI3.mono ?_
  rintro e w2 ⟨rfl, hE⟩
  obtain ⟨own2, m2⟩ : ∃ ownZ, Mod (fun _ => False) (⟨own1, w1⟩ : GW) ⟨ownZ, w2⟩ := by
    obtain ⟨X2, rfl⟩ := hE
    exact ⟨((⟨own1, w1⟩ : GW).pt X2).own, (show Mod (fun _ => False) (⟨own1, w1⟩ : GW) ((⟨own1, w1⟩ : GW).pt X2) from Mod.pt (Mod.refl _ _) _)⟩
  have M2 := Lib.hid (M1.out.trans (m2.mono (S := acT t B) (fun _ => False.elim)))
  have H2 := Lib.hid (H1.out.keep0 m2)
  have R2 := Lib.hid (R1.out.keep m2 id)
  clear hE m2 M1 H1 R1
  clear a0 a1 a2 a3 a4 a5 a6 a7 a8 a9 a10 a11 a12 a13 a14 a15 a16 a17 a18 al
  have HG := Lib.hid (fun X => shade_grey ((⟨own2, w2⟩ : GW).pt X) (B + 60) bs bt (B + 50) bp (B + 61) W.K.sp.tab W.K.pile W.K.n i W.a.sense (H2.out.pt X).c.shd hn (by omega) (by omega) (by omega))
  obtain ⟨a0, a1, a2, a3, a4, a5, a6, a7, a8, a9, a10, a11, a12, a13, a14, a15, a16, a17, a18, al⟩ := H2.out.a.blk.c19
  (try simp only [GW.to] at a0 a1 a2 a3 a4 a5 a6 a7 a8 a9 a10 a11 a12 a13 a14 a15 a16 a17 a18 al)
  obtain ⟨c0, c1, c2, c3, c4, c5, c6, c7, c8, c9, c10, c11, c12, cl⟩ := H2.out.c.blk.c13
  (try simp only [GW.to] at c0 c1 c2 c3 c4 c5 c6 c7 c8 c9 c10 c11 c12 cl)
  clear HI2 HI3
  go_wp2_with fail
  refine wp_region_mixed [true, true, true, true, true, true, true, true, true, false] 1 9 (by kernel_rfl) (by kernel_rfl) (by kernel_rfl) ?_ (by decide) (by decide) (by decide) (by kernel_rfl) ?_
  · intro c a d v w h; cases d <;> exact h
  intro X00
  simp only [pickOps]
  repeat (go_big_quiet_step (fail))
  refine wpQuiet_nil (fun X0 => ?_)
  clear X00
  refine wpAnyM_tailL rfl (by kernel_rfl) (fun X2 => ?_)
  simp only [List.drop_succ_cons, List.drop_zero]
  go_wp2_with fail
  refine (HG.out _).mono ?_
  rintro e w3 ⟨rfl, own3, m3, h3⟩
  have P3 := (Mod.pt (Mod.refl _ _) _).trans m3
  have M3 := Lib.hid (M2.out.trans (P3.mono (S := acT t B) (fun x hx => acT_shd hx)))
  have H3 := Lib.hid (show AcIn ⟨own3, w3⟩ t B b k (W.greyK i) p bm bs bt bp bsp bh cm from H2.out.greyK HP.out P3 h3)
  have R3 := Lib.hid (R2.out.keep P3 (by omega))
  clear P3 m3 h3 HG M2 H2 R2
  clear a0 a1 a2 a3 a4 a5 a6 a7 a8 a9 a10 a11 a12 a13 a14 a15 a16 a17 a18 al
  clear c0 c1 c2 c3 c4 c5 c6 c7 c8 c9 c10 c11 c12 cl
  have HB := Lib.hid (show Calls Tryz.prog 111 #[.pointer (some ⟨b, 0, none⟩)] w3 (Gives (.int .i64 W.a.behind) w3) from act_behind ⟨own3, w3⟩ t b W.a p H3.out.a)
  generalize W.a.behind = bhd at *
  go_wp2_with fail
  go_step3
  go_wp2_with fail
  refine HB.out.mono ?_
  rintro e w4 ⟨rfl, hE⟩
  obtain ⟨own4, m4⟩ : ∃ ownZ, Mod (fun _ => False) (⟨own3, w3⟩ : GW) ⟨ownZ, w4⟩ := by
    obtain ⟨X2, rfl⟩ := hE
    exact ⟨((⟨own3, w3⟩ : GW).pt X2).own, (show Mod (fun _ => False) (⟨own3, w3⟩ : GW) ((⟨own3, w3⟩ : GW).pt X2) from Mod.pt (Mod.refl _ _) _)⟩
  have M4 := Lib.hid (M3.out.trans (m4.mono (S := acT t B) (fun _ => False.elim)))
  have H4 := Lib.hid (H3.out.keep0 m4)
  have R4 := Lib.hid (R3.out.keep m4 id)
  clear hE m4 M3 H3 R3
  obtain ⟨a0, a1, a2, a3, a4, a5, a6, a7, a8, a9, a10, a11, a12, a13, a14, a15, a16, a17, a18, al⟩ := H4.out.a.blk.c19
  have af11 := H4.out.a.blk.live 11
  (try simp only [GW.to] at a0 a1 a2 a3 a4 a5 a6 a7 a8 a9 a10 a11 a12 a13 a14 a15 a16 a17 a18 af11 al)
  have H5 := Lib.hid (H4.out.set HP.out 11 (.int .i64 bhd) { W.a with at_ := bhd } rfl ⟨rfl, rfl, rfl, rfl, rfl, rfl⟩)
  have m5 : Mod (fun x => x = t) (⟨own4, w4⟩ : GW) ⟨own4, w4.setCell ⟨b, 11, none⟩ (.int .i64 bhd)⟩ := Mod.st (Mod.refl _ _) H4.out.a.blk.own
  have M5 := Lib.hid (M4.out.trans (m5.mono (S := acT t B) (fun x hx => acT_t hx)))
  have R5 := Lib.hid (R4.out.keep m5 (by omega))
  clear m5
  go_wp2_with fail
  go_step3
  refine via_here ?_
  generalize w4.setCell ⟨b, 11, none⟩ (.int .i64 bhd) = w5 at *
  clear a0 a1 a2 a3 a4 a5 a6 a7 a8 a9 a10 a11 a12 a13 a14 a15 a16 a17 a18 al
  obtain ⟨r0, r1, r2, r3, r4, rl⟩ := R5.out.c5
  have rf0 := R5.out.live 0
  have rf1 := R5.out.live 1
  have rf2 := R5.out.live 2
  have rf3 := R5.out.live 3
  have rf4 := R5.out.live 4
  (try simp only [GW.to] at r0 r1 r2 r3 r4 rf0 rf1 rf2 rf3 rf4 rl)
  go_wp2_with fail
  rw [Exit.via_ret]
  obtain ⟨Mf, mf, Rf⟩ := put_res M5.out R5.out (Nat.le_refl _) (0) (0) (0) (false) (0) (0)
  generalize ((((((w5).setCell ⟨g.w.heap.size, 0, none⟩ (.int .i64 (0))).setCell ⟨g.w.heap.size, 1, none⟩ (.int .i64 (0))).setCell ⟨g.w.heap.size, 2, none⟩ (.int .i64 (0))).setCell ⟨g.w.heap.size, 3, none⟩ (.bool (false))).setCell ⟨g.w.heap.size, 4, none⟩ (.complex .f64 (0) (0))) = wf at *
  obtain ⟨f0, f1, f2, f3, f4, fl⟩ := Rf.c5
  (try simp only [GW.to] at f0 f1 f2 f3 f4 fl)
  refine bodyPost_ret (v := .tuple #[.agg #[.int .i64 (0), .int .i64 (0), .int .i64 (0), .bool (false), .complex .f64 (0) (0)], .bool false]) (by simp [results, Tryz.results61, go_sem, f0, f1, f2, f3, f4]) rfl ?_
  exact Does.of ⟨own4, wf⟩ rfl (by rw [HD.out]; rfl) Mf (by rw [HD.out]; exact (H5.out.keep mf (by omega) (fun x (hx : x = 9) => by omega) (fun x (hx : x = 9) => by omega)).at_)
theorem act_storesNew [TbId] (P : AcApart t B) (hn : 0 ≤ W.K.n ∧ W.K.n ≤ 1099511627776) (h4 : W.a.at_ = 5) (H : AcIn g t B b k W p bm bs bt bp bsp bh cm) :
    Calls Tryz.prog 61 #[.pointer (some ⟨b, 0, none⟩), .pointer (some ⟨k, 0, none⟩)] g.w (Does (resV W.storesNew.1) g (acT t B) (fun g' => AcWAt g' t B b k W.storesNew.2)) := by
  have HI := Lib.hid (fun w' => index_any_w W.a.w w')
  obtain ⟨i, hi⟩ : ∃ i, (wIndex W.a.w).getD 0 = i := ⟨_, rfl⟩
  have HD := Lib.hid (show W.storesNew = ((W.greyK i).withA { W.a with at_ := 6 }).no by unfold AcW.storesNew; rw [hi])
  have HH := Lib.hid H
  have HP := Lib.hid P
  have hPt := P.ht
  have hPb := P.hb
  go_enter Tryz.func61, Tryz.ntmps61
  go_wp2_with fail
  refine wp_scope_via2s 1 4 rfl rfl ?_
  go_upto_region 1 with fail
  obtain ⟨own0, M0, R0⟩ := start1 g 36 resZ
  unfold resZ at M0 R0
  generalize (g.w.alloc (.cells #[.int .i64 0, .int .i64 0, .int .i64 0, .bool false, .complex .f64 0 0] 36)) = w0 at *
  have M0' := Lib.hid M0
  have R0' := Lib.hid R0
  clear M0 R0
  have H0 := Lib.hid (HH.out.keep0 M0'.out)
  have M1 := Lib.hid (M0'.out.mono (S := acT t B) (fun _ => False.elim))
  have H1 := H0
  have R1 := R0'
  obtain ⟨a0, a1, a2, a3, a4, a5, a6, a7, a8, a9, a10, a11, a12, a13, a14, a15, a16, a17, a18, al⟩ := H0.out.a.blk.c19
  (try simp only [GW.to] at a0 a1 a2 a3 a4 a5 a6 a7 a8 a9 a10 a11 a12 a13 a14 a15 a16 a17 a18 al)
  rw [h4] at a11
  clear H0 R0' M0' H h4
  obtain ⟨u, hu⟩ : ∃ u, W.a.w = u := ⟨_, rfl⟩
  rw [hu] at HI a16 hi
  clear hu
  obtain ⟨u1, u2⟩ := u
  simp only at HI a16
  have HI2 := Lib.hid (fun w' => (show ∃ bb : Bool, Calls Tryz.prog 82 #[.complex .f64 u1 u2] w' (Gives (.tuple #[.int .i64 i, .bool bb]) w') from by
    have h := HI.out w'
    unfold optV at h
    revert h
    rw [← hi]
    cases wIndex (u1, u2) with
    | none => exact fun h => ⟨_, h⟩
    | some j => exact fun h => ⟨_, h⟩))
  clear HI hi
  generalize w0 = w1 at *
  generalize own0 = own1 at *
  go_wp2_with fail
  go_step3
  refine via_here ?_
  go_wp2_with fail
  obtain ⟨bb, HI3⟩ := HI2.out w1
  refine HI3.mono ?_
  rintro e w2 ⟨rfl, hE⟩
  obtain ⟨own2, m2⟩ : ∃ ownZ, Mod (fun _ => False) (⟨own1, w1⟩ : GW) ⟨ownZ, w2⟩ := by
    obtain ⟨X2, rfl⟩ := hE
    exact ⟨((⟨own1, w1⟩ : GW).pt X2).own, (show Mod (fun _ => False) (⟨own1, w1⟩ : GW) ((⟨own1, w1⟩ : GW).pt X2) from Mod.pt (Mod.refl _ _) _)⟩
  have M2 := Lib.hid (M1.out.trans (m2.mono (S := acT t B) (fun _ => False.elim)))
  have H2 := Lib.hid (H1.out.keep0 m2)
  have R2 := Lib.hid (R1.out.keep m2 id)
  clear hE m2 M1 H1 R1
  clear a0 a1 a2 a3 a4 a5 a6 a7 a8 a9 a10 a11 a12 a13 a14 a15 a16 a17 a18 al
  have HG := Lib.hid (fun X => shade_grey ((⟨own2, w2⟩ : GW).pt X) (B + 60) bs bt (B + 50) bp (B + 61) W.K.sp.tab W.K.pile W.K.n i W.a.sense (H2.out.pt X).c.shd hn (by omega) (by omega) (by omega))
  obtain ⟨a0, a1, a2, a3, a4, a5, a6, a7, a8, a9, a10, a11, a12, a13, a14, a15, a16, a17, a18, al⟩ := H2.out.a.blk.c19
  (try simp only [GW.to] at a0 a1 a2 a3 a4 a5 a6 a7 a8 a9 a10 a11 a12 a13 a14 a15 a16 a17 a18 al)
  obtain ⟨c0, c1, c2, c3, c4, c5, c6, c7, c8, c9, c10, c11, c12, cl⟩ := H2.out.c.blk.c13
  (try simp only [GW.to] at c0 c1 c2 c3 c4 c5 c6 c7 c8 c9 c10 c11 c12 cl)
  clear HI2 HI3
  go_wp2_with fail
  refine wp_region_mixed [true, true, true, true, true, true, true, true, true, false] 1 9 (by kernel_rfl) (by kernel_rfl) (by kernel_rfl) ?_ (by decide) (by decide) (by decide) (by kernel_rfl) ?_
  · intro c a d v w h; cases d <;> exact h
  intro X00
  simp only [pickOps]
  repeat (go_big_quiet_step (fail))
  refine wpQuiet_nil (fun X0 => ?_)
  clear X00
  refine wpAnyM_tailL rfl (by kernel_rfl) (fun X2 => ?_)
  simp only [List.drop_succ_cons, List.drop_zero]
  go_wp2_with fail
  refine (HG.out _).mono ?_
  rintro e w3 ⟨rfl, own3, m3, h3⟩
  have P3 := (Mod.pt (Mod.refl _ _) _).trans m3
  have M3 := Lib.hid (M2.out.trans (P3.mono (S := acT t B) (fun x hx => acT_shd hx)))
  have H3 := Lib.hid (show AcIn ⟨own3, w3⟩ t B b k (W.greyK i) p bm bs bt bp bsp bh cm from H2.out.greyK HP.out P3 h3)
  have R3 := Lib.hid (R2.out.keep P3 (by omega))
  clear P3 m3 h3 HG M2 H2 R2
  clear a0 a1 a2 a3 a4 a5 a6 a7 a8 a9 a10 a11 a12 a13 a14 a15 a16 a17 a18 al
  clear c0 c1 c2 c3 c4 c5 c6 c7 c8 c9 c10 c11 c12 cl
  obtain ⟨a0, a1, a2, a3, a4, a5, a6, a7, a8, a9, a10, a11, a12, a13, a14, a15, a16, a17, a18, al⟩ := H3.out.a.blk.c19
  have af11 := H3.out.a.blk.live 11
  (try simp only [GW.to] at a0 a1 a2 a3 a4 a5 a6 a7 a8 a9 a10 a11 a12 a13 a14 a15 a16 a17 a18 af11 al)
  have H5 := Lib.hid (H3.out.set HP.out 11 (.int .i64 6) { W.a with at_ := 6 } rfl ⟨rfl, rfl, rfl, rfl, rfl, rfl⟩)
  have m5 : Mod (fun x => x = t) (⟨own3, w3⟩ : GW) ⟨own3, w3.setCell ⟨b, 11, none⟩ (.int .i64 6)⟩ := Mod.st (Mod.refl _ _) H3.out.a.blk.own
  have M5 := Lib.hid (M3.out.trans (m5.mono (S := acT t B) (fun x hx => acT_t hx)))
  have R5 := Lib.hid (R3.out.keep m5 (by omega))
  clear m5
  go_wp2_with fail
  go_step3
  refine via_here ?_
  generalize w3.setCell ⟨b, 11, none⟩ (.int .i64 6) = w5 at *
  clear a0 a1 a2 a3 a4 a5 a6 a7 a8 a9 a10 a11 a12 a13 a14 a15 a16 a17 a18 al
  obtain ⟨r0, r1, r2, r3, r4, rl⟩ := R5.out.c5
  have rf0 := R5.out.live 0
  have rf1 := R5.out.live 1
  have rf2 := R5.out.live 2
  have rf3 := R5.out.live 3
  have rf4 := R5.out.live 4
  (try simp only [GW.to] at r0 r1 r2 r3 r4 rf0 rf1 rf2 rf3 rf4 rl)
  go_wp2_with fail
  rw [Exit.via_ret]
  obtain ⟨Mf, mf, Rf⟩ := put_res M5.out R5.out (Nat.le_refl _) (0) (0) (0) (false) (0) (0)
  generalize ((((((w5).setCell ⟨g.w.heap.size, 0, none⟩ (.int .i64 (0))).setCell ⟨g.w.heap.size, 1, none⟩ (.int .i64 (0))).setCell ⟨g.w.heap.size, 2, none⟩ (.int .i64 (0))).setCell ⟨g.w.heap.size, 3, none⟩ (.bool (false))).setCell ⟨g.w.heap.size, 4, none⟩ (.complex .f64 (0) (0))) = wf at *
  obtain ⟨f0, f1, f2, f3, f4, fl⟩ := Rf.c5
  (try simp only [GW.to] at f0 f1 f2 f3 f4 fl)
  refine bodyPost_ret (v := .tuple #[.agg #[.int .i64 (0), .int .i64 (0), .int .i64 (0), .bool (false), .complex .f64 (0) (0)], .bool false]) (by simp [results, Tryz.results61, go_sem, f0, f1, f2, f3, f4]) rfl ?_
  exact Does.of ⟨own3, wf⟩ rfl (by rw [HD.out]; rfl) Mf (by rw [HD.out]; exact (H5.out.keep mf (by omega) (fun x (hx : x = 9) => by omega) (fun x (hx : x = 9) => by omega)).at_)
theorem act_storesWrite [TbId] (P : AcApart t B) (hmc : 0 ≤ W.K.mem.count ∧ W.K.mem.count ≤ 1099511627776) (hnx : 0 ≤ W.a.next ∧ W.a.next ≤ 1099511627776) (h4 : W.a.at_ = 6) (hin : inB W.a.addr W.K.mem.l.length = true) (H : AcIn g t B b k W p bm bs bt bp bsp bh cm) :
    Calls Tryz.prog 61 #[.pointer (some ⟨b, 0, none⟩), .pointer (some ⟨k, 0, none⟩)] g.w (Does (resV W.storesWrite.1) g (acT t B) (fun g' => AcWAt g' t B b k W.storesWrite.2)) := by
  obtain ⟨z1, hz1⟩ : ∃ z, W.a.w.1 = z := ⟨_, rfl⟩
  obtain ⟨z2, hz2⟩ : ∃ z, W.a.w.2 = z := ⟨_, rfl⟩
  have hz : W.a.w = (z1, z2) := by rw [← hz1, ← hz2]
  have HD := Lib.hid (show W.storesWrite = (W.memW (W.K.mem.tick.lay W.a.addr (z1, z2))).doneR LVal.zero 0 by unfold AcW.storesWrite; rw [hz])
  have HH := Lib.hid H
  have HP := Lib.hid P
  have hPt := P.ht
  have hPb := P.hb
  go_enter Tryz.func61, Tryz.ntmps61
  go_wp2_with fail
  refine wp_scope_via2s 2 4 rfl rfl ?_
  go_upto_region 1 with fail
  obtain ⟨own0, M0, R0⟩ := start1 g 36 resZ
  unfold resZ at M0 R0
  generalize (g.w.alloc (.cells #[.int .i64 0, .int .i64 0, .int .i64 0, .bool false, .complex .f64 0 0] 36)) = w0 at *
  have M0' := Lib.hid M0
  have R0' := Lib.hid R0
  clear M0 R0
  have H0 := Lib.hid (HH.out.keep0 M0'.out)
  have HK := Lib.hid (fun X => mem_write ((⟨own0, w0⟩ : GW).pt X) (B + 62) bm W.a.addr z1 z2 W.K.mem (H0.out.pt X).c.mem hmc)
  rw [hin] at HK
  simp only [if_true] at HK
  obtain ⟨a0, a1, a2, a3, a4, a5, a6, a7, a8, a9, a10, a11, a12, a13, a14, a15, a16, a17, a18, al⟩ := H0.out.a.blk.c19
  (try simp only [GW.to] at a0 a1 a2 a3 a4 a5 a6 a7 a8 a9 a10 a11 a12 a13 a14 a15 a16 a17 a18 al)
  obtain ⟨c0, c1, c2, c3, c4, c5, c6, c7, c8, c9, c10, c11, c12, cl⟩ := H0.out.c.blk.c13
  (try simp only [GW.to] at c0 c1 c2 c3 c4 c5 c6 c7 c8 c9 c10 c11 c12 cl)
  rw [h4] at a11
  rw [hz1, hz2] at a16
  clear H hin hmc hz hz1 hz2 h4
  go_wp2_with fail
  go_step3
  refine via_here ?_
  go_wp2_with fail
  refine wp_region_mixed [true, true, true, true, true, true, true, true, true, true, true, true, true, true, false, false] 2 14 (by kernel_rfl) (by kernel_rfl) (by kernel_rfl) ?_ (by decide) (by decide) (by decide) (by kernel_rfl) ?_
  · intro c a d v w h; cases d <;> exact h
  intro X00
  simp only [pickOps]
  repeat (go_big_quiet_step (fail))
  refine wpQuiet_nil (fun X0 => ?_)
  clear X00
  refine wpAnyM_tailL rfl (by kernel_rfl) (fun X2 => ?_)
  simp only [List.drop_succ_cons, List.drop_zero]
  go_wp2_with fail
  refine (HK.out _).mono ?_
  rintro e w1 ⟨rfl, own1, m1, h1⟩
  have P1 := (Mod.pt (Mod.refl _ _) _).trans m1
  have M1 := Lib.hid ((M0'.out.mono (S := acT t B) (fun _ => False.elim)).trans (P1.mono (S := acT t B) (fun x hx => acT_mem hx)))
  have H1 := Lib.hid (H0.out.mem HP.out P1 h1)
  have R1 := Lib.hid (R0'.out.keep P1 (by omega))
  clear P1 m1 h1 HK H0 M0' R0'
  clear a0 a1 a2 a3 a4 a5 a6 a7 a8 a9 a10 a11 a12 a13 a14 a15 a16 a17 a18 al
  clear c0 c1 c2 c3 c4 c5 c6 c7 c8 c9 c10 c11 c12 cl
  obtain ⟨r, hr⟩ : ∃ r, (W.memW (W.K.mem.tick.lay W.a.addr (z1, z2))).a.res LVal.zero 0 = r := ⟨_, rfl⟩
  have HRr := Lib.hid hr
  have HDN := Lib.hid (show Calls Tryz.prog 60 #[.pointer (some ⟨b, 0, none⟩), .agg #[.bool false, .complex .f64 0 0], .int .i64 0] w1 (Does (.tuple #[.agg #[.int .i64 r.op, .int .i64 r.own, .int .i64 r.e, .bool r.v.ref, .complex .f64 r.v.z.1 r.v.z.2], .bool true]) ⟨own1, w1⟩ (acO t) (fun g' => AcAt g' t b _ p)) from act_done2 ⟨own1, w1⟩ t b _ p LVal.zero 0 r hPt H1.out.a hnx hr)
  clear hr
  go_wp2_with fail
  refine HDN.out.mono ?_
  rintro e w2 ⟨rfl, own2, m2, h2⟩
  have M2 := Lib.hid (M1.out.trans (m2.mono (S := acT t B) (fun x hx => acT_own hx)))
  have H2 := Lib.hid (H1.out.own HP.out m2 h2)
  have R2 := Lib.hid (R1.out.keep m2 (fun h => by unfold acO at h; omega))
  clear M1 H1 R1 m2 h2 HDN
  obtain ⟨r0, r1, r2, r3, r4, rl⟩ := R2.out.c5
  have rf0 := R2.out.live 0
  have rf1 := R2.out.live 1
  have rf2 := R2.out.live 2
  have rf3 := R2.out.live 3
  have rf4 := R2.out.live 4
  (try simp only [GW.to] at r0 r1 r2 r3 r4 rf0 rf1 rf2 rf3 rf4 rl)
  go_wp2_with fail
  rw [Exit.via_ret]
  obtain ⟨Mf, mf, Rf⟩ := put_res M2.out R2.out (Nat.le_refl _) (r.op) (r.own) (r.e) (r.v.ref) (r.v.z.1) (r.v.z.2)
  generalize ((((((w2).setCell ⟨g.w.heap.size, 0, none⟩ (.int .i64 (r.op))).setCell ⟨g.w.heap.size, 1, none⟩ (.int .i64 (r.own))).setCell ⟨g.w.heap.size, 2, none⟩ (.int .i64 (r.e))).setCell ⟨g.w.heap.size, 3, none⟩ (.bool (r.v.ref))).setCell ⟨g.w.heap.size, 4, none⟩ (.complex .f64 (r.v.z.1) (r.v.z.2))) = wf at *
  obtain ⟨f0, f1, f2, f3, f4, fl⟩ := Rf.c5
  (try simp only [GW.to] at f0 f1 f2 f3 f4 fl)
  refine bodyPost_ret (v := .tuple #[.agg #[.int .i64 (r.op), .int .i64 (r.own), .int .i64 (r.e), .bool (r.v.ref), .complex .f64 (r.v.z.1) (r.v.z.2)], .bool true]) (by simp [results, Tryz.results61, go_sem, f0, f1, f2, f3, f4]) rfl ?_
  exact Does.of ⟨own2, wf⟩ rfl (by rw [HD.out, ← HRr.out]; rfl) Mf (by rw [HD.out]; exact (H2.out.keep mf (by omega) (fun x (hx : x = 9) => by omega) (fun x (hx : x = 9) => by omega)).at_)
theorem act_storesRead [TbId] (P : AcApart t B) (hmc : 0 ≤ W.K.mem.count ∧ W.K.mem.count ≤ 1099511627776) (h4 : W.a.at_ ≠ 4) (h5 : W.a.at_ ≠ 5) (h6 : W.a.at_ ≠ 6) (hin : inB W.a.addr W.K.mem.l.length = true) (hrf : wIs (W.K.mem.peek W.a.addr) = true) (H : AcIn g t B b k W p bm bs bt bp bsp bh cm) :
    Calls Tryz.prog 61 #[.pointer (some ⟨b, 0, none⟩), .pointer (some ⟨k, 0, none⟩)] g.w (Does (resV W.storesRead.1) g (acT t B) (fun g' => AcWAt g' t B b k W.storesRead.2)) := by
  obtain ⟨u, v⟩ : ∃ q : Nat × Nat, W.K.mem.peek W.a.addr = q := ⟨_, rfl⟩
  have HD := Lib.hid (show W.storesRead = ((W.memW W.K.mem.tick).withA { W.a with old := u, at_ := if (wIndex u).isSome then 4 else W.a.behind }).no by unfold AcW.storesRead; rw [v])
  obtain ⟨u1, u2⟩ := u
  rw [v] at hrf
  have HIS := Lib.hid (fun w => is_any (u1, u2) w)
  rw [show wIs (u1, u2) = true from hrf] at HIS
  have HI := Lib.hid (fun w' => index_any_w (u1, u2) w')
  simp only at HIS HI
  have z4 : (W.a.at_ == 4) = false := beq_eq_false_iff_ne.2 h4
  have z5 : (W.a.at_ == 5) = false := beq_eq_false_iff_ne.2 h5
  have z6 : (W.a.at_ == 6) = false := beq_eq_false_iff_ne.2 h6
  have HH := Lib.hid H
  have HP := Lib.hid P
  have hPt := P.ht
  have hPb := P.hb
  go_enter Tryz.func61, Tryz.ntmps61
  go_wp2_with fail
  refine wp_scope_via2s 5 4 rfl rfl ?_
  go_upto_region 1 with fail
  obtain ⟨own0, M0, R0⟩ := start1 g 36 resZ
  unfold resZ at M0 R0
  generalize (g.w.alloc (.cells #[.int .i64 0, .int .i64 0, .int .i64 0, .bool false, .complex .f64 0 0] 36)) = w0 at *
  have M0' := Lib.hid M0
  have R0' := Lib.hid R0
  clear M0 R0
  have H0 := Lib.hid (HH.out.keep0 M0'.out)
  have HK := Lib.hid (fun X => mem_read ((⟨own0, w0⟩ : GW).pt X) (B + 62) bm W.a.addr W.K.mem (H0.out.pt X).c.mem hmc)
  rw [hin, v] at HK
  simp only [if_true] at HK
  obtain ⟨a0, a1, a2, a3, a4, a5, a6, a7, a8, a9, a10, a11, a12, a13, a14, a15, a16, a17, a18, al⟩ := H0.out.a.blk.c19
  (try simp only [GW.to] at a0 a1 a2 a3 a4 a5 a6 a7 a8 a9 a10 a11 a12 a13 a14 a15 a16 a17 a18 al)
  obtain ⟨c0, c1, c2, c3, c4, c5, c6, c7, c8, c9, c10, c11, c12, cl⟩ := H0.out.c.blk.c13
  (try simp only [GW.to] at c0 c1 c2 c3 c4 c5 c6 c7 c8 c9 c10 c11 c12 cl)
  clear H hin hmc v hrf h4 h5 h6
  go_wp2_with fail
  refine wp_region_split_any [0] [false, true, true, true, true, true, true, true, true, true] 10 ?sp_o 8 ?sp1 ?sp2 ?spE ?sp3 ?sp4 ?sp5 ?sp6 ?sp7 ?sp8 ?sp9 ?sp10 ?sp11 ?sp12
  case sp10 => exact rfl
  case sp1 => kernel_rfl
  case sp2 => kernel_rfl
  case spE => kernel_rfl
  case sp3 => kernel_rfl
  case sp4 => (intro c a d v w h; cases d <;> exact h)
  case sp5 => decide
  case sp6 => decide
  case sp7 => decide
  case sp8 => kernel_rfl
  case sp9 => kernel_rfl
  case sp11 => exact rfl
  intro X00
  simp only [pickOps, movesAct, moveOf, List.getElem?_toArray, List.getElem?_cons_zero, List.getElem?_cons_succ]
  (try go_simp)
  repeat (go_big_quiet_step (fail))
  refine wpQuiet_nil (fun X0 K Q' hK => ?_)
  clear X00
  (try go_simp)
  refine (HK.out _).mono ?_
  rintro e w1 ⟨rfl, own1, m1, h1⟩
  have P1 := (Mod.pt (Mod.refl _ _) _).trans m1
  have M1 := Lib.hid ((M0'.out.mono (S := acT t B) (fun _ => False.elim)).trans (P1.mono (S := acT t B) (fun x hx => acT_mem hx)))
  have H1 := Lib.hid (H0.out.mem HP.out P1 h1)
  have R1 := Lib.hid (R0'.out.keep P1 (by omega))
  clear P1 m1 h1 HK H0 M0' R0'
  clear a0 a1 a2 a3 a4 a5 a6 a7 a8 a9 a10 a11 a12 a13 a14 a15 a16 a17 a18 al
  clear c0 c1 c2 c3 c4 c5 c6 c7 c8 c9 c10 c11 c12 cl
  obtain ⟨a0, a1, a2, a3, a4, a5, a6, a7, a8, a9, a10, a11, a12, a13, a14, a15, a16, a17, a18, al⟩ := H1.out.a.blk.c19
  have af15 := H1.out.a.blk.live 15
  (try simp only [GW.to] at a0 a1 a2 a3 a4 a5 a6 a7 a8 a9 a10 a11 a12 a13 a14 a15 a16 a17 a18 af15 al)
  (try go_simp)
  refine hK _ _ ?_
  clear hK K Q'
  refine wpAny_pure_step (v := .tuple #[.complex .f64 u1 u2, .int .i64 0]) 11 _ rfl ?sp2 ?sp3 ?sp4 ?sp5 rfl (fun w => rfl) ?_
  case sp2 => kernel_rfl
  case sp3 => kernel_rfl
  case sp4 => kernel_rfl
  case sp5 => (intro c a d v w h; cases d <;> exact h)
  (try go_simp)
  refine wpAny_pure_step (v := .complex .f64 u1 u2) 12 _ rfl ?sp2 ?sp3 ?sp4 ?sp5 rfl (fun w => rfl) ?_
  case sp2 => kernel_rfl
  case sp3 => kernel_rfl
  case sp4 => kernel_rfl
  case sp5 => (intro c a d v w h; cases d <;> exact h)
  (try go_simp)
  refine wpAny_pure_step (v := .int .i64 0) 13 _ rfl ?sp2 ?sp3 ?sp4 ?sp5 rfl (fun w => rfl) ?_
  case sp2 => kernel_rfl
  case sp3 => kernel_rfl
  case sp4 => kernel_rfl
  case sp5 => (intro c a d v w h; cases d <;> exact h)
  (try go_simp)
  refine wpAny_loud_step 14 _ (by kernel_rfl) rfl rfl (fun K Q' hK => ?_)
  (try go_simp)
  refine hK _ _ ?_
  clear hK K Q'
  refine wpAny_loud_step 15 _ (by kernel_rfl) rfl rfl (fun K Q' hK => ?_)
  (try go_simp)
  refine hK _ _ ?_
  clear hK K Q'
  refine wpAny_loud_step 16 _ (by kernel_rfl) rfl rfl (fun K Q' hK => ?_)
  (try go_simp)
  refine hK _ _ ?_
  clear hK K Q'
  refine wpAny_loud_step 17 _ (by kernel_rfl) rfl rfl (fun K Q' hK => ?_)
  (try go_simp)
  refine hK _ _ ?_
  clear hK K Q'
  refine wpAny_loud_step 18 _ (by kernel_rfl) rfl rfl (fun K Q' hK => ?_)
  (try go_simp)
  refine hK _ _ ?_
  clear hK K Q'
  refine wpAny_done (by kernel_rfl) ?_ _
  have H2 := Lib.hid (H1.out.set HP.out 15 (.complex .f64 u1 u2) { W.a with old := (u1, u2) } rfl ⟨rfl, rfl, rfl, rfl, rfl, rfl⟩)
  have m2 : Mod (fun x => x = t) (⟨own1, w1⟩ : GW) ⟨own1, w1.setCell ⟨b, 15, none⟩ (.complex .f64 u1 u2)⟩ := Mod.st (Mod.refl _ _) H1.out.a.blk.own
  have M2 := Lib.hid (M1.out.trans (m2.mono (S := acT t B) (fun x hx => acT_t hx)))
  have R2 := Lib.hid (R1.out.keep m2 (by omega))
  generalize w1.setCell ⟨b, 15, none⟩ (.complex .f64 u1 u2) = w2 at *
  clear m2 M1 H1 R1 af15
  clear a0 a1 a2 a3 a4 a5 a6 a7 a8 a9 a10 a11 a12 a13 a14 a15 a16 a17 a18 al
  generalize own1 = own2 at *
  obtain ⟨a0, a1, a2, a3, a4, a5, a6, a7, a8, a9, a10, a11, a12, a13, a14, a15, a16, a17, a18, al⟩ := H2.out.a.blk.c19
  (try simp only [GW.to] at a0 a1 a2 a3 a4 a5 a6 a7 a8 a9 a10 a11 a12 a13 a14 a15 a16 a17 a18 al)
  have a15' : w2.cell? ⟨b, 15, none⟩ = some (.complex .f64 u1 u2) := a15
  clear a15
  go_wp2_with fail
  refine (HIS.out _).mono ?_
  rintro e w3 ⟨rfl, hE⟩
  obtain ⟨own3, m3⟩ : ∃ ownZ, Mod (fun _ => False) (⟨own2, w2⟩ : GW) ⟨ownZ, w3⟩ := by
    obtain ⟨X2, rfl⟩ := hE
    exact ⟨((⟨own2, w2⟩ : GW).pt X2).own, (show Mod (fun _ => False) (⟨own2, w2⟩ : GW) ((⟨own2, w2⟩ : GW).pt X2) from Mod.pt (Mod.refl _ _) _)⟩
  have M3 := Lib.hid (M2.out.trans (m3.mono (S := acT t B) (fun _ => False.elim)))
  have H3 := Lib.hid (H2.out.keep0 m3)
  have R3 := Lib.hid (R2.out.keep m3 id)
  clear hE m3 M2 H2 R2
  clear a0 a1 a2 a3 a4 a5 a6 a7 a8 a9 a10 a11 a12 a13 a14 a15' a16 a17 a18 al HIS
  obtain ⟨a0, a1, a2, a3, a4, a5, a6, a7, a8, a9, a10, a11, a12, a13, a14, a15, a16, a17, a18, al⟩ := H3.out.a.blk.c19
  (try simp only [GW.to] at a0 a1 a2 a3 a4 a5 a6 a7 a8 a9 a10 a11 a12 a13 a14 a15 a16 a17 a18 al)
  have a15' : w3.cell? ⟨b, 15, none⟩ = some (.complex .f64 u1 u2) := a15
  clear a15
  go_wp2_with fail
  refine (HI.out _).mono ?_
  rintro e w4 ⟨rfl, hE⟩
  obtain ⟨own4, m4⟩ : ∃ ownZ, Mod (fun _ => False) (⟨own3, w3⟩ : GW) ⟨ownZ, w4⟩ := by
    obtain ⟨X2, rfl⟩ := hE
    exact ⟨((⟨own3, w3⟩ : GW).pt X2).own, (show Mod (fun _ => False) (⟨own3, w3⟩ : GW) ((⟨own3, w3⟩ : GW).pt X2) from Mod.pt (Mod.refl _ _) _)⟩
  have M4 := Lib.hid (M3.out.trans (m4.mono (S := acT t B) (fun _ => False.elim)))
  have H4 := Lib.hid (H3.out.keep0 m4)
  have R4 := Lib.hid (R3.out.keep m4 id)
  clear hE m4 M3 H3 R3
  clear a0 a1 a2 a3 a4 a5 a6 a7 a8 a9 a10 a11 a12 a13 a14 a15' a16 a17 a18 al HI
  cases hi : wIndex (u1, u2) with
  | none =>
    have HD2 := Lib.hid (show W.storesRead = ((W.memW W.K.mem.tick).withA { W.a with old := (u1, u2), at_ := W.a.behind }).no by rw [HD.out, hi]; rfl)
    clear hi HD
    unfold optV
    go_wp2_with fail
    go_step3
    refine via_here ?_
    go_wp2_with fail
    have HB := Lib.hid (show Calls Tryz.prog 111 #[.pointer (some ⟨b, 0, none⟩)] w4 (Gives (.int .i64 W.a.behind) w4) from (by have h := act_behind ⟨own4, w4⟩ t b _ p H4.out.a; exact h))
    generalize W.a.behind = bhd at *
    go_wp2_with fail
    refine HB.out.mono ?_
    rintro e w9 ⟨rfl, hE⟩
    obtain ⟨own9, m9⟩ : ∃ ownZ, Mod (fun _ => False) (⟨own4, w4⟩ : GW) ⟨ownZ, w9⟩ := by
      obtain ⟨X2, rfl⟩ := hE
      exact ⟨((⟨own4, w4⟩ : GW).pt X2).own, (show Mod (fun _ => False) (⟨own4, w4⟩ : GW) ((⟨own4, w4⟩ : GW).pt X2) from Mod.pt (Mod.refl _ _) _)⟩
    have M9 := Lib.hid (M4.out.trans (m9.mono (S := acT t B) (fun _ => False.elim)))
    have H9 := Lib.hid (H4.out.keep0 m9)
    have R9 := Lib.hid (R4.out.keep m9 id)
    clear hE m9 M4 H4 R4
    obtain ⟨a0, a1, a2, a3, a4, a5, a6, a7, a8, a9, a10, a11, a12, a13, a14, a15, a16, a17, a18, al⟩ := H9.out.a.blk.c19
    have af11 := H9.out.a.blk.live 11
    (try simp only [GW.to] at a0 a1 a2 a3 a4 a5 a6 a7 a8 a9 a10 a11 a12 a13 a14 a15 a16 a17 a18 af11 al)
    have H5 := Lib.hid (H9.out.set HP.out 11 (.int .i64 bhd) { W.a with old := (u1, u2), at_ := bhd } rfl ⟨rfl, rfl, rfl, rfl, rfl, rfl⟩)
    have m5 : Mod (fun x => x = t) (⟨own9, w9⟩ : GW) ⟨own9, w9.setCell ⟨b, 11, none⟩ (.int .i64 bhd)⟩ := Mod.st (Mod.refl _ _) H9.out.a.blk.own
    have M5 := Lib.hid (M9.out.trans (m5.mono (S := acT t B) (fun x hx => acT_t hx)))
    have R5 := Lib.hid (R9.out.keep m5 (by omega))
    clear m5
    go_wp2_with fail
    go_step3
    refine via_here ?_
    generalize w9.setCell ⟨b, 11, none⟩ (.int .i64 bhd) = w5 at *
    clear a0 a1 a2 a3 a4 a5 a6 a7 a8 a9 a10 a11 a12 a13 a14 a15 a16 a17 a18 al
    obtain ⟨r0, r1, r2, r3, r4, rl⟩ := R5.out.c5
    have rf0 := R5.out.live 0
    have rf1 := R5.out.live 1
    have rf2 := R5.out.live 2
    have rf3 := R5.out.live 3
    have rf4 := R5.out.live 4
    (try simp only [GW.to] at r0 r1 r2 r3 r4 rf0 rf1 rf2 rf3 rf4 rl)
    go_wp2_with fail
    rw [Exit.via_ret]
    obtain ⟨Mf, mf, Rf⟩ := put_res M5.out R5.out (Nat.le_refl _) (0) (0) (0) (false) (0) (0)
    generalize ((((((w5).setCell ⟨g.w.heap.size, 0, none⟩ (.int .i64 (0))).setCell ⟨g.w.heap.size, 1, none⟩ (.int .i64 (0))).setCell ⟨g.w.heap.size, 2, none⟩ (.int .i64 (0))).setCell ⟨g.w.heap.size, 3, none⟩ (.bool (false))).setCell ⟨g.w.heap.size, 4, none⟩ (.complex .f64 (0) (0))) = wf at *
    obtain ⟨f0, f1, f2, f3, f4, fl⟩ := Rf.c5
    (try simp only [GW.to] at f0 f1 f2 f3 f4 fl)
    refine bodyPost_ret (v := .tuple #[.agg #[.int .i64 (0), .int .i64 (0), .int .i64 (0), .bool (false), .complex .f64 (0) (0)], .bool false]) (by simp [results, Tryz.results61, go_sem, f0, f1, f2, f3, f4]) rfl ?_
    exact Does.of ⟨own9, wf⟩ rfl (by rw [HD2.out]; rfl) Mf (by rw [HD2.out]; exact (H5.out.keep mf (by omega) (fun x (hx : x = 9) => by omega) (fun x (hx : x = 9) => by omega)).at_)
  | some i =>
    have HD2 := Lib.hid (show W.storesRead = ((W.memW W.K.mem.tick).withA { W.a with old := (u1, u2), at_ := 4 }).no by rw [HD.out, hi]; rfl)
    clear hi HD
    unfold optV
    obtain ⟨a0, a1, a2, a3, a4, a5, a6, a7, a8, a9, a10, a11, a12, a13, a14, a15, a16, a17, a18, al⟩ := H4.out.a.blk.c19
    have af11 := H4.out.a.blk.live 11
    (try simp only [GW.to] at a0 a1 a2 a3 a4 a5 a6 a7 a8 a9 a10 a11 a12 a13 a14 a15 a16 a17 a18 af11 al)
    have H5 := Lib.hid (H4.out.set HP.out 11 (.int .i64 4) { W.a with old := (u1, u2), at_ := 4 } rfl ⟨rfl, rfl, rfl, rfl, rfl, rfl⟩)
    have m5 : Mod (fun x => x = t) (⟨own4, w4⟩ : GW) ⟨own4, w4.setCell ⟨b, 11, none⟩ (.int .i64 4)⟩ := Mod.st (Mod.refl _ _) H4.out.a.blk.own
    have M5 := Lib.hid (M4.out.trans (m5.mono (S := acT t B) (fun x hx => acT_t hx)))
    have R5 := Lib.hid (R4.out.keep m5 (by omega))
    clear m5
    go_wp2_with fail
    go_step3
    refine via_next (via_here ?_)
    generalize w4.setCell ⟨b, 11, none⟩ (.int .i64 4) = w5 at *
    clear a0 a1 a2 a3 a4 a5 a6 a7 a8 a9 a10 a11 a12 a13 a14 a15 a16 a17 a18 al
    obtain ⟨r0, r1, r2, r3, r4, rl⟩ := R5.out.c5
    have rf0 := R5.out.live 0
    have rf1 := R5.out.live 1
    have rf2 := R5.out.live 2
    have rf3 := R5.out.live 3
    have rf4 := R5.out.live 4
    (try simp only [GW.to] at r0 r1 r2 r3 r4 rf0 rf1 rf2 rf3 rf4 rl)
    go_wp2_with fail
    rw [Exit.via_ret]
    obtain ⟨Mf, mf, Rf⟩ := put_res M5.out R5.out (Nat.le_refl _) (0) (0) (0) (false) (0) (0)
    generalize ((((((w5).setCell ⟨g.w.heap.size, 0, none⟩ (.int .i64 (0))).setCell ⟨g.w.heap.size, 1, none⟩ (.int .i64 (0))).setCell ⟨g.w.heap.size, 2, none⟩ (.int .i64 (0))).setCell ⟨g.w.heap.size, 3, none⟩ (.bool (false))).setCell ⟨g.w.heap.size, 4, none⟩ (.complex .f64 (0) (0))) = wf at *
    obtain ⟨f0, f1, f2, f3, f4, fl⟩ := Rf.c5
    (try simp only [GW.to] at f0 f1 f2 f3 f4 fl)
    refine bodyPost_ret (v := .tuple #[.agg #[.int .i64 (0), .int .i64 (0), .int .i64 (0), .bool (false), .complex .f64 (0) (0)], .bool false]) (by simp [results, Tryz.results61, go_sem, f0, f1, f2, f3, f4]) rfl ?_
    exact Does.of ⟨own4, wf⟩ rfl (by rw [HD2.out]; rfl) Mf (by rw [HD2.out]; exact (H5.out.keep mf (by omega) (fun x (hx : x = 9) => by omega) (fun x (hx : x = 9) => by omega)).at_)
end
end Go.Proofs.YtoaehfdjffejeaaGreat

/-
  op.words, op.Check of small operations. (The walks are printed by a program.)
-/
namespace Go.Proofs.YtoaehfdjffejeaaGreat
open Go Go.RowKit
set_option linter.unusedVariables false
theorem ext_cell {a b : World} (h : Ext a b) {k o : Nat} (hk : k < a.heap.size) : b.cell? ⟨k, o, none⟩ = a.cell? ⟨k, o, none⟩ := by
  obtain ⟨X, rfl⟩ := h
  exact World.cell?_patch _ _ _ _ hk
theorem iter_size (w : World) s (p : Nat) : (w.iter s p).heap.size = w.heap.size + 1 := by
  unfold World.iter; simp

set_option maxRecDepth 100000 in
set_option maxHeartbeats 1000000 in
theorem words_1 (w : World) : Calls Tryz.prog 125 #[.int .i64 1] w (Gives (.tuple #[.string ⟨#[110, 101, 119]⟩, .string ⟨#[97, 107]⟩]) w) := by
  go_enter Tryz.func125, Tryz.ntmps125
  go_wp2
  go_quiet (fail)
  go_wp2
  go_ret2
  exact Gives.mk rfl (by (repeat (with_reducible (first | assumption | exact zR _ | exact zM _ _ _ _ | apply zA | apply zP | apply zD | apply zN | refine zS ?_ (by first | assumption | exact zL _ | exact zK _ _) _))))

set_option maxRecDepth 100000 in
set_option maxHeartbeats 1000000 in
theorem opCheck_1 (c : Cnf) (a b d n : Int) (x y : Nat) (w : World) (hc : c.Ok w) (h0 : c.check = 0) (ha : 0 ≤ a ∧ a < c.locals) (refs : List Bool) (hS : c.shapeAt b = some (false, refs)) (sz sp : Int) (hz : Shp.size ⟨false, none, 0, refs⟩ 0 = sz) (hp : Shp.spine ⟨false, none, 0, refs⟩ n = sp) (hz0 : 0 ≤ sz) (hz1 : sz ≤ c.frags) (hp1 : sp ≤ c.spine) :
    Calls Tryz.prog 89 #[c.val, .agg #[.int .i64 1, .int .i64 a, .int .i64 b, .int .i64 d, .int .i64 n, .complex .f64 x y]] w (Gives (.int .i64 0) w) := by
  have HC := Lib.hid (fun w' (he : Ext w w') => check_any c w' (hc.ext he))
  have H0 := Lib.hid h0
  have HS := Lib.hid (fun w' (he : Ext w w') => shape_any c b w' (hc.ext he))
  have HQ := Lib.hid hS
  have HZ := Lib.hid hz
  have HP := Lib.hid hp
  clear hS hz hp
  obtain ⟨ha0, ha1⟩ := ha
  clear h0 hc
  unfold Cnf.val at HC HS ⊢
  go_enter Tryz.func89, Tryz.ntmps89
  go_wp2_with fail
  refine (words_1 _).mono ?_
  rintro e w1 ⟨rfl, X1, rfl⟩
  go_wp2_with fail
  refine (HC.out _ (by (repeat (with_reducible (first | assumption | exact zR _ | exact zM _ _ _ _ | apply zA | apply zP | apply zD | apply zN | refine zS ?_ (by first | assumption | exact zL _ | exact zK _ _) _))))).mono ?_
  rw [H0.out]
  rintro e w1 ⟨rfl, X2, rfl⟩
  obtain ⟨w2, hW⟩ : ∃ w2, (((w.alloc (.cells #[.int .i64 c.frags, .int .i64 c.spine, .int .i64 c.globals, .int .i64 c.threads, .int .i64 c.locals, .int .i64 c.cache, .int .i64 c.stack, .int .i64 c.low, .slice c.A c.shapes.length c.cap] 46)).alloc (.cells #[.int .i64 1, .int .i64 a, .int .i64 b, .int .i64 d, .int .i64 n, .complex .f64 x y] 26)).patch X1).patch X2 = w2 := ⟨_, rfl⟩
  rw [hW]
  have g0 : w2.cell? ⟨w.heap.size, 0, none⟩ = some (.int .i64 c.frags) := by rw [← hW]; clear hW; go_simp
  have g1 : w2.cell? ⟨w.heap.size, 1, none⟩ = some (.int .i64 c.spine) := by rw [← hW]; clear hW; go_simp
  have g2 : w2.cell? ⟨w.heap.size, 2, none⟩ = some (.int .i64 c.globals) := by rw [← hW]; clear hW; go_simp
  have g3 : w2.cell? ⟨w.heap.size, 3, none⟩ = some (.int .i64 c.threads) := by rw [← hW]; clear hW; go_simp
  have g4 : w2.cell? ⟨w.heap.size, 4, none⟩ = some (.int .i64 c.locals) := by rw [← hW]; clear hW; go_simp
  have g5 : w2.cell? ⟨w.heap.size, 5, none⟩ = some (.int .i64 c.cache) := by rw [← hW]; clear hW; go_simp
  have g6 : w2.cell? ⟨w.heap.size, 6, none⟩ = some (.int .i64 c.stack) := by rw [← hW]; clear hW; go_simp
  have g7 : w2.cell? ⟨w.heap.size, 7, none⟩ = some (.int .i64 c.low) := by rw [← hW]; clear hW; go_simp
  have g8 : w2.cell? ⟨w.heap.size, 8, none⟩ = some (.slice c.A c.shapes.length c.cap) := by rw [← hW]; clear hW; go_simp
  have k0 : w2.cell? ⟨w.heap.size + 1, 0, none⟩ = some (.int .i64 1) := by rw [← hW]; clear hW; go_simp
  have k1 : w2.cell? ⟨w.heap.size + 1, 1, none⟩ = some (.int .i64 a) := by rw [← hW]; clear hW; go_simp
  have k2 : w2.cell? ⟨w.heap.size + 1, 2, none⟩ = some (.int .i64 b) := by rw [← hW]; clear hW; go_simp
  have k3 : w2.cell? ⟨w.heap.size + 1, 3, none⟩ = some (.int .i64 d) := by rw [← hW]; clear hW; go_simp
  have k4 : w2.cell? ⟨w.heap.size + 1, 4, none⟩ = some (.int .i64 n) := by rw [← hW]; clear hW; go_simp
  have k5 : w2.cell? ⟨w.heap.size + 1, 5, none⟩ = some (.complex .f64 x y) := by rw [← hW]; clear hW; go_simp
  have hs1 : w.heap.size + 1 < w2.heap.size := by rw [← hW]; clear hW; go_simp
  have hs0 : w.heap.size < w2.heap.size := by omega
  have HEw := Lib.hid (show Ext w w2 by rw [← hW]; clear hW; (repeat (with_reducible (first | assumption | exact zR _ | exact zM _ _ _ _ | apply zA | apply zP | apply zD | apply zN | refine zS ?_ (by first | assumption | exact zL _ | exact zK _ _) _))))
  clear hW
  have q0 : ∀ ty, (Instr.next (.pointer (some ⟨w2.heap.size, 0, none⟩)) true ty).run Tryz.prog (w2.iter ⟨#[97, 107]⟩ 0) = .ok (.tuple #[.bool true, .int .i64 0, .int .i32 97]) (w2.iter ⟨#[97, 107]⟩ 1) := fun ty => run_next_ascii (P := Tryz.prog) w2 ⟨#[97, 107]⟩ 0 ty (by decide) (by decide)
  have q1 : ∀ ty, (Instr.next (.pointer (some ⟨w2.heap.size, 0, none⟩)) true ty).run Tryz.prog (w2.iter ⟨#[97, 107]⟩ 1) = .ok (.tuple #[.bool true, .int .i64 1, .int .i32 107]) (w2.iter ⟨#[97, 107]⟩ 2) := fun ty => run_next_ascii (P := Tryz.prog) w2 ⟨#[97, 107]⟩ 1 ty (by decide) (by decide)
  have q2 := fun ty => run_next_end (P := Tryz.prog) w2 ⟨#[97, 107]⟩ 2 ty (by decide)
  have ig0 : ∀ pos, (w2.iter ⟨#[97, 107]⟩ pos).cell? ⟨w.heap.size, 0, none⟩ = some (.int .i64 c.frags) := fun pos => by unfold World.iter; exact (World.cell?_alloc_lt _ _ _ (show _ < w2.heap.size by first | exact hs1 | exact hs0)).trans g0
  have ig1 : ∀ pos, (w2.iter ⟨#[97, 107]⟩ pos).cell? ⟨w.heap.size, 1, none⟩ = some (.int .i64 c.spine) := fun pos => by unfold World.iter; exact (World.cell?_alloc_lt _ _ _ (show _ < w2.heap.size by first | exact hs1 | exact hs0)).trans g1
  have ig2 : ∀ pos, (w2.iter ⟨#[97, 107]⟩ pos).cell? ⟨w.heap.size, 2, none⟩ = some (.int .i64 c.globals) := fun pos => by unfold World.iter; exact (World.cell?_alloc_lt _ _ _ (show _ < w2.heap.size by first | exact hs1 | exact hs0)).trans g2
  have ig3 : ∀ pos, (w2.iter ⟨#[97, 107]⟩ pos).cell? ⟨w.heap.size, 3, none⟩ = some (.int .i64 c.threads) := fun pos => by unfold World.iter; exact (World.cell?_alloc_lt _ _ _ (show _ < w2.heap.size by first | exact hs1 | exact hs0)).trans g3
  have ig4 : ∀ pos, (w2.iter ⟨#[97, 107]⟩ pos).cell? ⟨w.heap.size, 4, none⟩ = some (.int .i64 c.locals) := fun pos => by unfold World.iter; exact (World.cell?_alloc_lt _ _ _ (show _ < w2.heap.size by first | exact hs1 | exact hs0)).trans g4
  have ig5 : ∀ pos, (w2.iter ⟨#[97, 107]⟩ pos).cell? ⟨w.heap.size, 5, none⟩ = some (.int .i64 c.cache) := fun pos => by unfold World.iter; exact (World.cell?_alloc_lt _ _ _ (show _ < w2.heap.size by first | exact hs1 | exact hs0)).trans g5
  have ig6 : ∀ pos, (w2.iter ⟨#[97, 107]⟩ pos).cell? ⟨w.heap.size, 6, none⟩ = some (.int .i64 c.stack) := fun pos => by unfold World.iter; exact (World.cell?_alloc_lt _ _ _ (show _ < w2.heap.size by first | exact hs1 | exact hs0)).trans g6
  have ig7 : ∀ pos, (w2.iter ⟨#[97, 107]⟩ pos).cell? ⟨w.heap.size, 7, none⟩ = some (.int .i64 c.low) := fun pos => by unfold World.iter; exact (World.cell?_alloc_lt _ _ _ (show _ < w2.heap.size by first | exact hs1 | exact hs0)).trans g7
  have ig8 : ∀ pos, (w2.iter ⟨#[97, 107]⟩ pos).cell? ⟨w.heap.size, 8, none⟩ = some (.slice c.A c.shapes.length c.cap) := fun pos => by unfold World.iter; exact (World.cell?_alloc_lt _ _ _ (show _ < w2.heap.size by first | exact hs1 | exact hs0)).trans g8
  have ik0 : ∀ pos, (w2.iter ⟨#[97, 107]⟩ pos).cell? ⟨w.heap.size + 1, 0, none⟩ = some (.int .i64 1) := fun pos => by unfold World.iter; exact (World.cell?_alloc_lt _ _ _ (show _ < w2.heap.size by first | exact hs1 | exact hs0)).trans k0
  have ik1 : ∀ pos, (w2.iter ⟨#[97, 107]⟩ pos).cell? ⟨w.heap.size + 1, 1, none⟩ = some (.int .i64 a) := fun pos => by unfold World.iter; exact (World.cell?_alloc_lt _ _ _ (show _ < w2.heap.size by first | exact hs1 | exact hs0)).trans k1
  have ik2 : ∀ pos, (w2.iter ⟨#[97, 107]⟩ pos).cell? ⟨w.heap.size + 1, 2, none⟩ = some (.int .i64 b) := fun pos => by unfold World.iter; exact (World.cell?_alloc_lt _ _ _ (show _ < w2.heap.size by first | exact hs1 | exact hs0)).trans k2
  have ik3 : ∀ pos, (w2.iter ⟨#[97, 107]⟩ pos).cell? ⟨w.heap.size + 1, 3, none⟩ = some (.int .i64 d) := fun pos => by unfold World.iter; exact (World.cell?_alloc_lt _ _ _ (show _ < w2.heap.size by first | exact hs1 | exact hs0)).trans k3
  have ik4 : ∀ pos, (w2.iter ⟨#[97, 107]⟩ pos).cell? ⟨w.heap.size + 1, 4, none⟩ = some (.int .i64 n) := fun pos => by unfold World.iter; exact (World.cell?_alloc_lt _ _ _ (show _ < w2.heap.size by first | exact hs1 | exact hs0)).trans k4
  have ik5 : ∀ pos, (w2.iter ⟨#[97, 107]⟩ pos).cell? ⟨w.heap.size + 1, 5, none⟩ = some (.complex .f64 x y) := fun pos => by unfold World.iter; exact (World.cell?_alloc_lt _ _ _ (show _ < w2.heap.size by first | exact hs1 | exact hs0)).trans k5
  go_wp2_with fail
  refine wp_loop_rounds 3 ?_
  rw [rounds_succ]
  go_wp2
  rw [rounds_succ]
  go_wp2
  rw [rounds_succ]
  go_wp2_with fail
  refine (HS.out _ (by unfold World.iter; exact HEw.out.alloc _)).mono ?_
  rintro e w4 ⟨s', rfl, heq, hfr, hok, hE⟩
  have HE4 := Lib.hid hE
  rw [HQ.out, Option.getD_some] at heq
  obtain ⟨arr', A', cap', refs'⟩ := s'
  simp only [Prod.mk.injEq] at heq
  obtain ⟨rfl, rfl⟩ := heq
  have mg0 : w4.cell? ⟨w.heap.size, 0, none⟩ = some (.int .i64 c.frags) := (ext_cell HE4.out (by rw [iter_size]; omega)).trans (ig0 _)
  have mg1 : w4.cell? ⟨w.heap.size, 1, none⟩ = some (.int .i64 c.spine) := (ext_cell HE4.out (by rw [iter_size]; omega)).trans (ig1 _)
  have mk0 : w4.cell? ⟨w.heap.size + 1, 0, none⟩ = some (.int .i64 1) := (ext_cell HE4.out (by rw [iter_size]; omega)).trans (ik0 _)
  have mk1 : w4.cell? ⟨w.heap.size + 1, 1, none⟩ = some (.int .i64 a) := (ext_cell HE4.out (by rw [iter_size]; omega)).trans (ik1 _)
  have mk2 : w4.cell? ⟨w.heap.size + 1, 2, none⟩ = some (.int .i64 b) := (ext_cell HE4.out (by rw [iter_size]; omega)).trans (ik2 _)
  have mk3 : w4.cell? ⟨w.heap.size + 1, 3, none⟩ = some (.int .i64 d) := (ext_cell HE4.out (by rw [iter_size]; omega)).trans (ik3 _)
  have mk4 : w4.cell? ⟨w.heap.size + 1, 4, none⟩ = some (.int .i64 n) := (ext_cell HE4.out (by rw [iter_size]; omega)).trans (ik4 _)
  have mk5 : w4.cell? ⟨w.heap.size + 1, 5, none⟩ = some (.complex .f64 x y) := (ext_cell HE4.out (by rw [iter_size]; omega)).trans (ik5 _)
  have hm1 : w.heap.size + 1 < w4.heap.size := Nat.lt_of_lt_of_le (by rw [iter_size]; omega) HE4.out.size
  have hm0 : w.heap.size < w4.heap.size := by omega
  have HEE4 := Lib.hid (show Ext w w4 from (show Ext w _ by unfold World.iter; exact HEw.out.alloc _).trans HE4.out)
  clear hE hfr
  have HF1 := Lib.hid (fun w' (he : Ext w4 w') => opSize_1 _ a b d n x y w' (hok.ext he))
  have HF2 := Lib.hid (fun w' (he : Ext w4 w') => sspine_any _ n w' (hok.ext he))
  clear hok
  rw [show Shp.size ⟨false, A', cap', refs'⟩ 0 = sz from HZ.out] at HF1
  rw [show Shp.spine ⟨false, A', cap', refs'⟩ n = sp from HP.out] at HF2
  rw [HQ.out]
  unfold Shp.val at HF1 HF2 ⊢
  have hd1 : decide (c.frags < sz) = false := decide_eq_false (by omega)
  have hd2 : decide (c.spine < sp) = false := decide_eq_false (by omega)
  have hd3 : decide (sz < 0) = false := decide_eq_false (by omega)
  go_wp2_with (go_at_call 128; refine (HF1.out _ (by (repeat (with_reducible (first | assumption | exact zR _ | exact zM _ _ _ _ | apply zA | apply zP | apply zD | apply zN | refine zS ?_ (by first | assumption | exact zL _ | exact zK _ _) _))))).mono ?_; rintro e w5 ⟨rfl, X5, rfl⟩)
  obtain ⟨w6, hW6⟩ : ∃ w6, ((w4.alloc (.cells #[.bool false, .slice A' refs'.length cap'] 73)).patch X5) = w6 := ⟨_, rfl⟩
  rw [hW6]
  have HE6 := Lib.hid (show Ext w4 w6 by rw [← hW6]; clear hW6; (repeat (with_reducible (first | assumption | exact zR _ | exact zM _ _ _ _ | apply zA | apply zP | apply zD | apply zN | refine zS ?_ (by first | assumption | exact zL _ | exact zK _ _) _))))
  have ng0 : w6.cell? ⟨w.heap.size, 0, none⟩ = some (.int .i64 c.frags) := (ext_cell HE6.out (by first | exact hm0 | exact hm1)).trans mg0
  have ng1 : w6.cell? ⟨w.heap.size, 1, none⟩ = some (.int .i64 c.spine) := (ext_cell HE6.out (by first | exact hm0 | exact hm1)).trans mg1
  have nk0 : w6.cell? ⟨w.heap.size + 1, 0, none⟩ = some (.int .i64 1) := (ext_cell HE6.out (by first | exact hm0 | exact hm1)).trans mk0
  have nk1 : w6.cell? ⟨w.heap.size + 1, 1, none⟩ = some (.int .i64 a) := (ext_cell HE6.out (by first | exact hm0 | exact hm1)).trans mk1
  have nk2 : w6.cell? ⟨w.heap.size + 1, 2, none⟩ = some (.int .i64 b) := (ext_cell HE6.out (by first | exact hm0 | exact hm1)).trans mk2
  have nk3 : w6.cell? ⟨w.heap.size + 1, 3, none⟩ = some (.int .i64 d) := (ext_cell HE6.out (by first | exact hm0 | exact hm1)).trans mk3
  have nk4 : w6.cell? ⟨w.heap.size + 1, 4, none⟩ = some (.int .i64 n) := (ext_cell HE6.out (by first | exact hm0 | exact hm1)).trans mk4
  have nk5 : w6.cell? ⟨w.heap.size + 1, 5, none⟩ = some (.complex .f64 x y) := (ext_cell HE6.out (by first | exact hm0 | exact hm1)).trans mk5
  have ns0 : w6.cell? ⟨w4.heap.size, 0, none⟩ = some (.bool false) := by rw [← hW6]; clear hW6; go_simp
  have ns1 : w6.cell? ⟨w4.heap.size, 1, none⟩ = some (.slice A' refs'.length cap') := by rw [← hW6]; clear hW6; go_simp
  have hn2 : w4.heap.size < w6.heap.size := by rw [← hW6]; clear hW6; go_simp
  have hn1 : w.heap.size + 1 < w6.heap.size := by omega
  have hn0 : w.heap.size < w6.heap.size := by omega
  have HEE := Lib.hid (show Ext w w6 from HEE4.out.trans HE6.out)
  clear hW6
  refine wp_region_mixed [true, true, true, true, true, true, true, true, true, true, true, true, true, true, true, true] 0 16 (by kernel_rfl) (by kernel_rfl) (by kernel_rfl) ?_ (by decide) (by decide) (by decide) (by kernel_rfl) ?_
  · intro c a d v w h; cases d <;> exact h
  intro X00
  simp only [pickOps]
  repeat (go_big_quiet_step (first | (go_at_call 128; exact Calls.added (HF1.out _ (HE6.out.patch _))) | (go_at_call 129; exact Calls.added (HF2.out _ (HE6.out.patch _)))))
  refine wpQuiet_nil (fun X0 => ?_)
  clear X00
  refine wpAnyM_done (by kernel_rfl) (fun X0' => ?_) _
  go_wp2_with fail
  go_ret
  exact Gives.mk rfl (HEE.out.trans (by (repeat (with_reducible (first | assumption | exact zR _ | exact zM _ _ _ _ | apply zA | apply zP | apply zD | apply zN | refine zS ?_ (by first | assumption | exact zL _ | exact zK _ _) _)))))

set_option maxRecDepth 100000 in
set_option maxHeartbeats 1000000 in
theorem words_3 (w : World) : Calls Tryz.prog 125 #[.int .i64 3] w (Gives (.tuple #[.string ⟨#[108, 111, 97, 100]⟩, .string ⟨#[97, 98, 110]⟩]) w) := by
  go_enter Tryz.func125, Tryz.ntmps125
  go_wp2
  go_quiet (fail)
  go_wp2
  go_ret2
  exact Gives.mk rfl (by (repeat (with_reducible (first | assumption | exact zR _ | exact zM _ _ _ _ | apply zA | apply zP | apply zD | apply zN | refine zS ?_ (by first | assumption | exact zL _ | exact zK _ _) _))))

set_option maxRecDepth 100000 in
set_option maxHeartbeats 1000000 in
theorem opCheck_3 (c : Cnf) (a b d n : Int) (x y : Nat) (w : World) (hc : c.Ok w) (h0 : c.check = 0) (ha : 0 ≤ a ∧ a < c.locals) (hb : 0 ≤ b ∧ b < c.locals) :
    Calls Tryz.prog 89 #[c.val, .agg #[.int .i64 3, .int .i64 a, .int .i64 b, .int .i64 d, .int .i64 n, .complex .f64 x y]] w (Gives (.int .i64 0) w) := by
  have HC := Lib.hid (fun w' (he : Ext w w') => check_any c w' (hc.ext he))
  have H0 := Lib.hid h0
  obtain ⟨ha0, ha1⟩ := ha
  obtain ⟨hb0, hb1⟩ := hb
  clear h0 hc
  unfold Cnf.val at HC ⊢
  go_enter Tryz.func89, Tryz.ntmps89
  go_wp2_with fail
  refine (words_3 _).mono ?_
  rintro e w1 ⟨rfl, X1, rfl⟩
  go_wp2_with fail
  refine (HC.out _ (by (repeat (with_reducible (first | assumption | exact zR _ | exact zM _ _ _ _ | apply zA | apply zP | apply zD | apply zN | refine zS ?_ (by first | assumption | exact zL _ | exact zK _ _) _))))).mono ?_
  rw [H0.out]
  rintro e w1 ⟨rfl, X2, rfl⟩
  obtain ⟨w2, hW⟩ : ∃ w2, (((w.alloc (.cells #[.int .i64 c.frags, .int .i64 c.spine, .int .i64 c.globals, .int .i64 c.threads, .int .i64 c.locals, .int .i64 c.cache, .int .i64 c.stack, .int .i64 c.low, .slice c.A c.shapes.length c.cap] 46)).alloc (.cells #[.int .i64 3, .int .i64 a, .int .i64 b, .int .i64 d, .int .i64 n, .complex .f64 x y] 26)).patch X1).patch X2 = w2 := ⟨_, rfl⟩
  rw [hW]
  have g2 : w2.cell? ⟨w.heap.size, 2, none⟩ = some (.int .i64 c.globals) := by rw [← hW]; clear hW; go_simp
  have g4 : w2.cell? ⟨w.heap.size, 4, none⟩ = some (.int .i64 c.locals) := by rw [← hW]; clear hW; go_simp
  have k0 : w2.cell? ⟨w.heap.size + 1, 0, none⟩ = some (.int .i64 3) := by rw [← hW]; clear hW; go_simp
  have k1 : w2.cell? ⟨w.heap.size + 1, 1, none⟩ = some (.int .i64 a) := by rw [← hW]; clear hW; go_simp
  have k2 : w2.cell? ⟨w.heap.size + 1, 2, none⟩ = some (.int .i64 b) := by rw [← hW]; clear hW; go_simp
  have k3 : w2.cell? ⟨w.heap.size + 1, 3, none⟩ = some (.int .i64 d) := by rw [← hW]; clear hW; go_simp
  have k4 : w2.cell? ⟨w.heap.size + 1, 4, none⟩ = some (.int .i64 n) := by rw [← hW]; clear hW; go_simp
  have hs1 : w.heap.size + 1 < w2.heap.size := by rw [← hW]; clear hW; go_simp
  have hs0 : w.heap.size < w2.heap.size := by omega
  have HEw := Lib.hid (show Ext w w2 by rw [← hW]; clear hW; (repeat (with_reducible (first | assumption | exact zR _ | exact zM _ _ _ _ | apply zA | apply zP | apply zD | apply zN | refine zS ?_ (by first | assumption | exact zL _ | exact zK _ _) _))))
  clear hW
  have q0 : ∀ ty, (Instr.next (.pointer (some ⟨w2.heap.size, 0, none⟩)) true ty).run Tryz.prog (w2.iter ⟨#[97, 98, 110]⟩ 0) = .ok (.tuple #[.bool true, .int .i64 0, .int .i32 97]) (w2.iter ⟨#[97, 98, 110]⟩ 1) := fun ty => run_next_ascii (P := Tryz.prog) w2 ⟨#[97, 98, 110]⟩ 0 ty (by decide) (by decide)
  have q1 : ∀ ty, (Instr.next (.pointer (some ⟨w2.heap.size, 0, none⟩)) true ty).run Tryz.prog (w2.iter ⟨#[97, 98, 110]⟩ 1) = .ok (.tuple #[.bool true, .int .i64 1, .int .i32 98]) (w2.iter ⟨#[97, 98, 110]⟩ 2) := fun ty => run_next_ascii (P := Tryz.prog) w2 ⟨#[97, 98, 110]⟩ 1 ty (by decide) (by decide)
  have q2 : ∀ ty, (Instr.next (.pointer (some ⟨w2.heap.size, 0, none⟩)) true ty).run Tryz.prog (w2.iter ⟨#[97, 98, 110]⟩ 2) = .ok (.tuple #[.bool true, .int .i64 2, .int .i32 110]) (w2.iter ⟨#[97, 98, 110]⟩ 3) := fun ty => run_next_ascii (P := Tryz.prog) w2 ⟨#[97, 98, 110]⟩ 2 ty (by decide) (by decide)
  have q3 := fun ty => run_next_end (P := Tryz.prog) w2 ⟨#[97, 98, 110]⟩ 3 ty (by decide)
  have ik1 : ∀ pos, (w2.iter ⟨#[97, 98, 110]⟩ pos).cell? ⟨w.heap.size + 1, 1, none⟩ = some (.int .i64 a) := fun pos => by unfold World.iter; exact (World.cell?_alloc_lt _ _ _ (show _ < w2.heap.size by first | exact hs1 | exact hs0)).trans k1
  have ik2 : ∀ pos, (w2.iter ⟨#[97, 98, 110]⟩ pos).cell? ⟨w.heap.size + 1, 2, none⟩ = some (.int .i64 b) := fun pos => by unfold World.iter; exact (World.cell?_alloc_lt _ _ _ (show _ < w2.heap.size by first | exact hs1 | exact hs0)).trans k2
  have ik0 : ∀ pos, (w2.iter ⟨#[97, 98, 110]⟩ pos).cell? ⟨w.heap.size + 1, 0, none⟩ = some (.int .i64 3) := fun pos => by unfold World.iter; exact (World.cell?_alloc_lt _ _ _ (show _ < w2.heap.size by first | exact hs1 | exact hs0)).trans k0
  have ig4 : ∀ pos, (w2.iter ⟨#[97, 98, 110]⟩ pos).cell? ⟨w.heap.size, 4, none⟩ = some (.int .i64 c.locals) := fun pos => by unfold World.iter; exact (World.cell?_alloc_lt _ _ _ (show _ < w2.heap.size by first | exact hs1 | exact hs0)).trans g4
  go_wp2_with fail
  refine wp_loop_rounds 4 ?_
  rw [rounds_succ]
  go_wp2
  rw [rounds_succ]
  go_wp2
  rw [rounds_succ]
  go_wp2
  rw [rounds_succ]
  go_wp2
  go_ret
  exact Gives.mk rfl (by unfold World.iter; exact HEw.out.alloc _)

set_option maxRecDepth 100000 in
set_option maxHeartbeats 1000000 in
theorem words_4 (w : World) : Calls Tryz.prog 125 #[.int .i64 4] w (Gives (.tuple #[.string ⟨#[115, 116, 111, 114, 101]⟩, .string ⟨#[97, 110, 98]⟩]) w) := by
  go_enter Tryz.func125, Tryz.ntmps125
  go_wp2
  go_quiet (fail)
  go_wp2
  go_ret2
  exact Gives.mk rfl (by (repeat (with_reducible (first | assumption | exact zR _ | exact zM _ _ _ _ | apply zA | apply zP | apply zD | apply zN | refine zS ?_ (by first | assumption | exact zL _ | exact zK _ _) _))))

set_option maxRecDepth 100000 in
set_option maxHeartbeats 1000000 in
theorem opCheck_4 (c : Cnf) (a b d n : Int) (x y : Nat) (w : World) (hc : c.Ok w) (h0 : c.check = 0) (ha : 0 ≤ a ∧ a < c.locals) (hb : 0 ≤ b ∧ b < c.locals) :
    Calls Tryz.prog 89 #[c.val, .agg #[.int .i64 4, .int .i64 a, .int .i64 b, .int .i64 d, .int .i64 n, .complex .f64 x y]] w (Gives (.int .i64 0) w) := by
  have HC := Lib.hid (fun w' (he : Ext w w') => check_any c w' (hc.ext he))
  have H0 := Lib.hid h0
  obtain ⟨ha0, ha1⟩ := ha
  obtain ⟨hb0, hb1⟩ := hb
  clear h0 hc
  unfold Cnf.val at HC ⊢
  go_enter Tryz.func89, Tryz.ntmps89
  go_wp2_with fail
  refine (words_4 _).mono ?_
  rintro e w1 ⟨rfl, X1, rfl⟩
  go_wp2_with fail
  refine (HC.out _ (by (repeat (with_reducible (first | assumption | exact zR _ | exact zM _ _ _ _ | apply zA | apply zP | apply zD | apply zN | refine zS ?_ (by first | assumption | exact zL _ | exact zK _ _) _))))).mono ?_
  rw [H0.out]
  rintro e w1 ⟨rfl, X2, rfl⟩
  obtain ⟨w2, hW⟩ : ∃ w2, (((w.alloc (.cells #[.int .i64 c.frags, .int .i64 c.spine, .int .i64 c.globals, .int .i64 c.threads, .int .i64 c.locals, .int .i64 c.cache, .int .i64 c.stack, .int .i64 c.low, .slice c.A c.shapes.length c.cap] 46)).alloc (.cells #[.int .i64 4, .int .i64 a, .int .i64 b, .int .i64 d, .int .i64 n, .complex .f64 x y] 26)).patch X1).patch X2 = w2 := ⟨_, rfl⟩
  rw [hW]
  have g2 : w2.cell? ⟨w.heap.size, 2, none⟩ = some (.int .i64 c.globals) := by rw [← hW]; clear hW; go_simp
  have g4 : w2.cell? ⟨w.heap.size, 4, none⟩ = some (.int .i64 c.locals) := by rw [← hW]; clear hW; go_simp
  have k0 : w2.cell? ⟨w.heap.size + 1, 0, none⟩ = some (.int .i64 4) := by rw [← hW]; clear hW; go_simp
  have k1 : w2.cell? ⟨w.heap.size + 1, 1, none⟩ = some (.int .i64 a) := by rw [← hW]; clear hW; go_simp
  have k2 : w2.cell? ⟨w.heap.size + 1, 2, none⟩ = some (.int .i64 b) := by rw [← hW]; clear hW; go_simp
  have k3 : w2.cell? ⟨w.heap.size + 1, 3, none⟩ = some (.int .i64 d) := by rw [← hW]; clear hW; go_simp
  have k4 : w2.cell? ⟨w.heap.size + 1, 4, none⟩ = some (.int .i64 n) := by rw [← hW]; clear hW; go_simp
  have hs1 : w.heap.size + 1 < w2.heap.size := by rw [← hW]; clear hW; go_simp
  have hs0 : w.heap.size < w2.heap.size := by omega
  have HEw := Lib.hid (show Ext w w2 by rw [← hW]; clear hW; (repeat (with_reducible (first | assumption | exact zR _ | exact zM _ _ _ _ | apply zA | apply zP | apply zD | apply zN | refine zS ?_ (by first | assumption | exact zL _ | exact zK _ _) _))))
  clear hW
  have q0 : ∀ ty, (Instr.next (.pointer (some ⟨w2.heap.size, 0, none⟩)) true ty).run Tryz.prog (w2.iter ⟨#[97, 110, 98]⟩ 0) = .ok (.tuple #[.bool true, .int .i64 0, .int .i32 97]) (w2.iter ⟨#[97, 110, 98]⟩ 1) := fun ty => run_next_ascii (P := Tryz.prog) w2 ⟨#[97, 110, 98]⟩ 0 ty (by decide) (by decide)
  have q1 : ∀ ty, (Instr.next (.pointer (some ⟨w2.heap.size, 0, none⟩)) true ty).run Tryz.prog (w2.iter ⟨#[97, 110, 98]⟩ 1) = .ok (.tuple #[.bool true, .int .i64 1, .int .i32 110]) (w2.iter ⟨#[97, 110, 98]⟩ 2) := fun ty => run_next_ascii (P := Tryz.prog) w2 ⟨#[97, 110, 98]⟩ 1 ty (by decide) (by decide)
  have q2 : ∀ ty, (Instr.next (.pointer (some ⟨w2.heap.size, 0, none⟩)) true ty).run Tryz.prog (w2.iter ⟨#[97, 110, 98]⟩ 2) = .ok (.tuple #[.bool true, .int .i64 2, .int .i32 98]) (w2.iter ⟨#[97, 110, 98]⟩ 3) := fun ty => run_next_ascii (P := Tryz.prog) w2 ⟨#[97, 110, 98]⟩ 2 ty (by decide) (by decide)
  have q3 := fun ty => run_next_end (P := Tryz.prog) w2 ⟨#[97, 110, 98]⟩ 3 ty (by decide)
  have ik1 : ∀ pos, (w2.iter ⟨#[97, 110, 98]⟩ pos).cell? ⟨w.heap.size + 1, 1, none⟩ = some (.int .i64 a) := fun pos => by unfold World.iter; exact (World.cell?_alloc_lt _ _ _ (show _ < w2.heap.size by first | exact hs1 | exact hs0)).trans k1
  have ik2 : ∀ pos, (w2.iter ⟨#[97, 110, 98]⟩ pos).cell? ⟨w.heap.size + 1, 2, none⟩ = some (.int .i64 b) := fun pos => by unfold World.iter; exact (World.cell?_alloc_lt _ _ _ (show _ < w2.heap.size by first | exact hs1 | exact hs0)).trans k2
  have ik0 : ∀ pos, (w2.iter ⟨#[97, 110, 98]⟩ pos).cell? ⟨w.heap.size + 1, 0, none⟩ = some (.int .i64 4) := fun pos => by unfold World.iter; exact (World.cell?_alloc_lt _ _ _ (show _ < w2.heap.size by first | exact hs1 | exact hs0)).trans k0
  have ig4 : ∀ pos, (w2.iter ⟨#[97, 110, 98]⟩ pos).cell? ⟨w.heap.size, 4, none⟩ = some (.int .i64 c.locals) := fun pos => by unfold World.iter; exact (World.cell?_alloc_lt _ _ _ (show _ < w2.heap.size by first | exact hs1 | exact hs0)).trans g4
  go_wp2_with fail
  refine wp_loop_rounds 4 ?_
  rw [rounds_succ]
  go_wp2
  rw [rounds_succ]
  go_wp2
  rw [rounds_succ]
  go_wp2
  rw [rounds_succ]
  go_wp2
  go_ret
  exact Gives.mk rfl (by unfold World.iter; exact HEw.out.alloc _)

end Go.Proofs.YtoaehfdjffejeaaGreat

