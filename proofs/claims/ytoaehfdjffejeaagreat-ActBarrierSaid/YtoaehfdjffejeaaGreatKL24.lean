import Derived.Test.YtoaehfdjffejeaaGreatKL23
/-
  Packed: ActM, ActN.
-/
open Go.Ext renaming alloc → zA, patch → zP, drew → zD, drewN → zN, more → zM, refl → zR, setCell → zS
open Nat renaming le_refl → zL, le_add_right → zK
/-
  act: program; starts.
-/
namespace Go.Proofs.YtoaehfdjffejeaaGreat
open Go Go.RowKit
set_option linter.unusedVariables false
set_option linter.unnecessarySimpa false
set_option linter.unusedSimpArgs false
set_option maxHeartbeats 2000000
set_option maxRecDepth 100000

section
variable {g : GW} {t b B k : Nat} {W : AcW} {p : AcP} {bm bs bt bp bsp bh : Nat} {cm : Cnf}
theorem act_program_4 [TbId] (P : AcApart t B) (H : AcIn g t B b k W p bm bs bt bp bsp bh cm) (hck : W.K.c.check = 0) (oa ob oc on : Int) (x y : Nat) (hoa : 0 ≤ oa ∧ oa < W.a.locals.length) :
    Calls Tryz.prog 94 #[.pointer (some ⟨k, 0, none⟩), .agg #[.int .i64 4, .int .i64 oa, .int .i64 ob, .int .i64 oc, .int .i64 on, .complex .f64 x y], .func (.func 95) #[.pointer (some ⟨b, 0, none⟩)] #[]] g.w (FindMade cm (W.a.head oa) on false (W.a.head oa) (t + 2) g) := by
  have HH := Lib.hid H
  obtain ⟨own0, M0, Q0⟩ := start1 g 26 [.int .i64 4, .int .i64 oa, .int .i64 ob, .int .i64 oc, .int .i64 on, .complex .f64 x y]
  go_enter Tryz.func94, Tryz.ntmps94
  go_upto_region 1 with fail
  generalize g.w.alloc (.cells #[.int .i64 4, .int .i64 oa, .int .i64 ob, .int .i64 oc, .int .i64 on, .complex .f64 x y] 26) = w0 at *
  have H0 := Lib.hid (HH.out.keep0 M0)
  have M0' := Lib.hid M0
  obtain ⟨x0, x1, x2, x3, x4, x5, xl⟩ := Q0.c6
  (try simp only [GW.to] at x0 x1 x2 x3 x4 x5 xl)
  obtain ⟨c0, c1, c2, c3, c4, c5, c6, c7, c8, c9, c10, c11, c12, cl⟩ := H0.out.c.blk.c13
  (try simp only [GW.to] at c0 c1 c2 c3 c4 c5 c6 c7 c8 c9 c10 c11 c12 cl)
  clear M0 Q0 H
  have HHD := Lib.hid (fun X => act_head ((⟨own0, w0⟩ : GW).pt X) t b W.a p oa (H0.out.pt X).a hoa)
  generalize W.a.head oa = hd at *
  have hckm : cm.check = 0 := by rw [H0.out.c.same.check]; exact hck
  have HFD := Lib.hid (fun X => find_field cm hd on (t + 2) ((⟨own0, w0⟩ : GW).pt X) (H0.out.pt X).c.cnf.ok (by
    have h9 := (Cnf.check_zero hckm).2.2.1
    unfold within at h9
    simp only [decide_eq_true_eq] at h9
    omega))
  unfold Cnf.val at HFD
  go_wp2_with fail
  refine wp_region_mixed [true, true, true, true, true, true, true, true, true, true, false, false] 2 10 (by kernel_rfl) (by kernel_rfl) (by kernel_rfl) ?_ (by decide) (by decide) (by decide) (by kernel_rfl) ?_
  · intro c a d v w h; cases d <;> exact h
  intro X00
  simp only [pickOps]
  repeat (go_big_quiet_step (exact Calls.added (HHD.out _)))
  refine wpQuiet_nil (fun X0 => ?_)
  clear X00
  refine wpAnyM_tailL rfl (by kernel_rfl) (fun X2 => ?_)
  simp only [List.drop_succ_cons, List.drop_zero]
  go_wp2_with fail
  refine (HFD.out _).mono ?_
  rintro e w2 ⟨own2, bf, cf, rfl, m2, h2, hs⟩
  have M2 := Lib.hid (M0'.out.trans ((Mod.pt (Mod.refl _ _) _).trans m2))
  have H2 := Lib.hid h2
  have HS := Lib.hid hs
  clear m2 h2 hs HFD
  go_wp2_with fail
  go_ret
  exact ⟨own2, bf, cf, rfl, M2.out, H2.out, HS.out⟩

theorem act_starts_12 [TbId] (P : AcApart t B) (hnx : 0 ≤ W.a.next ∧ W.a.next ≤ 1099511627776) (H : AcIn g t B b k W p bm bs bt bp bsp bh cm) (hck : W.K.c.check = 0) (oa ob oc on : Int) (x y : Nat) (ho : opOk W.K.c ⟨12, oa, ob, oc, on, x, y⟩ = true) (hoa : 0 ≤ oa ∧ oa < W.a.locals.length) :
    Calls Tryz.prog 54 #[.pointer (some ⟨b, 0, none⟩), .pointer (some ⟨k, 0, none⟩), .agg #[.int .i64 12, .int .i64 oa, .int .i64 ob, .int .i64 oc, .int .i64 on, .complex .f64 x y]] g.w (Does (resV (W.laysR oa ⟨false, (x, y)⟩).1) g (acT t B) (fun g' => AcWAt g' t B b k (W.laysR oa ⟨false, (x, y)⟩).2)) := by
  have HH := Lib.hid H
  have HP := Lib.hid P
  have hPt := P.ht
  have hPb := P.hb
  have hPa := P.apart
  go_enter Tryz.func54, Tryz.ntmps54
  go_upto_region 1 with fail
  obtain ⟨own0, m0, Q0, R0⟩ := start2 g 26 36 [.int .i64 12, .int .i64 oa, .int .i64 ob, .int .i64 oc, .int .i64 on, .complex .f64 x y] resZ
  unfold resZ at m0 R0 Q0
  generalize (g.w.alloc (.cells #[.int .i64 12, .int .i64 oa, .int .i64 ob, .int .i64 oc, .int .i64 on, .complex .f64 x y] 26)).alloc (.cells #[.int .i64 0, .int .i64 0, .int .i64 0, .bool false, .complex .f64 0 0] 36) = w0 at *
  have H0 := Lib.hid (HH.out.keep0 m0)
  have M0 := Lib.hid (m0.mono (S := acT t B) (fun _ => False.elim))
  have Q0' := Lib.hid Q0
  have R0' := Lib.hid R0
  have HCK := Lib.hid (fun X => (show Calls Tryz.prog 89 #[cm.val, .agg #[.int .i64 12, .int .i64 oa, .int .i64 ob, .int .i64 oc, .int .i64 on, .complex .f64 x y]] (w0.patch X) (Gives (.int .i64 0) (w0.patch X)) from opChk_12 cm oa ob oc on x y (w0.patch X) (H0.out.c.cnf.ok.ext ⟨X, rfl⟩) (by rw [HH.out.c.same.check]; exact hck) (by rw [opOk_same HH.out.c.same]; exact ho)))
  unfold Cnf.val at HCK
  obtain ⟨c0, c1, c2, c3, c4, c5, c6, c7, c8, c9, c10, c11, c12, cl⟩ := H0.out.c.blk.c13
  (try simp only [GW.to] at c0 c1 c2 c3 c4 c5 c6 c7 c8 c9 c10 c11 c12 cl)
  obtain ⟨x0, x1, x2, x3, x4, x5, xl⟩ := Q0.c6
  (try simp only [GW.to] at x0 x1 x2 x3 x4 x5 xl)
  clear m0 Q0 R0 H
  refine wp_region_mixed [true, true, true, true, true, true, true] 0 7 (by kernel_rfl) (by kernel_rfl) (by kernel_rfl) ?_ (by decide) (by decide) (by decide) (by kernel_rfl) ?_
  · intro c a d v w h; cases d <;> exact h
  intro X00
  simp only [pickOps]
  repeat (go_big_quiet_step ((go_at_call 89; exact Calls.added (HCK.out _))))
  refine wpQuiet_nil (fun X0 => ?_)
  clear X00
  refine wpAnyM_done (by kernel_rfl) (fun X0' => ?_) _
  (try go_simp)
  obtain ⟨own1, m1⟩ : ∃ ownZ, Mod (fun _ => False) (⟨own0, w0⟩ : GW) ⟨ownZ, w0.patch ⟨X0.blocks ++ X0'.blocks, X0'.drawn⟩⟩ := ⟨_, Mod.pt (g := ⟨own0, w0⟩) (Mod.refl _ _) _⟩
  have M1 := Lib.hid (M0.out.trans (m1.mono (S := acT t B) (fun _ => False.elim)))
  have H1 := Lib.hid (H0.out.keep0 m1)
  have Q1 := Lib.hid (Q0'.out.keep m1 id)
  have R1 := Lib.hid (R0'.out.keep m1 id)
  generalize w0.patch ⟨X0.blocks ++ X0'.blocks, X0'.drawn⟩ = w1 at *
  clear m1 M0 H0 Q0' R0' HCK
  clear x0 x1 x2 x3 x4 x5 xl
  clear c0 c1 c2 c3 c4 c5 c6 c7 c8 c9 c10 c11 c12 cl
  obtain ⟨x0, x1, x2, x3, x4, x5, xl⟩ := Q1.out.c6
  (try simp only [GW.to] at x0 x1 x2 x3 x4 x5 xl)
  have HOP := Lib.hid (show Calls Tryz.prog 90 #[.pointer (some ⟨b, 0, none⟩), .agg #[.int .i64 12, .int .i64 oa, .int .i64 ob, .int .i64 oc, .int .i64 on, .complex .f64 x y]] w1 (Gives (.int .i64 0) w1) from operands_12 ⟨own1, w1⟩ t b W.a p H1.out.a oa ob oc on x y)
  go_wp2_with fail
  refine HOP.out.mono ?_
  rintro e w2 ⟨rfl, hE⟩
  obtain ⟨own2, m2⟩ : ∃ ownZ, Mod (fun _ => False) (⟨own1, w1⟩ : GW) ⟨ownZ, w2⟩ := by
    obtain ⟨X2, rfl⟩ := hE
    exact ⟨((⟨own1, w1⟩ : GW).pt X2).own, (show Mod (fun _ => False) (⟨own1, w1⟩ : GW) ((⟨own1, w1⟩ : GW).pt X2) from Mod.pt (Mod.refl _ _) _)⟩
  clear hE
  have M2 := Lib.hid (M1.out.trans (m2.mono (S := acT t B) (fun _ => False.elim)))
  have H2 := Lib.hid (H1.out.keep0 m2)
  have Q2 := Lib.hid (Q1.out.keep m2 id)
  have R2 := Lib.hid (R1.out.keep m2 id)
  clear m2 M1 H1 Q1 R1
  clear HOP
  clear x0 x1 x2 x3 x4 x5 xl
  have HPL := Lib.hid (show Calls Tryz.prog 91 #[.pointer (some ⟨b, 0, none⟩), .agg #[.int .i64 12, .int .i64 oa, .int .i64 ob, .int .i64 oc, .int .i64 on, .complex .f64 x y]] w2 (Gives (.tuple #[.agg #[.bool false, .complex .f64 (x) (y)], .bool true]) w2) from plain_12 ⟨own2, w2⟩ t b W.a p H2.out.a oa ob oc on x y)
  obtain ⟨x0, x1, x2, x3, x4, x5, xl⟩ := Q2.out.c6
  (try simp only [GW.to] at x0 x1 x2 x3 x4 x5 xl)
  go_wp2_with fail
  refine HPL.out.mono ?_
  rintro e w3 ⟨rfl, hE⟩
  obtain ⟨own3, m3⟩ : ∃ ownZ, Mod (fun _ => False) (⟨own2, w2⟩ : GW) ⟨ownZ, w3⟩ := by
    obtain ⟨X2, rfl⟩ := hE
    exact ⟨((⟨own2, w2⟩ : GW).pt X2).own, (show Mod (fun _ => False) (⟨own2, w2⟩ : GW) ((⟨own2, w2⟩ : GW).pt X2) from Mod.pt (Mod.refl _ _) _)⟩
  clear hE
  have M3 := Lib.hid (M2.out.trans (m3.mono (S := acT t B) (fun _ => False.elim)))
  have H3 := Lib.hid (H2.out.keep0 m3)
  have Q3 := Lib.hid (Q2.out.keep m3 id)
  have R3 := Lib.hid (R2.out.keep m3 id)
  clear m3 M2 H2 Q2 R2
  clear HPL
  clear x0 x1 x2 x3 x4 x5 xl
  obtain ⟨x0, x1, x2, x3, x4, x5, xl⟩ := Q3.out.c6
  (try simp only [GW.to] at x0 x1 x2 x3 x4 x5 xl)
  go_upto_region 8 with fail
  obtain ⟨own4, m4, V4⟩ := start1 ⟨own3, w3⟩ 34 [.bool false, .complex .f64 (x) (y)]
  have m4' : Mod (fun _ => False) (⟨own3, w3⟩ : GW) ⟨own4, w3.alloc (.cells #[.bool false, .complex .f64 (x) (y)] 34)⟩ := m4
  have V4' : Blk ⟨own4, w3.alloc (.cells #[.bool false, .complex .f64 (x) (y)] 34)⟩ 9 w3.heap.size 34 [.bool false, .complex .f64 (x) (y)] := V4
  clear m4 V4
  generalize w3.alloc (.cells #[.bool false, .complex .f64 (x) (y)] 34) = w4 at *
  have m4 := m4'
  clear m4'
  generalize w3.heap.size = qv at *
  have M4 := Lib.hid (M3.out.trans (m4.mono (S := acT t B) (fun _ => False.elim)))
  have H4 := Lib.hid (H3.out.keep0 m4)
  have Q4 := Lib.hid (Q3.out.keep m4 id)
  have R4 := Lib.hid (R3.out.keep m4 id)
  clear m4 M3 H3 Q3 R3
  clear x0 x1 x2 x3 x4 x5 xl
  obtain ⟨x0, x1, x2, x3, x4, x5, xl⟩ := Q4.out.c6
  (try simp only [GW.to] at x0 x1 x2 x3 x4 x5 xl)
  obtain ⟨v0, v1, vl⟩ := V4'.c2
  (try simp only [GW.to] at v0 v1 vl)
  clear V4'
  obtain ⟨r, hr⟩ : ∃ r, ({ W.a with locals := W.a.locals.set oa.toNat ⟨false, (x, y)⟩ } : AcS).res ⟨false, (x, y)⟩ 0 = r := ⟨_, rfl⟩
  have HRr := Lib.hid hr
  have HLY := Lib.hid (show Calls Tryz.prog 92 #[.pointer (some ⟨b, 0, none⟩), .int .i64 oa, .agg #[.bool false, .complex .f64 (x) (y)]] w4 (Does (.tuple #[.agg #[.int .i64 r.op, .int .i64 r.own, .int .i64 r.e, .bool r.v.ref, .complex .f64 r.v.z.1 r.v.z.2], .bool true]) ⟨own4, w4⟩ (acO t) (fun g' => AcAt g' t b _ p)) from act_lays ⟨own4, w4⟩ t b W.a p oa ⟨false, (x, y)⟩ r hPt H4.out.a hnx hoa hr)
  clear hr
  go_wp2_with fail
  refine HLY.out.mono ?_
  rintro e w5 ⟨rfl, own5, m5, h5⟩
  have M5 := Lib.hid (M4.out.trans (m5.mono (S := acT t B) (fun x hx => acT_own hx)))
  have H5 := Lib.hid (H4.out.own HP.out m5 h5)
  have R5 := Lib.hid (R4.out.keep m5 (fun h => by unfold acO at h; omega))
  clear M4 H4 R4 m5 h5 HLY v0 v1 vl
  clear x0 x1 x2 x3 x4 x5 xl
  obtain ⟨r0, r1, r2, r3, r4, rl⟩ := R5.out.c5
  have rf0 := R5.out.live 0
  have rf1 := R5.out.live 1
  have rf2 := R5.out.live 2
  have rf3 := R5.out.live 3
  have rf4 := R5.out.live 4
  (try simp only [GW.to] at r0 r1 r2 r3 r4 rf0 rf1 rf2 rf3 rf4 rl)
  go_wp2_with fail
  obtain ⟨Mf, mf, Rf⟩ := put_res M5.out R5.out (Nat.le_succ _) (r.op) (r.own) (r.e) (r.v.ref) (r.v.z.1) (r.v.z.2)
  generalize ((((((w5).setCell ⟨g.w.heap.size + 1, 0, none⟩ (.int .i64 (r.op))).setCell ⟨g.w.heap.size + 1, 1, none⟩ (.int .i64 (r.own))).setCell ⟨g.w.heap.size + 1, 2, none⟩ (.int .i64 (r.e))).setCell ⟨g.w.heap.size + 1, 3, none⟩ (.bool (r.v.ref))).setCell ⟨g.w.heap.size + 1, 4, none⟩ (.complex .f64 (r.v.z.1) (r.v.z.2))) = wf at *
  obtain ⟨f0, f1, f2, f3, f4, fl⟩ := Rf.c5
  (try simp only [GW.to] at f0 f1 f2 f3 f4 fl)
  refine bodyPost_ret (v := .tuple #[.agg #[.int .i64 (r.op), .int .i64 (r.own), .int .i64 (r.e), .bool (r.v.ref), .complex .f64 (r.v.z.1) (r.v.z.2)], .bool true]) (by simp [results, Tryz.results54, go_sem, f0, f1, f2, f3, f4]) rfl ?_
  exact Does.of ⟨own5, wf⟩ rfl (by rw [← HRr.out]; rfl) Mf ((H5.out.keep mf (by omega) (fun x (hx : x = 9) => by omega) (fun x (hx : x = 9) => by omega)).at_)
theorem act_starts_13 [TbId] (P : AcApart t B) (hnx : 0 ≤ W.a.next ∧ W.a.next ≤ 1099511627776) (H : AcIn g t B b k W p bm bs bt bp bsp bh cm) (hck : W.K.c.check = 0) (oa ob oc on : Int) (x y : Nat) (ho : opOk W.K.c ⟨13, oa, ob, oc, on, x, y⟩ = true) (hoa : 0 ≤ oa ∧ oa < W.a.locals.length) :
    Calls Tryz.prog 54 #[.pointer (some ⟨b, 0, none⟩), .pointer (some ⟨k, 0, none⟩), .agg #[.int .i64 13, .int .i64 oa, .int .i64 ob, .int .i64 oc, .int .i64 on, .complex .f64 x y]] g.w (Does (resV (W.laysR oa LVal.none).1) g (acT t B) (fun g' => AcWAt g' t B b k (W.laysR oa LVal.none).2)) := by
  have HH := Lib.hid H
  have HP := Lib.hid P
  have hPt := P.ht
  have hPb := P.hb
  have hPa := P.apart
  go_enter Tryz.func54, Tryz.ntmps54
  go_upto_region 1 with fail
  obtain ⟨own0, m0, Q0, R0⟩ := start2 g 26 36 [.int .i64 13, .int .i64 oa, .int .i64 ob, .int .i64 oc, .int .i64 on, .complex .f64 x y] resZ
  unfold resZ at m0 R0 Q0
  generalize (g.w.alloc (.cells #[.int .i64 13, .int .i64 oa, .int .i64 ob, .int .i64 oc, .int .i64 on, .complex .f64 x y] 26)).alloc (.cells #[.int .i64 0, .int .i64 0, .int .i64 0, .bool false, .complex .f64 0 0] 36) = w0 at *
  have H0 := Lib.hid (HH.out.keep0 m0)
  have M0 := Lib.hid (m0.mono (S := acT t B) (fun _ => False.elim))
  have Q0' := Lib.hid Q0
  have R0' := Lib.hid R0
  have HCK := Lib.hid (fun X => (show Calls Tryz.prog 89 #[cm.val, .agg #[.int .i64 13, .int .i64 oa, .int .i64 ob, .int .i64 oc, .int .i64 on, .complex .f64 x y]] (w0.patch X) (Gives (.int .i64 0) (w0.patch X)) from opChk_13 cm oa ob oc on x y (w0.patch X) (H0.out.c.cnf.ok.ext ⟨X, rfl⟩) (by rw [HH.out.c.same.check]; exact hck) (by rw [opOk_same HH.out.c.same]; exact ho)))
  unfold Cnf.val at HCK
  obtain ⟨c0, c1, c2, c3, c4, c5, c6, c7, c8, c9, c10, c11, c12, cl⟩ := H0.out.c.blk.c13
  (try simp only [GW.to] at c0 c1 c2 c3 c4 c5 c6 c7 c8 c9 c10 c11 c12 cl)
  obtain ⟨x0, x1, x2, x3, x4, x5, xl⟩ := Q0.c6
  (try simp only [GW.to] at x0 x1 x2 x3 x4 x5 xl)
  clear m0 Q0 R0 H
  refine wp_region_mixed [true, true, true, true, true, true, true] 0 7 (by kernel_rfl) (by kernel_rfl) (by kernel_rfl) ?_ (by decide) (by decide) (by decide) (by kernel_rfl) ?_
  · intro c a d v w h; cases d <;> exact h
  intro X00
  simp only [pickOps]
  repeat (go_big_quiet_step ((go_at_call 89; exact Calls.added (HCK.out _))))
  refine wpQuiet_nil (fun X0 => ?_)
  clear X00
  refine wpAnyM_done (by kernel_rfl) (fun X0' => ?_) _
  (try go_simp)
  obtain ⟨own1, m1⟩ : ∃ ownZ, Mod (fun _ => False) (⟨own0, w0⟩ : GW) ⟨ownZ, w0.patch ⟨X0.blocks ++ X0'.blocks, X0'.drawn⟩⟩ := ⟨_, Mod.pt (g := ⟨own0, w0⟩) (Mod.refl _ _) _⟩
  have M1 := Lib.hid (M0.out.trans (m1.mono (S := acT t B) (fun _ => False.elim)))
  have H1 := Lib.hid (H0.out.keep0 m1)
  have Q1 := Lib.hid (Q0'.out.keep m1 id)
  have R1 := Lib.hid (R0'.out.keep m1 id)
  generalize w0.patch ⟨X0.blocks ++ X0'.blocks, X0'.drawn⟩ = w1 at *
  clear m1 M0 H0 Q0' R0' HCK
  clear x0 x1 x2 x3 x4 x5 xl
  clear c0 c1 c2 c3 c4 c5 c6 c7 c8 c9 c10 c11 c12 cl
  obtain ⟨x0, x1, x2, x3, x4, x5, xl⟩ := Q1.out.c6
  (try simp only [GW.to] at x0 x1 x2 x3 x4 x5 xl)
  have HOP := Lib.hid (show Calls Tryz.prog 90 #[.pointer (some ⟨b, 0, none⟩), .agg #[.int .i64 13, .int .i64 oa, .int .i64 ob, .int .i64 oc, .int .i64 on, .complex .f64 x y]] w1 (Gives (.int .i64 0) w1) from operands_13 ⟨own1, w1⟩ t b W.a p H1.out.a oa ob oc on x y)
  go_wp2_with fail
  refine HOP.out.mono ?_
  rintro e w2 ⟨rfl, hE⟩
  obtain ⟨own2, m2⟩ : ∃ ownZ, Mod (fun _ => False) (⟨own1, w1⟩ : GW) ⟨ownZ, w2⟩ := by
    obtain ⟨X2, rfl⟩ := hE
    exact ⟨((⟨own1, w1⟩ : GW).pt X2).own, (show Mod (fun _ => False) (⟨own1, w1⟩ : GW) ((⟨own1, w1⟩ : GW).pt X2) from Mod.pt (Mod.refl _ _) _)⟩
  clear hE
  have M2 := Lib.hid (M1.out.trans (m2.mono (S := acT t B) (fun _ => False.elim)))
  have H2 := Lib.hid (H1.out.keep0 m2)
  have Q2 := Lib.hid (Q1.out.keep m2 id)
  have R2 := Lib.hid (R1.out.keep m2 id)
  clear m2 M1 H1 Q1 R1
  clear HOP
  clear x0 x1 x2 x3 x4 x5 xl
  have HPL := Lib.hid (show Calls Tryz.prog 91 #[.pointer (some ⟨b, 0, none⟩), .agg #[.int .i64 13, .int .i64 oa, .int .i64 ob, .int .i64 oc, .int .i64 on, .complex .f64 x y]] w2 (Gives (.tuple #[.agg #[.bool true, .complex .f64 (0) (4607182418800017408)], .bool true]) w2) from plain_13 ⟨own2, w2⟩ t b W.a p H2.out.a oa ob oc on x y)
  obtain ⟨x0, x1, x2, x3, x4, x5, xl⟩ := Q2.out.c6
  (try simp only [GW.to] at x0 x1 x2 x3 x4 x5 xl)
  go_wp2_with fail
  refine HPL.out.mono ?_
  rintro e w3 ⟨rfl, hE⟩
  obtain ⟨own3, m3⟩ : ∃ ownZ, Mod (fun _ => False) (⟨own2, w2⟩ : GW) ⟨ownZ, w3⟩ := by
    obtain ⟨X2, rfl⟩ := hE
    exact ⟨((⟨own2, w2⟩ : GW).pt X2).own, (show Mod (fun _ => False) (⟨own2, w2⟩ : GW) ((⟨own2, w2⟩ : GW).pt X2) from Mod.pt (Mod.refl _ _) _)⟩
  clear hE
  have M3 := Lib.hid (M2.out.trans (m3.mono (S := acT t B) (fun _ => False.elim)))
  have H3 := Lib.hid (H2.out.keep0 m3)
  have Q3 := Lib.hid (Q2.out.keep m3 id)
  have R3 := Lib.hid (R2.out.keep m3 id)
  clear m3 M2 H2 Q2 R2
  clear HPL
  clear x0 x1 x2 x3 x4 x5 xl
  obtain ⟨x0, x1, x2, x3, x4, x5, xl⟩ := Q3.out.c6
  (try simp only [GW.to] at x0 x1 x2 x3 x4 x5 xl)
  go_upto_region 8 with fail
  obtain ⟨own4, m4, V4⟩ := start1 ⟨own3, w3⟩ 34 [.bool true, .complex .f64 (0) (4607182418800017408)]
  have m4' : Mod (fun _ => False) (⟨own3, w3⟩ : GW) ⟨own4, w3.alloc (.cells #[.bool true, .complex .f64 (0) (4607182418800017408)] 34)⟩ := m4
  have V4' : Blk ⟨own4, w3.alloc (.cells #[.bool true, .complex .f64 (0) (4607182418800017408)] 34)⟩ 9 w3.heap.size 34 [.bool true, .complex .f64 (0) (4607182418800017408)] := V4
  clear m4 V4
  generalize w3.alloc (.cells #[.bool true, .complex .f64 (0) (4607182418800017408)] 34) = w4 at *
  have m4 := m4'
  clear m4'
  generalize w3.heap.size = qv at *
  have M4 := Lib.hid (M3.out.trans (m4.mono (S := acT t B) (fun _ => False.elim)))
  have H4 := Lib.hid (H3.out.keep0 m4)
  have Q4 := Lib.hid (Q3.out.keep m4 id)
  have R4 := Lib.hid (R3.out.keep m4 id)
  clear m4 M3 H3 Q3 R3
  clear x0 x1 x2 x3 x4 x5 xl
  obtain ⟨x0, x1, x2, x3, x4, x5, xl⟩ := Q4.out.c6
  (try simp only [GW.to] at x0 x1 x2 x3 x4 x5 xl)
  obtain ⟨v0, v1, vl⟩ := V4'.c2
  (try simp only [GW.to] at v0 v1 vl)
  clear V4'
  obtain ⟨r, hr⟩ : ∃ r, ({ W.a with locals := W.a.locals.set oa.toNat ⟨true, (0, 4607182418800017408)⟩ } : AcS).res ⟨true, (0, 4607182418800017408)⟩ 0 = r := ⟨_, rfl⟩
  have HRr := Lib.hid hr
  have HLY := Lib.hid (show Calls Tryz.prog 92 #[.pointer (some ⟨b, 0, none⟩), .int .i64 oa, .agg #[.bool true, .complex .f64 (0) (4607182418800017408)]] w4 (Does (.tuple #[.agg #[.int .i64 r.op, .int .i64 r.own, .int .i64 r.e, .bool r.v.ref, .complex .f64 r.v.z.1 r.v.z.2], .bool true]) ⟨own4, w4⟩ (acO t) (fun g' => AcAt g' t b _ p)) from act_lays ⟨own4, w4⟩ t b W.a p oa ⟨true, (0, 4607182418800017408)⟩ r hPt H4.out.a hnx hoa hr)
  clear hr
  go_wp2_with fail
  refine HLY.out.mono ?_
  rintro e w5 ⟨rfl, own5, m5, h5⟩
  have M5 := Lib.hid (M4.out.trans (m5.mono (S := acT t B) (fun x hx => acT_own hx)))
  have H5 := Lib.hid (H4.out.own HP.out m5 h5)
  have R5 := Lib.hid (R4.out.keep m5 (fun h => by unfold acO at h; omega))
  clear M4 H4 R4 m5 h5 HLY v0 v1 vl
  clear x0 x1 x2 x3 x4 x5 xl
  obtain ⟨r0, r1, r2, r3, r4, rl⟩ := R5.out.c5
  have rf0 := R5.out.live 0
  have rf1 := R5.out.live 1
  have rf2 := R5.out.live 2
  have rf3 := R5.out.live 3
  have rf4 := R5.out.live 4
  (try simp only [GW.to] at r0 r1 r2 r3 r4 rf0 rf1 rf2 rf3 rf4 rl)
  go_wp2_with fail
  obtain ⟨Mf, mf, Rf⟩ := put_res M5.out R5.out (Nat.le_succ _) (r.op) (r.own) (r.e) (r.v.ref) (r.v.z.1) (r.v.z.2)
  generalize ((((((w5).setCell ⟨g.w.heap.size + 1, 0, none⟩ (.int .i64 (r.op))).setCell ⟨g.w.heap.size + 1, 1, none⟩ (.int .i64 (r.own))).setCell ⟨g.w.heap.size + 1, 2, none⟩ (.int .i64 (r.e))).setCell ⟨g.w.heap.size + 1, 3, none⟩ (.bool (r.v.ref))).setCell ⟨g.w.heap.size + 1, 4, none⟩ (.complex .f64 (r.v.z.1) (r.v.z.2))) = wf at *
  obtain ⟨f0, f1, f2, f3, f4, fl⟩ := Rf.c5
  (try simp only [GW.to] at f0 f1 f2 f3 f4 fl)
  refine bodyPost_ret (v := .tuple #[.agg #[.int .i64 (r.op), .int .i64 (r.own), .int .i64 (r.e), .bool (r.v.ref), .complex .f64 (r.v.z.1) (r.v.z.2)], .bool true]) (by simp [results, Tryz.results54, go_sem, f0, f1, f2, f3, f4]) rfl ?_
  exact Does.of ⟨own5, wf⟩ rfl (by rw [← HRr.out]; rfl) Mf ((H5.out.keep mf (by omega) (fun x (hx : x = 9) => by omega) (fun x (hx : x = 9) => by omega)).at_)
theorem act_starts_1 [TbId] (P : AcApart t B) (hnx : 0 ≤ W.a.next ∧ W.a.next ≤ 1099511627776) (H : AcIn g t B b k W p bm bs bt bp bsp bh cm) (hck : W.K.c.check = 0) (oa ob oc on : Int) (x y : Nat) (ho : opOk W.K.c ⟨1, oa, ob, oc, on, x, y⟩ = true) (hsp : 0 ≤ W.K.sp.count ∧ W.K.sp.count ≤ 1099511627776) (hln : W.K.sp.line.length < 1000000) (r : AcR) (hok : W.asksO ⟨1, oa, ob, oc, on, x, y⟩ = some r) :
    Calls Tryz.prog 54 #[.pointer (some ⟨b, 0, none⟩), .pointer (some ⟨k, 0, none⟩), .agg #[.int .i64 1, .int .i64 oa, .int .i64 ob, .int .i64 oc, .int .i64 on, .complex .f64 x y]] g.w (Does (resV r.1) g (acT t B) (fun g' => AcWAt g' t B b k r.2)) := by
  have HH := Lib.hid H
  have HP := Lib.hid P
  have hPt := P.ht
  have hPb := P.hb
  have hPa := P.apart
  go_enter Tryz.func54, Tryz.ntmps54
  go_upto_region 1 with fail
  obtain ⟨own0, m0, Q0, R0⟩ := start2 g 26 36 [.int .i64 1, .int .i64 oa, .int .i64 ob, .int .i64 oc, .int .i64 on, .complex .f64 x y] resZ
  unfold resZ at m0 R0 Q0
  generalize (g.w.alloc (.cells #[.int .i64 1, .int .i64 oa, .int .i64 ob, .int .i64 oc, .int .i64 on, .complex .f64 x y] 26)).alloc (.cells #[.int .i64 0, .int .i64 0, .int .i64 0, .bool false, .complex .f64 0 0] 36) = w0 at *
  have H0 := Lib.hid (HH.out.keep0 m0)
  have M0 := Lib.hid (m0.mono (S := acT t B) (fun _ => False.elim))
  have Q0' := Lib.hid Q0
  have R0' := Lib.hid R0
  have HCK := Lib.hid (fun X => (show Calls Tryz.prog 89 #[cm.val, .agg #[.int .i64 1, .int .i64 oa, .int .i64 ob, .int .i64 oc, .int .i64 on, .complex .f64 x y]] (w0.patch X) (Gives (.int .i64 0) (w0.patch X)) from opChk_1 cm oa ob oc on x y (w0.patch X) (H0.out.c.cnf.ok.ext ⟨X, rfl⟩) (by rw [HH.out.c.same.check]; exact hck) (by rw [opOk_same HH.out.c.same]; exact ho)))
  unfold Cnf.val at HCK
  obtain ⟨c0, c1, c2, c3, c4, c5, c6, c7, c8, c9, c10, c11, c12, cl⟩ := H0.out.c.blk.c13
  (try simp only [GW.to] at c0 c1 c2 c3 c4 c5 c6 c7 c8 c9 c10 c11 c12 cl)
  obtain ⟨x0, x1, x2, x3, x4, x5, xl⟩ := Q0.c6
  (try simp only [GW.to] at x0 x1 x2 x3 x4 x5 xl)
  clear m0 Q0 R0 H
  refine wp_region_mixed [true, true, true, true, true, true, true] 0 7 (by kernel_rfl) (by kernel_rfl) (by kernel_rfl) ?_ (by decide) (by decide) (by decide) (by kernel_rfl) ?_
  · intro c a d v w h; cases d <;> exact h
  intro X00
  simp only [pickOps]
  repeat (go_big_quiet_step ((go_at_call 89; exact Calls.added (HCK.out _))))
  refine wpQuiet_nil (fun X0 => ?_)
  clear X00
  refine wpAnyM_done (by kernel_rfl) (fun X0' => ?_) _
  (try go_simp)
  obtain ⟨own1, m1⟩ : ∃ ownZ, Mod (fun _ => False) (⟨own0, w0⟩ : GW) ⟨ownZ, w0.patch ⟨X0.blocks ++ X0'.blocks, X0'.drawn⟩⟩ := ⟨_, Mod.pt (g := ⟨own0, w0⟩) (Mod.refl _ _) _⟩
  have M1 := Lib.hid (M0.out.trans (m1.mono (S := acT t B) (fun _ => False.elim)))
  have H1 := Lib.hid (H0.out.keep0 m1)
  have Q1 := Lib.hid (Q0'.out.keep m1 id)
  have R1 := Lib.hid (R0'.out.keep m1 id)
  generalize w0.patch ⟨X0.blocks ++ X0'.blocks, X0'.drawn⟩ = w1 at *
  clear m1 M0 H0 Q0' R0' HCK
  clear x0 x1 x2 x3 x4 x5 xl
  clear c0 c1 c2 c3 c4 c5 c6 c7 c8 c9 c10 c11 c12 cl
  obtain ⟨x0, x1, x2, x3, x4, x5, xl⟩ := Q1.out.c6
  (try simp only [GW.to] at x0 x1 x2 x3 x4 x5 xl)
  have HOP := Lib.hid (show Calls Tryz.prog 90 #[.pointer (some ⟨b, 0, none⟩), .agg #[.int .i64 1, .int .i64 oa, .int .i64 ob, .int .i64 oc, .int .i64 on, .complex .f64 x y]] w1 (Gives (.int .i64 0) w1) from operands_1 ⟨own1, w1⟩ t b W.a p H1.out.a oa ob oc on x y)
  go_wp2_with fail
  refine HOP.out.mono ?_
  rintro e w2 ⟨rfl, hE⟩
  obtain ⟨own2, m2⟩ : ∃ ownZ, Mod (fun _ => False) (⟨own1, w1⟩ : GW) ⟨ownZ, w2⟩ := by
    obtain ⟨X2, rfl⟩ := hE
    exact ⟨((⟨own1, w1⟩ : GW).pt X2).own, (show Mod (fun _ => False) (⟨own1, w1⟩ : GW) ((⟨own1, w1⟩ : GW).pt X2) from Mod.pt (Mod.refl _ _) _)⟩
  clear hE
  have M2 := Lib.hid (M1.out.trans (m2.mono (S := acT t B) (fun _ => False.elim)))
  have H2 := Lib.hid (H1.out.keep0 m2)
  have Q2 := Lib.hid (Q1.out.keep m2 id)
  have R2 := Lib.hid (R1.out.keep m2 id)
  clear m2 M1 H1 Q1 R1
  clear HOP
  clear x0 x1 x2 x3 x4 x5 xl
  have HPL := Lib.hid (show Calls Tryz.prog 91 #[.pointer (some ⟨b, 0, none⟩), .agg #[.int .i64 1, .int .i64 oa, .int .i64 ob, .int .i64 oc, .int .i64 on, .complex .f64 x y]] w2 (Gives (.tuple #[.agg #[.bool false, .complex .f64 (0) (0)], .bool false]) w2) from plain_1 ⟨own2, w2⟩ t b W.a p H2.out.a oa ob oc on x y)
  obtain ⟨x0, x1, x2, x3, x4, x5, xl⟩ := Q2.out.c6
  (try simp only [GW.to] at x0 x1 x2 x3 x4 x5 xl)
  go_wp2_with fail
  refine HPL.out.mono ?_
  rintro e w3 ⟨rfl, hE⟩
  obtain ⟨own3, m3⟩ : ∃ ownZ, Mod (fun _ => False) (⟨own2, w2⟩ : GW) ⟨ownZ, w3⟩ := by
    obtain ⟨X2, rfl⟩ := hE
    exact ⟨((⟨own2, w2⟩ : GW).pt X2).own, (show Mod (fun _ => False) (⟨own2, w2⟩ : GW) ((⟨own2, w2⟩ : GW).pt X2) from Mod.pt (Mod.refl _ _) _)⟩
  clear hE
  have M3 := Lib.hid (M2.out.trans (m3.mono (S := acT t B) (fun _ => False.elim)))
  have H3 := Lib.hid (H2.out.keep0 m3)
  have Q3 := Lib.hid (Q2.out.keep m3 id)
  have R3 := Lib.hid (R2.out.keep m3 id)
  clear m3 M2 H2 Q2 R2
  clear HPL
  clear x0 x1 x2 x3 x4 x5 xl
  obtain ⟨x0, x1, x2, x3, x4, x5, xl⟩ := Q3.out.c6
  (try simp only [GW.to] at x0 x1 x2 x3 x4 x5 xl)
  go_upto_region 9 with fail
  obtain ⟨own4, m4, V4⟩ := start1 ⟨own3, w3⟩ 34 [.bool false, .complex .f64 (0) (0)]
  have m4' : Mod (fun _ => False) (⟨own3, w3⟩ : GW) ⟨own4, w3.alloc (.cells #[.bool false, .complex .f64 (0) (0)] 34)⟩ := m4
  have V4' : Blk ⟨own4, w3.alloc (.cells #[.bool false, .complex .f64 (0) (0)] 34)⟩ 9 w3.heap.size 34 [.bool false, .complex .f64 (0) (0)] := V4
  clear m4 V4
  generalize w3.alloc (.cells #[.bool false, .complex .f64 (0) (0)] 34) = w4 at *
  have m4 := m4'
  clear m4'
  generalize w3.heap.size = qv at *
  have M4 := Lib.hid (M3.out.trans (m4.mono (S := acT t B) (fun _ => False.elim)))
  have H4 := Lib.hid (H3.out.keep0 m4)
  have Q4 := Lib.hid (Q3.out.keep m4 id)
  have R4 := Lib.hid (R3.out.keep m4 id)
  clear m4 M3 H3 Q3 R3
  clear x0 x1 x2 x3 x4 x5 xl
  obtain ⟨x0, x1, x2, x3, x4, x5, xl⟩ := Q4.out.c6
  (try simp only [GW.to] at x0 x1 x2 x3 x4 x5 xl)
  clear V4'
  obtain ⟨⟨rr, rb⟩, rW⟩ := r
  have HAK := Lib.hid (show Calls Tryz.prog 93 #[.pointer (some ⟨b, 0, none⟩), .pointer (some ⟨k, 0, none⟩), .agg #[.int .i64 1, .int .i64 oa, .int .i64 ob, .int .i64 oc, .int .i64 on, .complex .f64 x y]] w4 (Does (.tuple #[.agg #[.int .i64 rr.op, .int .i64 rr.own, .int .i64 rr.e, .bool rr.v.ref, .complex .f64 rr.v.z.1 rr.v.z.2], .bool rb]) ⟨own4, w4⟩ (acT t B) (fun g' => AcWAt g' t B b k rW)) from act_asks_1 (g := ⟨own4, w4⟩) P H4.out oa ob oc on x y ho hck hsp hln ((rr, rb), rW) hok)
  go_wp2_with fail
  refine HAK.out.mono ?_
  rintro e w5 ⟨rfl, own5, m5, h5⟩
  have M5 := Lib.hid (M4.out.trans m5)
  have H5 := Lib.hid h5
  have R5 := Lib.hid (R4.out.keep m5 (fun h => by unfold acT at h; omega))
  clear M4 H4 R4 m5 h5 HAK
  clear x0 x1 x2 x3 x4 x5 xl
  obtain ⟨r0, r1, r2, r3, r4, rl⟩ := R5.out.c5
  have rf0 := R5.out.live 0
  have rf1 := R5.out.live 1
  have rf2 := R5.out.live 2
  have rf3 := R5.out.live 3
  have rf4 := R5.out.live 4
  (try simp only [GW.to] at r0 r1 r2 r3 r4 rf0 rf1 rf2 rf3 rf4 rl)
  go_wp2_with fail
  obtain ⟨Mf, mf, Rf⟩ := put_res M5.out R5.out (Nat.le_succ _) (rr.op) (rr.own) (rr.e) (rr.v.ref) (rr.v.z.1) (rr.v.z.2)
  generalize ((((((w5).setCell ⟨g.w.heap.size + 1, 0, none⟩ (.int .i64 (rr.op))).setCell ⟨g.w.heap.size + 1, 1, none⟩ (.int .i64 (rr.own))).setCell ⟨g.w.heap.size + 1, 2, none⟩ (.int .i64 (rr.e))).setCell ⟨g.w.heap.size + 1, 3, none⟩ (.bool (rr.v.ref))).setCell ⟨g.w.heap.size + 1, 4, none⟩ (.complex .f64 (rr.v.z.1) (rr.v.z.2))) = wf at *
  obtain ⟨f0, f1, f2, f3, f4, fl⟩ := Rf.c5
  (try simp only [GW.to] at f0 f1 f2 f3 f4 fl)
  refine bodyPost_ret (v := .tuple #[.agg #[.int .i64 (rr.op), .int .i64 (rr.own), .int .i64 (rr.e), .bool (rr.v.ref), .complex .f64 (rr.v.z.1) (rr.v.z.2)], .bool rb]) (by simp [results, Tryz.results54, go_sem, f0, f1, f2, f3, f4]) rfl ?_
  obtain ⟨p5, bm5, bs5, bt5, bp5, bsp5, bh5, cm5, H6⟩ := H5.out
  exact Does.of ⟨own5, wf⟩ rfl rfl Mf ((H6.keep mf (by omega) (fun x (hx : x = 9) => by omega) (fun x (hx : x = 9) => by omega)).at_)
theorem act_starts_18 [TbId] (P : AcApart t B) (H : AcIn g t B b k W p bm bs bt bp bsp bh cm) (hck : W.K.c.check = 0) (oa ob oc on : Int) (x y : Nat) (ho : opOk W.K.c ⟨18, oa, ob, oc, on, x, y⟩ = true) (hsp : 0 ≤ W.K.sp.count ∧ W.K.sp.count ≤ 1099511627776) (R : AcR) (hR : ((W.spc (drainS W.K.sp W.a.t)).withA { W.a with at_ := 10 }).no = R) :
    Calls Tryz.prog 54 #[.pointer (some ⟨b, 0, none⟩), .pointer (some ⟨k, 0, none⟩), .agg #[.int .i64 18, .int .i64 oa, .int .i64 ob, .int .i64 oc, .int .i64 on, .complex .f64 x y]] g.w (Does (resV R.1) g (acT t B) (fun g' => AcWAt g' t B b k R.2)) := by
  have HH := Lib.hid H
  have HP := Lib.hid P
  have hPt := P.ht
  have hPb := P.hb
  have hPa := P.apart
  go_enter Tryz.func54, Tryz.ntmps54
  go_upto_region 1 with fail
  obtain ⟨own0, m0, Q0, R0⟩ := start2 g 26 36 [.int .i64 18, .int .i64 oa, .int .i64 ob, .int .i64 oc, .int .i64 on, .complex .f64 x y] resZ
  unfold resZ at m0 R0 Q0
  generalize (g.w.alloc (.cells #[.int .i64 18, .int .i64 oa, .int .i64 ob, .int .i64 oc, .int .i64 on, .complex .f64 x y] 26)).alloc (.cells #[.int .i64 0, .int .i64 0, .int .i64 0, .bool false, .complex .f64 0 0] 36) = w0 at *
  have H0 := Lib.hid (HH.out.keep0 m0)
  have M0 := Lib.hid (m0.mono (S := acT t B) (fun _ => False.elim))
  have Q0' := Lib.hid Q0
  have R0' := Lib.hid R0
  have HCK := Lib.hid (fun X => (show Calls Tryz.prog 89 #[cm.val, .agg #[.int .i64 18, .int .i64 oa, .int .i64 ob, .int .i64 oc, .int .i64 on, .complex .f64 x y]] (w0.patch X) (Gives (.int .i64 0) (w0.patch X)) from opChk_18 cm oa ob oc on x y (w0.patch X) (H0.out.c.cnf.ok.ext ⟨X, rfl⟩) (by rw [HH.out.c.same.check]; exact hck) (by rw [opOk_same HH.out.c.same]; exact ho)))
  unfold Cnf.val at HCK
  obtain ⟨c0, c1, c2, c3, c4, c5, c6, c7, c8, c9, c10, c11, c12, cl⟩ := H0.out.c.blk.c13
  (try simp only [GW.to] at c0 c1 c2 c3 c4 c5 c6 c7 c8 c9 c10 c11 c12 cl)
  obtain ⟨x0, x1, x2, x3, x4, x5, xl⟩ := Q0.c6
  (try simp only [GW.to] at x0 x1 x2 x3 x4 x5 xl)
  clear m0 Q0 R0 H
  refine wp_region_mixed [true, true, true, true, true, true, true] 0 7 (by kernel_rfl) (by kernel_rfl) (by kernel_rfl) ?_ (by decide) (by decide) (by decide) (by kernel_rfl) ?_
  · intro c a d v w h; cases d <;> exact h
  intro X00
  simp only [pickOps]
  repeat (go_big_quiet_step ((go_at_call 89; exact Calls.added (HCK.out _))))
  refine wpQuiet_nil (fun X0 => ?_)
  clear X00
  refine wpAnyM_done (by kernel_rfl) (fun X0' => ?_) _
  (try go_simp)
  obtain ⟨own1, m1⟩ : ∃ ownZ, Mod (fun _ => False) (⟨own0, w0⟩ : GW) ⟨ownZ, w0.patch ⟨X0.blocks ++ X0'.blocks, X0'.drawn⟩⟩ := ⟨_, Mod.pt (g := ⟨own0, w0⟩) (Mod.refl _ _) _⟩
  have M1 := Lib.hid (M0.out.trans (m1.mono (S := acT t B) (fun _ => False.elim)))
  have H1 := Lib.hid (H0.out.keep0 m1)
  have Q1 := Lib.hid (Q0'.out.keep m1 id)
  have R1 := Lib.hid (R0'.out.keep m1 id)
  generalize w0.patch ⟨X0.blocks ++ X0'.blocks, X0'.drawn⟩ = w1 at *
  clear m1 M0 H0 Q0' R0' HCK
  clear x0 x1 x2 x3 x4 x5 xl
  clear c0 c1 c2 c3 c4 c5 c6 c7 c8 c9 c10 c11 c12 cl
  obtain ⟨x0, x1, x2, x3, x4, x5, xl⟩ := Q1.out.c6
  (try simp only [GW.to] at x0 x1 x2 x3 x4 x5 xl)
  have HOP := Lib.hid (show Calls Tryz.prog 90 #[.pointer (some ⟨b, 0, none⟩), .agg #[.int .i64 18, .int .i64 oa, .int .i64 ob, .int .i64 oc, .int .i64 on, .complex .f64 x y]] w1 (Gives (.int .i64 0) w1) from operands_18 ⟨own1, w1⟩ t b W.a p H1.out.a oa ob oc on x y)
  go_wp2_with fail
  refine HOP.out.mono ?_
  rintro e w2 ⟨rfl, hE⟩
  obtain ⟨own2, m2⟩ : ∃ ownZ, Mod (fun _ => False) (⟨own1, w1⟩ : GW) ⟨ownZ, w2⟩ := by
    obtain ⟨X2, rfl⟩ := hE
    exact ⟨((⟨own1, w1⟩ : GW).pt X2).own, (show Mod (fun _ => False) (⟨own1, w1⟩ : GW) ((⟨own1, w1⟩ : GW).pt X2) from Mod.pt (Mod.refl _ _) _)⟩
  clear hE
  have M2 := Lib.hid (M1.out.trans (m2.mono (S := acT t B) (fun _ => False.elim)))
  have H2 := Lib.hid (H1.out.keep0 m2)
  have Q2 := Lib.hid (Q1.out.keep m2 id)
  have R2 := Lib.hid (R1.out.keep m2 id)
  clear m2 M1 H1 Q1 R1
  clear HOP
  clear x0 x1 x2 x3 x4 x5 xl
  have HPL := Lib.hid (show Calls Tryz.prog 91 #[.pointer (some ⟨b, 0, none⟩), .agg #[.int .i64 18, .int .i64 oa, .int .i64 ob, .int .i64 oc, .int .i64 on, .complex .f64 x y]] w2 (Gives (.tuple #[.agg #[.bool false, .complex .f64 (0) (0)], .bool false]) w2) from plain_18 ⟨own2, w2⟩ t b W.a p H2.out.a oa ob oc on x y)
  obtain ⟨x0, x1, x2, x3, x4, x5, xl⟩ := Q2.out.c6
  (try simp only [GW.to] at x0 x1 x2 x3 x4 x5 xl)
  go_wp2_with fail
  refine HPL.out.mono ?_
  rintro e w3 ⟨rfl, hE⟩
  obtain ⟨own3, m3⟩ : ∃ ownZ, Mod (fun _ => False) (⟨own2, w2⟩ : GW) ⟨ownZ, w3⟩ := by
    obtain ⟨X2, rfl⟩ := hE
    exact ⟨((⟨own2, w2⟩ : GW).pt X2).own, (show Mod (fun _ => False) (⟨own2, w2⟩ : GW) ((⟨own2, w2⟩ : GW).pt X2) from Mod.pt (Mod.refl _ _) _)⟩
  clear hE
  have M3 := Lib.hid (M2.out.trans (m3.mono (S := acT t B) (fun _ => False.elim)))
  have H3 := Lib.hid (H2.out.keep0 m3)
  have Q3 := Lib.hid (Q2.out.keep m3 id)
  have R3 := Lib.hid (R2.out.keep m3 id)
  clear m3 M2 H2 Q2 R2
  clear HPL
  clear x0 x1 x2 x3 x4 x5 xl
  obtain ⟨x0, x1, x2, x3, x4, x5, xl⟩ := Q3.out.c6
  (try simp only [GW.to] at x0 x1 x2 x3 x4 x5 xl)
  go_upto_region 9 with fail
  obtain ⟨own4, m4, V4⟩ := start1 ⟨own3, w3⟩ 34 [.bool false, .complex .f64 (0) (0)]
  have m4' : Mod (fun _ => False) (⟨own3, w3⟩ : GW) ⟨own4, w3.alloc (.cells #[.bool false, .complex .f64 (0) (0)] 34)⟩ := m4
  have V4' : Blk ⟨own4, w3.alloc (.cells #[.bool false, .complex .f64 (0) (0)] 34)⟩ 9 w3.heap.size 34 [.bool false, .complex .f64 (0) (0)] := V4
  clear m4 V4
  generalize w3.alloc (.cells #[.bool false, .complex .f64 (0) (0)] 34) = w4 at *
  have m4 := m4'
  clear m4'
  generalize w3.heap.size = qv at *
  have M4 := Lib.hid (M3.out.trans (m4.mono (S := acT t B) (fun _ => False.elim)))
  have H4 := Lib.hid (H3.out.keep0 m4)
  have Q4 := Lib.hid (Q3.out.keep m4 id)
  have R4 := Lib.hid (R3.out.keep m4 id)
  clear m4 M3 H3 Q3 R3
  clear x0 x1 x2 x3 x4 x5 xl
  obtain ⟨x0, x1, x2, x3, x4, x5, xl⟩ := Q4.out.c6
  (try simp only [GW.to] at x0 x1 x2 x3 x4 x5 xl)
  clear V4'
  have HDR := Lib.hid (fun X => space_drain W.a.t ((⟨own4, w4⟩ : GW).pt X) B bsp bt W.K.sp (H4.out.pt X).c.sp P.hb hsp)
  obtain ⟨a0, a1, a2, a3, a4, a5, a6, a7, a8, a9, a10, a11, a12, a13, a14, a15, a16, a17, a18, al⟩ := H4.out.a.blk.c19
  (try simp only [GW.to] at a0 a1 a2 a3 a4 a5 a6 a7 a8 a9 a10 a11 a12 a13 a14 a15 a16 a17 a18 al)
  obtain ⟨c0, c1, c2, c3, c4, c5, c6, c7, c8, c9, c10, c11, c12, cl⟩ := H4.out.c.blk.c13
  (try simp only [GW.to] at c0 c1 c2 c3 c4 c5 c6 c7 c8 c9 c10 c11 c12 cl)
  go_upto_region 33 with fail
  refine wp_region_mixed [true, true, true, true, true, true, true, true, false] 1 8 (by kernel_rfl) (by kernel_rfl) (by kernel_rfl) ?_ (by decide) (by decide) (by decide) (by kernel_rfl) ?_
  · intro c a d v w h; cases d <;> exact h
  intro X00
  simp only [pickOps]
  repeat (go_big_quiet_step (fail))
  refine wpQuiet_nil (fun X0 => ?_)
  clear X00
  refine wpAnyM_tailL rfl (by kernel_rfl) (fun X2 => ?_)
  simp only [List.drop_succ_cons, List.drop_zero]
  go_wp2_with fail
  refine (HDR.out _).mono ?_
  rintro e w5 ⟨rfl, own5, m5, h5⟩
  have P5 := (Mod.pt (Mod.refl _ _) _).trans m5
  have M5 := Lib.hid (M4.out.trans (P5.mono (S := acT t B) (fun x hx => acT_inst hx)))
  have H5 := Lib.hid (H4.out.spc HP.out P5 h5)
  have R5 := Lib.hid (R4.out.keep P5 (fun h => by have := h.1; omega))
  clear P5 m5 h5 HDR M4 H4 R4
  clear a0 a1 a2 a3 a4 a5 a6 a7 a8 a9 a10 a11 a12 a13 a14 a15 a16 a17 a18 al
  clear c0 c1 c2 c3 c4 c5 c6 c7 c8 c9 c10 c11 c12 cl
  clear x0 x1 x2 x3 x4 x5 xl
  have H6 := Lib.hid (H5.out.set HP.out 11 (.int .i64 10) { W.a with at_ := 10 } rfl ⟨rfl, rfl, rfl, rfl, rfl, rfl⟩)
  have m6 : Mod (fun x => x = t) (⟨own5, w5⟩ : GW) ⟨own5, w5.setCell ⟨b, 11, none⟩ (.int .i64 10)⟩ := Mod.st (Mod.refl _ _) H5.out.a.blk.own
  have M6 := Lib.hid (M5.out.trans (m6.mono (S := acT t B) (fun x hx => acT_t hx)))
  have R6 := Lib.hid (R5.out.keep m6 (by omega))
  obtain ⟨a0, a1, a2, a3, a4, a5, a6, a7, a8, a9, a10, a11, a12, a13, a14, a15, a16, a17, a18, al⟩ := H5.out.a.blk.c19
  have af11 := H5.out.a.blk.live 11
  (try simp only [GW.to] at a0 a1 a2 a3 a4 a5 a6 a7 a8 a9 a10 a11 a12 a13 a14 a15 a16 a17 a18 af11 al)
  go_upto_region 35 with fail
  generalize w5.setCell ⟨b, 11, none⟩ (.int .i64 10) = w6 at *
  clear m6 M5 H5 R5
  clear a0 a1 a2 a3 a4 a5 a6 a7 a8 a9 a10 a11 a12 a13 a14 a15 a16 a17 a18 al
  obtain ⟨r0, r1, r2, r3, r4, rl⟩ := R6.out.c5
  have rf0 := R6.out.live 0
  have rf1 := R6.out.live 1
  have rf2 := R6.out.live 2
  have rf3 := R6.out.live 3
  have rf4 := R6.out.live 4
  (try simp only [GW.to] at r0 r1 r2 r3 r4 rf0 rf1 rf2 rf3 rf4 rl)
  go_wp2_with fail
  obtain ⟨Mf, mf, Rf⟩ := put_res M6.out R6.out (Nat.le_succ _) (0) (0) (0) (false) (0) (0)
  generalize ((((((w6).setCell ⟨g.w.heap.size + 1, 0, none⟩ (.int .i64 (0))).setCell ⟨g.w.heap.size + 1, 1, none⟩ (.int .i64 (0))).setCell ⟨g.w.heap.size + 1, 2, none⟩ (.int .i64 (0))).setCell ⟨g.w.heap.size + 1, 3, none⟩ (.bool (false))).setCell ⟨g.w.heap.size + 1, 4, none⟩ (.complex .f64 (0) (0))) = wf at *
  obtain ⟨f0, f1, f2, f3, f4, fl⟩ := Rf.c5
  (try simp only [GW.to] at f0 f1 f2 f3 f4 fl)
  refine bodyPost_ret (v := .tuple #[.agg #[.int .i64 (0), .int .i64 (0), .int .i64 (0), .bool (false), .complex .f64 (0) (0)], .bool false]) (by simp [results, Tryz.results54, go_sem, f0, f1, f2, f3, f4]) rfl ?_
  exact Does.of ⟨own5, wf⟩ rfl (by rw [← hR]; rfl) Mf (by rw [← hR]; exact (H6.out.keep mf (by omega) (fun x (hx : x = 9) => by omega) (fun x (hx : x = 9) => by omega)).at_)
theorem act_finds_o [TbId] (P : AcApart t B) (hmc : 0 ≤ W.K.mem.count ∧ W.K.mem.count ≤ 1099511627776) (hnx : 0 ≤ W.a.next ∧ W.a.next ≤ 1099511627776) (H : AcIn g t B b k W p bm bs bt bp bsp bh cm) (ok oa ob oc on : Int) (x y : Nat) (hob : 0 ≤ ob ∧ ob < W.a.locals.length) (r : AcR) (h : W.finds ⟨ok, oa, ob, oc, on, x, y⟩ = some r) :
    Calls Tryz.prog 55 #[.pointer (some ⟨b, 0, none⟩), .pointer (some ⟨k, 0, none⟩), .agg #[.int .i64 ok, .int .i64 oa, .int .i64 ob, .int .i64 oc, .int .i64 on, .complex .f64 x y]] g.w (Does (resV r.1) g (acT t B) (fun g' => AcWAt g' t B b k r.2)) := by
  unfold AcW.finds at h
  cases hF : W.a.f with
  | none => rw [hF] at h; cases h
  | some F =>
    rw [hF] at h
    simp only at h
    split at h
    case isTrue hc =>
      cases hx : F.stepO W.K.mem with
      | none => rw [hx] at h; cases h
      | some q =>
        obtain ⟨u, F', m'⟩ := q
        rw [hx] at h
        injection h with h
        exact act_finds P hmc hnx H ok oa ob oc on x y hob F hF ⟨hc.1, hc.2.1⟩ hc.2.2 u F' m' hx r h
    case isFalse => cases h
end
end Go.Proofs.YtoaehfdjffejeaaGreat

/-
  act: starts, of a Store.
-/
namespace Go.Proofs.YtoaehfdjffejeaaGreat
open Go Go.RowKit
set_option linter.unusedVariables false
set_option linter.unnecessarySimpa false
set_option linter.unusedSimpArgs false
set_option maxHeartbeats 2000000
set_option maxRecDepth 100000


section
variable {g : GW} {t b B k : Nat} {W : AcW} {p : AcP} {bm bs bt bp bsp bh : Nat} {cm : Cnf}
theorem Cnf.Same.thru {c d e : Cnf} (h : c.Same d) (h2 : d.Same e) : c.Same e := by
  obtain ⟨a1, a2, a3, a4, a5, a6, a7, a8, a9⟩ := h
  obtain ⟨b1, b2, b3, b4, b5, b6, b7, b8, b9⟩ := h2
  exact ⟨a1.trans b1, a2.trans b2, a3.trans b3, a4.trans b4, a5.trans b5, a6.trans b6, a7.trans b7, a8.trans b8, a9.trans b9⟩
def AcW.start4 (W : AcW) (o : Opr) : Option AcR := if W.a.operandsE o ≠ 0 then some (W.fails (W.a.operandsE o)) else (W.withA { W.a with f := some (W.prog o) }).finds o
theorem act_starts_4 [TbId] (P : AcApart t B) (hmc : 0 ≤ W.K.mem.count ∧ W.K.mem.count ≤ 1099511627776) (hnx : 0 ≤ W.a.next ∧ W.a.next ≤ 1099511627776) (H : AcIn g t B b k W p bm bs bt bp bsp bh cm) (hck : W.K.c.check = 0) (oa ob oc on : Int) (x y : Nat) (ho : opOk W.K.c ⟨4, oa, ob, oc, on, x, y⟩ = true) (hoa : 0 ≤ oa ∧ oa < W.a.locals.length) (hob : 0 ≤ ob ∧ ob < W.a.locals.length) (r : AcR) (hok : W.start4 ⟨4, oa, ob, oc, on, x, y⟩ = some r) :
    Calls Tryz.prog 54 #[.pointer (some ⟨b, 0, none⟩), .pointer (some ⟨k, 0, none⟩), .agg #[.int .i64 4, .int .i64 oa, .int .i64 ob, .int .i64 oc, .int .i64 on, .complex .f64 x y]] g.w (Does (resV r.1) g (acT t B) (fun g' => AcWAt g' t B b k r.2)) := by
  obtain ⟨oe, hoe⟩ : ∃ q, W.a.operandsE ⟨4, oa, ob, oc, on, x, y⟩ = q := ⟨_, rfl⟩
  unfold AcW.start4 at hok
  rw [hoe] at hok
  have HH := Lib.hid H
  have HP := Lib.hid P
  have hPt := P.ht
  have hPb := P.hb
  have hPa := P.apart
  go_enter Tryz.func54, Tryz.ntmps54
  go_upto_region 1 with fail
  obtain ⟨own0, m0, Q0, R0⟩ := start2 g 26 36 [.int .i64 4, .int .i64 oa, .int .i64 ob, .int .i64 oc, .int .i64 on, .complex .f64 x y] resZ
  unfold resZ at m0 R0 Q0
  generalize (g.w.alloc (.cells #[.int .i64 4, .int .i64 oa, .int .i64 ob, .int .i64 oc, .int .i64 on, .complex .f64 x y] 26)).alloc (.cells #[.int .i64 0, .int .i64 0, .int .i64 0, .bool false, .complex .f64 0 0] 36) = w0 at *
  have H0 := Lib.hid (HH.out.keep0 m0)
  have M0 := Lib.hid (m0.mono (S := acT t B) (fun _ => False.elim))
  have Q0' := Lib.hid Q0
  have R0' := Lib.hid R0
  have HCK := Lib.hid (fun X => (show Calls Tryz.prog 89 #[cm.val, .agg #[.int .i64 4, .int .i64 oa, .int .i64 ob, .int .i64 oc, .int .i64 on, .complex .f64 x y]] (w0.patch X) (Gives (.int .i64 0) (w0.patch X)) from opChk_4 cm oa ob oc on x y (w0.patch X) (H0.out.c.cnf.ok.ext ⟨X, rfl⟩) (by rw [HH.out.c.same.check]; exact hck) (by rw [opOk_same HH.out.c.same]; exact ho)))
  unfold Cnf.val at HCK
  obtain ⟨c0, c1, c2, c3, c4, c5, c6, c7, c8, c9, c10, c11, c12, cl⟩ := H0.out.c.blk.c13
  (try simp only [GW.to] at c0 c1 c2 c3 c4 c5 c6 c7 c8 c9 c10 c11 c12 cl)
  obtain ⟨x0, x1, x2, x3, x4, x5, xl⟩ := Q0.c6
  (try simp only [GW.to] at x0 x1 x2 x3 x4 x5 xl)
  clear m0 Q0 R0 H
  refine wp_region_mixed [true, true, true, true, true, true, true] 0 7 (by kernel_rfl) (by kernel_rfl) (by kernel_rfl) ?_ (by decide) (by decide) (by decide) (by kernel_rfl) ?_
  · intro c a d v w h; cases d <;> exact h
  intro X00
  simp only [pickOps]
  repeat (go_big_quiet_step ((go_at_call 89; exact Calls.added (HCK.out _))))
  refine wpQuiet_nil (fun X0 => ?_)
  clear X00
  refine wpAnyM_done (by kernel_rfl) (fun X0' => ?_) _
  (try go_simp)
  obtain ⟨own1, m1⟩ : ∃ ownZ, Mod (fun _ => False) (⟨own0, w0⟩ : GW) ⟨ownZ, w0.patch ⟨X0.blocks ++ X0'.blocks, X0'.drawn⟩⟩ := ⟨_, Mod.pt (g := ⟨own0, w0⟩) (Mod.refl _ _) _⟩
  have M1 := Lib.hid (M0.out.trans (m1.mono (S := acT t B) (fun _ => False.elim)))
  have H1 := Lib.hid (H0.out.keep0 m1)
  have Q1 := Lib.hid (Q0'.out.keep m1 id)
  have R1 := Lib.hid (R0'.out.keep m1 id)
  generalize w0.patch ⟨X0.blocks ++ X0'.blocks, X0'.drawn⟩ = w1 at *
  clear m1 M0 H0 Q0' R0' HCK
  clear x0 x1 x2 x3 x4 x5 xl
  clear c0 c1 c2 c3 c4 c5 c6 c7 c8 c9 c10 c11 c12 cl
  obtain ⟨x0, x1, x2, x3, x4, x5, xl⟩ := Q1.out.c6
  (try simp only [GW.to] at x0 x1 x2 x3 x4 x5 xl)
  have HOP := Lib.hid (show Calls Tryz.prog 90 #[.pointer (some ⟨b, 0, none⟩), .agg #[.int .i64 4, .int .i64 oa, .int .i64 ob, .int .i64 oc, .int .i64 on, .complex .f64 x y]] w1 (Gives (.int .i64 oe) w1) from by rw [← hoe]; exact operands_4 ⟨own1, w1⟩ t b W.a p H1.out.a oa ob oc on x y hoa)
  clear hoe
  by_cases he : oe = 0
  case neg =>
    rw [if_pos he] at hok
    injection hok with hok
    have hz : (oe != 0) = true := by simp [he]
    go_wp2_with fail
    refine HOP.out.mono ?_
    rintro e w2 ⟨rfl, hE⟩
    obtain ⟨own2, m2⟩ : ∃ ownZ, Mod (fun _ => False) (⟨own1, w1⟩ : GW) ⟨ownZ, w2⟩ := by
      obtain ⟨X2, rfl⟩ := hE
      exact ⟨((⟨own1, w1⟩ : GW).pt X2).own, (show Mod (fun _ => False) (⟨own1, w1⟩ : GW) ((⟨own1, w1⟩ : GW).pt X2) from Mod.pt (Mod.refl _ _) _)⟩
    clear hE
    have M2 := Lib.hid (M1.out.trans (m2.mono (S := acT t B) (fun _ => False.elim)))
    have H2 := Lib.hid (H1.out.keep0 m2)
    have Q2 := Lib.hid (Q1.out.keep m2 id)
    have R2 := Lib.hid (R1.out.keep m2 id)
    clear m2 M1 H1 Q1 R1
    clear HOP he
    clear x0 x1 x2 x3 x4 x5 xl
    obtain ⟨rr, hr⟩ : ∃ r, W.a.res LVal.zero oe = r := ⟨_, rfl⟩
    have HFL := Lib.hid (show Calls Tryz.prog 64 #[.pointer (some ⟨b, 0, none⟩), .int .i64 oe] w2 (Does (.tuple #[.agg #[.int .i64 rr.op, .int .i64 rr.own, .int .i64 rr.e, .bool rr.v.ref, .complex .f64 rr.v.z.1 rr.v.z.2], .bool true]) ⟨own2, w2⟩ (acO t) (fun g' => AcAt g' t b _ p)) from act_fails ⟨own2, w2⟩ t b _ p oe rr hPt H2.out.a hnx hr)
    have HRr := Lib.hid hr
    clear hr
    go_wp2_with fail
    refine HFL.out.mono ?_
    rintro e w3 ⟨rfl, own3, m3, h3⟩
    have M3 := Lib.hid (M2.out.trans (m3.mono (S := acT t B) (fun x hx => acT_own hx)))
    have H3 := Lib.hid (H2.out.own HP.out m3 h3)
    have R3 := Lib.hid (R2.out.keep m3 (fun h => by unfold acO at h; omega))
    clear M2 H2 R2 m3 h3 HFL
    obtain ⟨r0, r1, r2, r3, r4, rl⟩ := R3.out.c5
    have rf0 := R3.out.live 0
    have rf1 := R3.out.live 1
    have rf2 := R3.out.live 2
    have rf3 := R3.out.live 3
    have rf4 := R3.out.live 4
    (try simp only [GW.to] at r0 r1 r2 r3 r4 rf0 rf1 rf2 rf3 rf4 rl)
    go_wp2_with fail
    obtain ⟨Mf, mf, Rf⟩ := put_res M3.out R3.out (Nat.le_succ _) (rr.op) (rr.own) (rr.e) (rr.v.ref) (rr.v.z.1) (rr.v.z.2)
    generalize ((((((w3).setCell ⟨g.w.heap.size + 1, 0, none⟩ (.int .i64 (rr.op))).setCell ⟨g.w.heap.size + 1, 1, none⟩ (.int .i64 (rr.own))).setCell ⟨g.w.heap.size + 1, 2, none⟩ (.int .i64 (rr.e))).setCell ⟨g.w.heap.size + 1, 3, none⟩ (.bool (rr.v.ref))).setCell ⟨g.w.heap.size + 1, 4, none⟩ (.complex .f64 (rr.v.z.1) (rr.v.z.2))) = wf at *
    obtain ⟨f0, f1, f2, f3, f4, fl⟩ := Rf.c5
    (try simp only [GW.to] at f0 f1 f2 f3 f4 fl)
    refine bodyPost_ret (v := .tuple #[.agg #[.int .i64 (rr.op), .int .i64 (rr.own), .int .i64 (rr.e), .bool (rr.v.ref), .complex .f64 (rr.v.z.1) (rr.v.z.2)], .bool true]) (by simp [results, Tryz.results54, go_sem, f0, f1, f2, f3, f4]) rfl ?_
    exact Does.of ⟨own3, wf⟩ rfl (by rw [← hok, ← HRr.out]; rfl) Mf (by rw [← hok]; exact (H3.out.keep mf (by omega) (fun x (hx : x = 9) => by omega) (fun x (hx : x = 9) => by omega)).at_)
  rw [if_neg (by rw [he]; exact fun h => h rfl)] at hok
  subst he
  go_wp2_with fail
  refine HOP.out.mono ?_
  rintro e w2 ⟨rfl, hE⟩
  obtain ⟨own2, m2⟩ : ∃ ownZ, Mod (fun _ => False) (⟨own1, w1⟩ : GW) ⟨ownZ, w2⟩ := by
    obtain ⟨X2, rfl⟩ := hE
    exact ⟨((⟨own1, w1⟩ : GW).pt X2).own, (show Mod (fun _ => False) (⟨own1, w1⟩ : GW) ((⟨own1, w1⟩ : GW).pt X2) from Mod.pt (Mod.refl _ _) _)⟩
  clear hE
  have M2 := Lib.hid (M1.out.trans (m2.mono (S := acT t B) (fun _ => False.elim)))
  have H2 := Lib.hid (H1.out.keep0 m2)
  have Q2 := Lib.hid (Q1.out.keep m2 id)
  have R2 := Lib.hid (R1.out.keep m2 id)
  clear m2 M1 H1 Q1 R1
  clear HOP
  clear x0 x1 x2 x3 x4 x5 xl
  have HPL := Lib.hid (show Calls Tryz.prog 91 #[.pointer (some ⟨b, 0, none⟩), .agg #[.int .i64 4, .int .i64 oa, .int .i64 ob, .int .i64 oc, .int .i64 on, .complex .f64 x y]] w2 (Gives (.tuple #[.agg #[.bool false, .complex .f64 (0) (0)], .bool false]) w2) from plain_4 ⟨own2, w2⟩ t b W.a p H2.out.a oa ob oc on x y)
  obtain ⟨x0, x1, x2, x3, x4, x5, xl⟩ := Q2.out.c6
  (try simp only [GW.to] at x0 x1 x2 x3 x4 x5 xl)
  go_wp2_with fail
  refine HPL.out.mono ?_
  rintro e w3 ⟨rfl, hE⟩
  obtain ⟨own3, m3⟩ : ∃ ownZ, Mod (fun _ => False) (⟨own2, w2⟩ : GW) ⟨ownZ, w3⟩ := by
    obtain ⟨X2, rfl⟩ := hE
    exact ⟨((⟨own2, w2⟩ : GW).pt X2).own, (show Mod (fun _ => False) (⟨own2, w2⟩ : GW) ((⟨own2, w2⟩ : GW).pt X2) from Mod.pt (Mod.refl _ _) _)⟩
  clear hE
  have M3 := Lib.hid (M2.out.trans (m3.mono (S := acT t B) (fun _ => False.elim)))
  have H3 := Lib.hid (H2.out.keep0 m3)
  have Q3 := Lib.hid (Q2.out.keep m3 id)
  have R3 := Lib.hid (R2.out.keep m3 id)
  clear m3 M2 H2 Q2 R2
  clear HPL
  clear x0 x1 x2 x3 x4 x5 xl
  obtain ⟨x0, x1, x2, x3, x4, x5, xl⟩ := Q3.out.c6
  (try simp only [GW.to] at x0 x1 x2 x3 x4 x5 xl)
  go_upto_region 9 with fail
  obtain ⟨own4, m4, V4⟩ := start1 ⟨own3, w3⟩ 34 [.bool false, .complex .f64 (0) (0)]
  have m4' : Mod (fun _ => False) (⟨own3, w3⟩ : GW) ⟨own4, w3.alloc (.cells #[.bool false, .complex .f64 (0) (0)] 34)⟩ := m4
  have V4' : Blk ⟨own4, w3.alloc (.cells #[.bool false, .complex .f64 (0) (0)] 34)⟩ 9 w3.heap.size 34 [.bool false, .complex .f64 (0) (0)] := V4
  clear m4 V4
  generalize w3.alloc (.cells #[.bool false, .complex .f64 (0) (0)] 34) = w4 at *
  have m4 := m4'
  clear m4'
  generalize w3.heap.size = qv at *
  have M4 := Lib.hid (M3.out.trans (m4.mono (S := acT t B) (fun _ => False.elim)))
  have H4 := Lib.hid (H3.out.keep0 m4)
  have Q4 := Lib.hid (Q3.out.keep m4 id)
  have R4 := Lib.hid (R3.out.keep m4 id)
  clear m4 M3 H3 Q3 R3
  clear x0 x1 x2 x3 x4 x5 xl
  obtain ⟨x0, x1, x2, x3, x4, x5, xl⟩ := Q4.out.c6
  (try simp only [GW.to] at x0 x1 x2 x3 x4 x5 xl)
  clear V4'
  have HPG := Lib.hid (show Calls Tryz.prog 94 #[.pointer (some ⟨k, 0, none⟩), .agg #[.int .i64 4, .int .i64 oa, .int .i64 ob, .int .i64 oc, .int .i64 on, .complex .f64 x y], .func (.func 95) #[.pointer (some ⟨b, 0, none⟩)] #[]] w4 (FindMade cm (W.a.head oa) on false (W.a.head oa) (t + 2) ⟨own4, w4⟩) from act_program_4 (g := ⟨own4, w4⟩) P H4.out hck oa ob oc on x y hoa)
  have HPR := Lib.hid (show W.prog ⟨4, oa, ob, oc, on, x, y⟩ = FindS.fresh W.K.c (W.a.head oa) on false (W.a.head oa) from rfl)
  rw [HPR.out] at hok
  generalize W.a.head oa = hd at *
  go_wp2_with fail
  refine HPG.out.mono ?_
  rintro e w5 ⟨own5, bf, cf, rfl, m5, h5, hs⟩
  have M5 := Lib.hid (M4.out.trans (m5.mono (S := acT t B) (fun _ => False.elim)))
  have H5 := Lib.hid (H4.out.keep0 m5)
  have Q5 := Lib.hid (Q4.out.keep m5 id)
  have R5 := Lib.hid (R4.out.keep m5 id)
  clear m5 M4 H4 Q4 R4
  have HF5 := Lib.hid h5
  have HS5 := Lib.hid hs
  clear h5 hs HPG
  clear x0 x1 x2 x3 x4 x5 xl
  have r6 : AcRows ⟨own5, w5⟩ t { W.a with f := some (FindS.fresh W.K.c hd on false hd) } { p with fp := some ⟨bf, 0, none⟩ } := by
    obtain ⟨r1, r2, r3, r4, r5, r6, r7, r8, r9, r10, r11, r12⟩ := H5.out.a.r
    exact ⟨r1, r2, r3, r4, r5, (fun h => by cases h), (fun S hS => by
      injection hS with hS
      subst hS
      exact ⟨bf, cf, rfl, Cnf.Same.thru HS5.out H5.out.c.same, HF5.out⟩), r8, r9, r10, r11, r12⟩
  have H6 := Lib.hid (H5.out.turn (A' := { W.a with f := some (FindS.fresh W.K.c hd on false hd) }) (p' := { p with fp := some ⟨bf, 0, none⟩ }) HP.out (g' := ⟨own5, w5.setCell ⟨b, 12, none⟩ (.pointer (some ⟨bf, 0, none⟩))⟩) (Mod.st (Mod.refl _ _) H5.out.a.blk.own) (H5.out.a.blk.set 12 (.pointer (some ⟨bf, 0, none⟩))) r6)
  have m6 : Mod (fun x => x = t) (⟨own5, w5⟩ : GW) ⟨own5, w5.setCell ⟨b, 12, none⟩ (.pointer (some ⟨bf, 0, none⟩))⟩ := Mod.st (Mod.refl _ _) H5.out.a.blk.own
  have M6 := Lib.hid (M5.out.trans (m6.mono (S := acT t B) (fun x hx => acT_t hx)))
  have R6 := Lib.hid (R5.out.keep m6 (by omega))
  have Q6 := Lib.hid (Q5.out.keep m6 (by omega))
  obtain ⟨a0, a1, a2, a3, a4, a5, a6, a7, a8, a9, a10, a11, a12, a13, a14, a15, a16, a17, a18, al⟩ := H5.out.a.blk.c19
  have af12 := H5.out.a.blk.live 12
  (try simp only [GW.to] at a0 a1 a2 a3 a4 a5 a6 a7 a8 a9 a10 a11 a12 a13 a14 a15 a16 a17 a18 af12 al)
  go_upto_region 18 with fail
  generalize w5.setCell ⟨b, 12, none⟩ (.pointer (some ⟨bf, 0, none⟩)) = w6 at *
  clear m6 M5 H5 R5 Q5 r6 HF5 HS5 af12
  clear a0 a1 a2 a3 a4 a5 a6 a7 a8 a9 a10 a11 a12 a13 a14 a15 a16 a17 a18 al
  obtain ⟨⟨rr, rb⟩, rW⟩ := r
  have HFN := Lib.hid (show Calls Tryz.prog 55 #[.pointer (some ⟨b, 0, none⟩), .pointer (some ⟨k, 0, none⟩), .agg #[.int .i64 4, .int .i64 oa, .int .i64 ob, .int .i64 oc, .int .i64 on, .complex .f64 x y]] w6 (Does (.tuple #[.agg #[.int .i64 rr.op, .int .i64 rr.own, .int .i64 rr.e, .bool rr.v.ref, .complex .f64 rr.v.z.1 rr.v.z.2], .bool rb]) ⟨own5, w6⟩ (acT t B) (fun g' => AcWAt g' t B b k rW)) from act_finds_o (g := ⟨own5, w6⟩) (W := W.withA { W.a with f := some (FindS.fresh W.K.c hd on false hd) }) P hmc hnx H6.out 4 oa ob oc on x y hob ((rr, rb), rW) hok)
  obtain ⟨x0, x1, x2, x3, x4, x5, xl⟩ := Q6.out.c6
  (try simp only [GW.to] at x0 x1 x2 x3 x4 x5 xl)
  go_wp2_with fail
  refine HFN.out.mono ?_
  rintro e w7 ⟨rfl, own7, m7, h7⟩
  have M7 := Lib.hid (M6.out.trans m7)
  have H7 := Lib.hid h7
  have R7 := Lib.hid (R6.out.keep m7 (fun h => by unfold acT at h; omega))
  clear M6 H6 R6 m7 h7 HFN
  clear x0 x1 x2 x3 x4 x5 xl
  obtain ⟨r0, r1, r2, r3, r4, rl⟩ := R7.out.c5
  have rf0 := R7.out.live 0
  have rf1 := R7.out.live 1
  have rf2 := R7.out.live 2
  have rf3 := R7.out.live 3
  have rf4 := R7.out.live 4
  (try simp only [GW.to] at r0 r1 r2 r3 r4 rf0 rf1 rf2 rf3 rf4 rl)
  go_wp2_with fail
  obtain ⟨Mf, mf, Rf⟩ := put_res M7.out R7.out (Nat.le_succ _) (rr.op) (rr.own) (rr.e) (rr.v.ref) (rr.v.z.1) (rr.v.z.2)
  generalize ((((((w7).setCell ⟨g.w.heap.size + 1, 0, none⟩ (.int .i64 (rr.op))).setCell ⟨g.w.heap.size + 1, 1, none⟩ (.int .i64 (rr.own))).setCell ⟨g.w.heap.size + 1, 2, none⟩ (.int .i64 (rr.e))).setCell ⟨g.w.heap.size + 1, 3, none⟩ (.bool (rr.v.ref))).setCell ⟨g.w.heap.size + 1, 4, none⟩ (.complex .f64 (rr.v.z.1) (rr.v.z.2))) = wf at *
  obtain ⟨f0, f1, f2, f3, f4, fl⟩ := Rf.c5
  (try simp only [GW.to] at f0 f1 f2 f3 f4 fl)
  refine bodyPost_ret (v := .tuple #[.agg #[.int .i64 (rr.op), .int .i64 (rr.own), .int .i64 (rr.e), .bool (rr.v.ref), .complex .f64 (rr.v.z.1) (rr.v.z.2)], .bool rb]) (by simp [results, Tryz.results54, go_sem, f0, f1, f2, f3, f4]) rfl ?_
  obtain ⟨p5, bm5, bs5, bt5, bp5, bsp5, bh5, cm5, h8⟩ := H7.out
  exact Does.of ⟨own7, wf⟩ rfl rfl Mf ((h8.keep mf (by omega) (fun x (hx : x = 9) => by omega) (fun x (hx : x = 9) => by omega)).at_)
end
end Go.Proofs.YtoaehfdjffejeaaGreat

