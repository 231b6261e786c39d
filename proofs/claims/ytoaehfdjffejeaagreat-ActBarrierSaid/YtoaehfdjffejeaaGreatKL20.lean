import Derived.Test.YtoaehfdjffejeaaGreatKL19
/-
  Packed: ActK.
-/
open Go.Ext renaming alloc → zA, patch → zP, drew → zD, drewN → zN, more → zM, refl → zR, setCell → zS
open Nat renaming le_refl → zL, le_add_right → zK
/-
  act: chooses; finds.
-/
namespace Go.Proofs.YtoaehfdjffejeaaGreat
open Go Go.RowKit
set_option linter.unusedVariables false
set_option linter.unnecessarySimpa false
set_option linter.unusedSimpArgs false
set_option maxHeartbeats 2000000
set_option maxRecDepth 100000

section
variable {g : GW} {t b B k : Nat} {A : AcS} {p : AcP}
theorem act_chooses (ht : 100 ≤ t) (H : AcAt g t b A p) (ok oa ob oc on : Int) (x y : Nat) (hob : 0 ≤ ob ∧ ob < A.locals.length) :
    Calls Tryz.prog 96 #[.pointer (some ⟨b, 0, none⟩), .agg #[.int .i64 ok, .int .i64 oa, .int .i64 ob, .int .i64 oc, .int .i64 on, .complex .f64 x y]] g.w (Does (.tuple #[]) g (acO t) (fun g' => AcAt g' t b (A.chooses ⟨ok, oa, ob, oc, on, x, y⟩) p)) := by
  obtain ⟨i, rfl⟩ : ∃ i : Nat, ob = i := ⟨ob.toNat, by omega⟩
  have hi : i < A.locals.length := by omega
  have HD := Lib.hid (show A.chooses ⟨ok, oa, i, oc, on, x, y⟩ = { A with w := (A.loc i).z, at_ := if A.ref && A.shades then 3 else 6 } from rfl)
  have HH := Lib.hid H
  go_enter Tryz.func96, Tryz.ntmps96
  go_upto_region 1 with fail
  obtain ⟨own0, M0, Q0⟩ := start1 g 26 [.int .i64 ok, .int .i64 oa, .int .i64 i, .int .i64 oc, .int .i64 on, .complex .f64 x y]
  generalize g.w.alloc (.cells #[.int .i64 ok, .int .i64 oa, .int .i64 i, .int .i64 oc, .int .i64 on, .complex .f64 x y] 26) = w0 at *
  have H0 := Lib.hid (HH.out.keep M0 id (fun _ => False.elim))
  obtain ⟨q, hA, hq, -, k0, k1, -⟩ := H0.out.r.local_ hi
  simp only at k1 hq
  obtain ⟨a0, a1, a2, a3, a4, a5, a6, a7, a8, a9, a10, a11, a12, a13, a14, a15, a16, a17, a18, al⟩ := H0.out.blk.c19
  have af16 := H0.out.blk.live 16
  have af11 := H0.out.blk.live 11
  (try simp only [GW.to] at a0 a1 a2 a3 a4 a5 a6 a7 a8 a9 a10 a11 a12 a13 a14 a15 a16 a17 a18 af16 af11 al)
  obtain ⟨x0, x1, x2, x3, x4, x5, xl⟩ := Q0.c6
  (try simp only [GW.to] at x0 x1 x2 x3 x4 x5 xl)
  rw [hA] at a2
  have M0' := Lib.hid (M0.mono (S := acO t) (fun _ => False.elim))
  clear M0 Q0 hA k0 H hob
  generalize A.loc i = v at *
  obtain ⟨vr, z1, z2⟩ := v
  simp only at k1 HD
  generalize A.locals.length = nl at *
  refine wp_region_split_any [1] [true, false, true, true, true, true, true, true, true, true, true] 11 ?sp_o 7 ?sp1 ?sp2 ?spE ?sp3 ?sp4 ?sp5 ?sp6 ?sp7 ?sp8 ?sp9 ?sp10 ?sp11 ?sp12
  case sp10 => exact rfl
  case sp1 => kernel_rfl
  case sp2 => kernel_rfl
  case spE => kernel_rfl
  case sp3 => kernel_rfl
  case sp4 => (intro c a d v w h; cases d <;> exact h)
  case sp5 => decide
  case sp6 => decide
  case sp7 => decide
  case sp8 => kernel_rfl
  case sp9 => kernel_rfl
  case sp11 => exact rfl
  intro X00
  simp only [pickOps, movesAct, moveOf, List.getElem?_toArray, List.getElem?_cons_zero, List.getElem?_cons_succ]
  (try go_simp)
  repeat (go_big_quiet_step (fail))
  refine wpQuiet_nil (fun X0 K Q' hK => ?_)
  clear X00
  (try go_simp)
  (try go_simp)
  refine hK _ _ ?_
  clear hK K Q'
  refine wpAny_loud_step 12 _ (by kernel_rfl) rfl rfl (fun K Q' hK => ?_)
  (try go_simp)
  refine hK _ _ ?_
  clear hK K Q'
  refine wpAny_loud_step 13 _ (by kernel_rfl) rfl rfl (fun K Q' hK => ?_)
  (try go_simp)
  refine hK _ _ ?_
  clear hK K Q'
  refine wpAny_loud_step 14 _ (by kernel_rfl) rfl rfl (fun K Q' hK => ?_)
  (try go_simp)
  refine hK _ _ ?_
  clear hK K Q'
  refine wpAny_loud_step 15 _ (by kernel_rfl) rfl rfl (fun K Q' hK => ?_)
  (try go_simp)
  refine hK _ _ ?_
  clear hK K Q'
  refine wpAny_loud_step 16 _ (by kernel_rfl) rfl rfl (fun K Q' hK => ?_)
  (try go_simp)
  refine hK _ _ ?_
  clear hK K Q'
  refine wpAny_loud_step 17 _ (by kernel_rfl) rfl rfl (fun K Q' hK => ?_)
  (try go_simp)
  refine hK _ _ ?_
  clear hK K Q'
  refine wpAny_loud_step 18 _ (by kernel_rfl) rfl rfl (fun K Q' hK => ?_)
  (try go_simp)
  refine hK _ _ ?_
  clear hK K Q'
  refine wpAny_done (by kernel_rfl) ?_ _
  have H1 := Lib.hid ((H0.out.set ht 16 (.complex .f64 z1 z2) { A with w := (z1, z2) } rfl ⟨rfl, rfl, rfl, rfl, rfl, rfl⟩).set ht 11 (.int .i64 6) { A with w := (z1, z2), at_ := 6 } rfl ⟨rfl, rfl, rfl, rfl, rfl, rfl⟩)
  have M1 := Lib.hid (show Mod (acO t) g ⟨own0, (w0.setCell ⟨b, 16, none⟩ (.complex .f64 z1 z2)).setCell ⟨b, 11, none⟩ (.int .i64 6)⟩ from Mod.st (Mod.st M0'.out (Or.inl H0.out.blk.own)) (Or.inl H0.out.blk.own))
  obtain ⟨own2, m2⟩ : ∃ own2, Mod (fun _ => False) (⟨own0, (w0.setCell ⟨b, 16, none⟩ (.complex .f64 z1 z2)).setCell ⟨b, 11, none⟩ (.int .i64 6)⟩ : GW) ⟨own2, ((w0.setCell ⟨b, 16, none⟩ (.complex .f64 z1 z2)).setCell ⟨b, 11, none⟩ (.int .i64 6)).patch X0⟩ := ⟨_, Mod.pt (g := ⟨own0, (w0.setCell ⟨b, 16, none⟩ (.complex .f64 z1 z2)).setCell ⟨b, 11, none⟩ (.int .i64 6)⟩) (Mod.refl _ _) _⟩
  generalize ((w0.setCell ⟨b, 16, none⟩ (.complex .f64 z1 z2)).setCell ⟨b, 11, none⟩ (.int .i64 6)).patch X0 = w2 at *
  have H2 := Lib.hid (show AcAt ⟨own2, w2⟩ t b { A with w := (z1, z2), at_ := 6 } p from H1.out.keep m2 id (fun _ => False.elim))
  have M2 := Lib.hid (M1.out.trans (m2.mono (S := acO t) (fun _ => False.elim)))
  have HSH := Lib.hid (show Calls Tryz.prog 141 #[.pointer (some ⟨b, 0, none⟩)] w2 (fun e w' => e = .returned (.bool A.shades) ∧ w2 = w') from (show A.shades = AcS.shades { A with w := (z1, z2), at_ := 6 } from rfl) ▸ act_shades ⟨own2, w2⟩ t b { A with w := (z1, z2), at_ := 6 } p H2.out)
  clear m2 H1 M1 H0 M0' a0 a1 a2 a3 a4 a5 a6 a7 a8 a9 a10 a11 a12 a13 a14 a15 a16 a17 a18 af16 af11 al x0 x1 x2 x3 x4 x5 xl k1 hq
  obtain ⟨a0, a1, a2, a3, a4, a5, a6, a7, a8, a9, a10, a11, a12, a13, a14, a15, a16, a17, a18, al⟩ := H2.out.blk.c19
  have af11 := H2.out.blk.live 11
  (try simp only [GW.to] at a0 a1 a2 a3 a4 a5 a6 a7 a8 a9 a10 a11 a12 a13 a14 a15 a16 a17 a18 af11 al)
  cases hr : A.ref
  · have HD2 := Lib.hid (show A.chooses ⟨ok, oa, i, oc, on, x, y⟩ = { A with w := (z1, z2), at_ := 6 } by rw [HD.out, hr]; rfl)
    rw [show ({ A with w := (z1, z2), at_ := 6 } : AcS).ref = false from hr] at a14
    clear hr
    go_wp2_with fail
    exact bodyPost_end (results_none rfl _ _ _) rfl (Does.of ⟨own2, w2⟩ rfl rfl M2.out (by rw [HD2.out]; exact H2.out))
  · rw [show ({ A with w := (z1, z2), at_ := 6 } : AcS).ref = true from hr] at a14
    go_wp2_with fail
    refine HSH.out.mono ?_
    rintro e w' ⟨rfl, rfl⟩
    cases hs : A.shades
    · have HD2 := Lib.hid (show A.chooses ⟨ok, oa, i, oc, on, x, y⟩ = { A with w := (z1, z2), at_ := 6 } by rw [HD.out, hr, hs]; rfl)
      clear hr hs
      go_wp2_with fail
      exact bodyPost_end (results_none rfl _ _ _) rfl (Does.of ⟨own2, w2⟩ rfl rfl M2.out (by rw [HD2.out]; exact H2.out))
    · have HD2 := Lib.hid (show A.chooses ⟨ok, oa, i, oc, on, x, y⟩ = { A with w := (z1, z2), at_ := 3 } by rw [HD.out, hr, hs]; rfl)
      have H3 := Lib.hid (H2.out.set ht 11 (.int .i64 3) { A with w := (z1, z2), at_ := 3 } rfl ⟨rfl, rfl, rfl, rfl, rfl, rfl⟩)
      have M3 := Lib.hid (show Mod (acO t) g ⟨own2, w2.setCell ⟨b, 11, none⟩ (.int .i64 3)⟩ from Mod.st M2.out (Or.inl H2.out.blk.own))
      clear hr hs
      go_wp2_with fail
      exact bodyPost_end (results_none rfl _ _ _) rfl (Does.of ⟨own2, _⟩ rfl rfl M3.out (by rw [HD2.out]; exact H3.out))
end
theorem stepO_c {S : FindS} {m : MemS} {x : Bool × FindS × MemS} (h : S.stepO m = some x) : x.2.1.c = S.c := by
  have h1 := FindS.stepO_same (S := S) (cm := S.c) ⟨rfl, rfl, rfl, rfl, rfl, rfl, rfl, rfl, rfl⟩ m
  rw [show S.withC S.c = S from rfl, h] at h1
  injection h1 with h1
  rw [h1]
  rfl
section
variable {g : GW} {t b B k : Nat} {W : AcW} {p : AcP} {bm bs bt bp bsp bh : Nat} {cm : Cnf}
theorem AcIn.found [TbId] {g' : GW} (H : AcIn g t B b k W p bm bs bt bp bsp bh cm) (P : AcApart t B) (m : Mod (fun x => x = t + 2 ∨ x = B + 62) g g') {F : FindS} {M : MemS} {bf : Nat} {cf : Cnf} (hp : p.fp = some ⟨bf, 0, none⟩) (hs : cf.Same F.c) (hf : FindAt g' (t + 2) bf (F.withC cf)) (hm : MemAt g' (B + 62) bm M) (hsome : W.a.f ≠ none) :
    AcIn g' t B b k ((W.memW M).withA { W.a with f := some F }) p bm bs bt bp bsp bh cm := by
  have hPa := P.apart
  have hPt := P.ht
  have hPb := P.hb
  obtain ⟨r1, r2, r3, r4, r5, r6, r7, r8, r9, r10, r11, r12⟩ := H.a.r
  refine ⟨⟨H.a.blk.keep m (by omega), ⟨r1.keep m (by omega), r2, r3.keep m (by omega), r4.keep m (by omega), r5, (fun h => by cases h), (fun S hS => ?_), r8.keep m (by omega), r9, r10.keep m (by omega), r11, r12⟩⟩, ?_, H.tbl⟩
  · injection hS with hS
    subst hS
    exact ⟨bf, cf, hp, hs, hf⟩
  · have h := H.c
    exact ⟨h.blk.keep m (by omega), hm, h.sh.keep m (by omega), h.pile.keep m (by omega), h.sp.keep m (fun x hx => by omega), h.hand.keep m (by omega), h.cnf.keep m (by omega), h.same⟩
theorem act_finds [TbId] (P : AcApart t B) (hmc : 0 ≤ W.K.mem.count ∧ W.K.mem.count ≤ 1099511627776) (hnx : 0 ≤ W.a.next ∧ W.a.next ≤ 1099511627776) (H : AcIn g t B b k W p bm bs bt bp bsp bh cm) (ok oa ob oc on : Int) (x y : Nat) (hob : 0 ≤ ob ∧ ob < W.a.locals.length) (F : FindS) (hF : W.a.f = some F) (hs : 0 ≤ F.steps ∧ F.steps ≤ 1099511627776) (hkb : -9223372036854775808 ≤ F.k ∧ F.k ≤ 9223372036854775807) (u : Bool) (F' : FindS) (m' : MemS) (hx : F.stepO W.K.mem = some (u, F', m')) (R : AcR) (hR : W.found ⟨ok, oa, ob, oc, on, x, y⟩ (u, F', m') = R) :
    Calls Tryz.prog 55 #[.pointer (some ⟨b, 0, none⟩), .pointer (some ⟨k, 0, none⟩), .agg #[.int .i64 ok, .int .i64 oa, .int .i64 ob, .int .i64 oc, .int .i64 on, .complex .f64 x y]] g.w (Does (resV R.1) g (acT t B) (fun g' => AcWAt g' t B b k R.2)) := by
  have HH := Lib.hid H
  have HP := Lib.hid P
  have hPt := P.ht
  have hPb := P.hb
  have hPa := P.apart
  have HR := Lib.hid hR
  have HNX := Lib.hid hnx
  have hFc := stepO_c hx
  simp only at hFc
  go_enter Tryz.func55, Tryz.ntmps55
  go_upto_region 1 with fail
  obtain ⟨own0, M0, Q0, R0⟩ := start2 g 26 36 [.int .i64 ok, .int .i64 oa, .int .i64 ob, .int .i64 oc, .int .i64 on, .complex .f64 x y] resZ
  unfold resZ at M0 R0 Q0
  generalize (g.w.alloc (.cells #[.int .i64 ok, .int .i64 oa, .int .i64 ob, .int .i64 oc, .int .i64 on, .complex .f64 x y] 26)).alloc (.cells #[.int .i64 0, .int .i64 0, .int .i64 0, .bool false, .complex .f64 0 0] 36) = w0 at *
  have H0 := Lib.hid (HH.out.keep0 M0)
  have m1 : Mod (fun x => x = t) (⟨own0, w0⟩ : GW) ⟨own0, w0.setCell ⟨b, 11, none⟩ (.int .i64 1)⟩ := Mod.st (Mod.refl _ _) H0.out.a.blk.own
  have H1 := Lib.hid (H0.out.set HP.out 11 (.int .i64 1) { W.a with at_ := 1 } rfl ⟨rfl, rfl, rfl, rfl, rfl, rfl⟩)
  have M1 := Lib.hid ((M0.mono (S := acT t B) (fun _ => False.elim)).trans (m1.mono (S := acT t B) (fun x hx => acT_t hx)))
  have Q1 := Lib.hid (Q0.keep m1 (by omega))
  have R1 := Lib.hid (R0.keep m1 (by omega))
  obtain ⟨a0, a1, a2, a3, a4, a5, a6, a7, a8, a9, a10, a11, a12, a13, a14, a15, a16, a17, a18, al⟩ := H0.out.a.blk.c19
  have af11 := H0.out.a.blk.live 11
  (try simp only [GW.to] at a0 a1 a2 a3 a4 a5 a6 a7 a8 a9 a10 a11 a12 a13 a14 a15 a16 a17 a18 af11 al)
  clear M0 Q0 R0 m1 H0 H P hR hnx
  go_upto_region 2 with fail
  generalize w0.setCell ⟨b, 11, none⟩ (.int .i64 1) = w1 at *
  clear af11
  clear a0 a1 a2 a3 a4 a5 a6 a7 a8 a9 a10 a11 a12 a13 a14 a15 a16 a17 a18 al
  obtain ⟨bf, cf, hfp, hsm, hfa⟩ := H1.out.a.r.fs F hF
  have HK := Lib.hid (fun X => find_step_o ((⟨own0, w1⟩ : GW).pt X) (F.withC cf) W.K.mem (u, F'.withC cf, m') (t := t + 2) (tm := B + 62) (bm := bm) (b := bf) (hfa.keep (Mod.pt (Mod.refl (fun _ => False) _) _) id id) (H1.out.pt X).c.mem hs hmc (by omega) (by omega) hkb (by rw [FindS.stepO_same hsm, hx]; rfl))
  simp only at HK
  have HFP := Lib.hid hfp
  have HSM := Lib.hid (show cf.Same F'.c by rw [hFc]; exact hsm)
  obtain ⟨a0, a1, a2, a3, a4, a5, a6, a7, a8, a9, a10, a11, a12, a13, a14, a15, a16, a17, a18, al⟩ := H1.out.a.blk.c19
  (try simp only [GW.to] at a0 a1 a2 a3 a4 a5 a6 a7 a8 a9 a10 a11 a12 a13 a14 a15 a16 a17 a18 al)
  obtain ⟨c0, c1, c2, c3, c4, c5, c6, c7, c8, c9, c10, c11, c12, cl⟩ := H1.out.c.blk.c13
  (try simp only [GW.to] at c0 c1 c2 c3 c4 c5 c6 c7 c8 c9 c10 c11 c12 cl)
  rw [hfp] at a12
  have HFN := Lib.hid (show (W.withA { W.a with at_ := 1 }).a.f ≠ none by show W.a.f ≠ none; rw [hF]; simp)
  clear hfa hfp hsm hFc hx hs hkb hmc hF
  refine wp_region_mixed [true, true, true, true, true, true, true, true, true, false, false] 2 9 (by kernel_rfl) (by kernel_rfl) (by kernel_rfl) ?_ (by decide) (by decide) (by decide) (by kernel_rfl) ?_
  · intro c a d v w h; cases d <;> exact h
  intro X00
  simp only [pickOps]
  repeat (go_big_quiet_step (fail))
  refine wpQuiet_nil (fun X0 => ?_)
  clear X00
  refine wpAnyM_tailL rfl (by kernel_rfl) (fun X2 => ?_)
  simp only [List.drop_succ_cons, List.drop_zero]
  go_wp2_with fail
  refine (HK.out _).mono ?_
  rintro e w2 ⟨rfl, own2, m2, h2, h2m⟩
  have P2 := (Mod.pt (Mod.refl _ _) _).trans m2
  have M2 := Lib.hid (M1.out.trans (P2.mono (S := acT t B) (fun x (hx : x = _ ∨ x = _) => by unfold acT; omega)))
  have H2 := Lib.hid (show AcIn ⟨own2, w2⟩ t B b k ((W.memW m').withA { W.a with at_ := 1, f := some F' }) p bm bs bt bp bsp bh cm from H1.out.found HP.out P2 HFP.out HSM.out h2 h2m HFN.out)
  have R2 := Lib.hid (R1.out.keep P2 (by omega))
  have Q2 := Lib.hid (Q1.out.keep P2 (by omega))
  have HF2 := Lib.hid h2
  clear P2 m2 h2 h2m HK M1 H1 R1 Q1 HFN
  clear a0 a1 a2 a3 a4 a5 a6 a7 a8 a9 a10 a11 a12 a13 a14 a15 a16 a17 a18 al
  clear c0 c1 c2 c3 c4 c5 c6 c7 c8 c9 c10 c11 c12 cl
  cases u
  · have HD := Lib.hid (show R = ((W.memW m').withA { W.a with at_ := 1, f := some F' }).no by rw [← HR.out]; rfl)
    obtain ⟨r0, r1, r2, r3, r4, rl⟩ := R2.out.c5
    have rf0 := R2.out.live 0
    have rf1 := R2.out.live 1
    have rf2 := R2.out.live 2
    have rf3 := R2.out.live 3
    have rf4 := R2.out.live 4
    (try simp only [GW.to] at r0 r1 r2 r3 r4 rf0 rf1 rf2 rf3 rf4 rl)
    go_wp2_with fail
    obtain ⟨Mf, mf, Rf⟩ := put_res M2.out R2.out (Nat.le_succ _) (0) (0) (0) (false) (0) (0)
    generalize ((((((w2).setCell ⟨g.w.heap.size + 1, 0, none⟩ (.int .i64 (0))).setCell ⟨g.w.heap.size + 1, 1, none⟩ (.int .i64 (0))).setCell ⟨g.w.heap.size + 1, 2, none⟩ (.int .i64 (0))).setCell ⟨g.w.heap.size + 1, 3, none⟩ (.bool (false))).setCell ⟨g.w.heap.size + 1, 4, none⟩ (.complex .f64 (0) (0))) = wf at *
    obtain ⟨f0, f1, f2, f3, f4, fl⟩ := Rf.c5
    (try simp only [GW.to] at f0 f1 f2 f3 f4 fl)
    refine bodyPost_ret (v := .tuple #[.agg #[.int .i64 (0), .int .i64 (0), .int .i64 (0), .bool (false), .complex .f64 (0) (0)], .bool false]) (by simp [results, Tryz.results55, go_sem, f0, f1, f2, f3, f4]) rfl ?_
    exact Does.of ⟨own2, wf⟩ rfl (by rw [HD.out]; rfl) Mf (by rw [HD.out]; exact (H2.out.keep mf (by omega) (fun x (hx : x = 9) => by omega) (fun x (hx : x = 9) => by omega)).at_)
  have HE := Lib.hid (show Calls Tryz.prog 100 #[.pointer (some ⟨bf, 0, none⟩)] w2 (fun e w' => e = .returned (.int .i64 F'.e) ∧ w2 = w') from find_errno ⟨own2, w2⟩ (t + 2) bf (F'.withC cf) HF2.out)
  obtain ⟨a0, a1, a2, a3, a4, a5, a6, a7, a8, a9, a10, a11, a12, a13, a14, a15, a16, a17, a18, al⟩ := H2.out.a.blk.c19
  (try simp only [GW.to] at a0 a1 a2 a3 a4 a5 a6 a7 a8 a9 a10 a11 a12 a13 a14 a15 a16 a17 a18 al)
  rw [HFP.out] at a12
  go_wp2_with fail
  refine HE.out.mono ?_
  rintro e w' ⟨rfl, rfl⟩
  by_cases he : F'.e = 0
  case neg =>
    have HD := Lib.hid (show R = ((W.memW m').withA { W.a with at_ := 1, f := some F' }).fails F'.e by rw [← HR.out]; unfold AcW.found; simp only [Bool.true_eq_false, if_false]; rw [if_pos he])
    have hz : (F'.e != 0) = true := by simp [he]
    clear he HE
    obtain ⟨r, hr⟩ : ∃ r, ((W.memW m').withA { W.a with at_ := 1, f := some F' }).a.res LVal.zero F'.e = r := ⟨_, rfl⟩
    have HRr := Lib.hid hr
    have HFL := Lib.hid (show Calls Tryz.prog 64 #[.pointer (some ⟨b, 0, none⟩), .int .i64 F'.e] w2 (Does (.tuple #[.agg #[.int .i64 r.op, .int .i64 r.own, .int .i64 r.e, .bool r.v.ref, .complex .f64 r.v.z.1 r.v.z.2], .bool true]) ⟨own2, w2⟩ (acO t) (fun g' => AcAt g' t b _ p)) from act_fails ⟨own2, w2⟩ t b _ p F'.e r hPt H2.out.a HNX.out hr)
    clear hr
    go_wp2_with fail
    refine HFL.out.mono ?_
    rintro e w3 ⟨rfl, own3, m3, h3⟩
    have M3 := Lib.hid (M2.out.trans (m3.mono (S := acT t B) (fun x hx => acT_own hx)))
    have H3 := Lib.hid (H2.out.own HP.out m3 h3)
    have R3 := Lib.hid (R2.out.keep m3 (fun h => by unfold acO at h; omega))
    clear M2 H2 R2 m3 h3 HFL
    clear a0 a1 a2 a3 a4 a5 a6 a7 a8 a9 a10 a11 a12 a13 a14 a15 a16 a17 a18 al
    obtain ⟨r0, r1, r2, r3, r4, rl⟩ := R3.out.c5
    have rf0 := R3.out.live 0
    have rf1 := R3.out.live 1
    have rf2 := R3.out.live 2
    have rf3 := R3.out.live 3
    have rf4 := R3.out.live 4
    (try simp only [GW.to] at r0 r1 r2 r3 r4 rf0 rf1 rf2 rf3 rf4 rl)
    go_wp2_with fail
    obtain ⟨Mf, mf, Rf⟩ := put_res M3.out R3.out (Nat.le_succ _) (r.op) (r.own) (r.e) (r.v.ref) (r.v.z.1) (r.v.z.2)
    generalize ((((((w3).setCell ⟨g.w.heap.size + 1, 0, none⟩ (.int .i64 (r.op))).setCell ⟨g.w.heap.size + 1, 1, none⟩ (.int .i64 (r.own))).setCell ⟨g.w.heap.size + 1, 2, none⟩ (.int .i64 (r.e))).setCell ⟨g.w.heap.size + 1, 3, none⟩ (.bool (r.v.ref))).setCell ⟨g.w.heap.size + 1, 4, none⟩ (.complex .f64 (r.v.z.1) (r.v.z.2))) = wf at *
    obtain ⟨f0, f1, f2, f3, f4, fl⟩ := Rf.c5
    (try simp only [GW.to] at f0 f1 f2 f3 f4 fl)
    refine bodyPost_ret (v := .tuple #[.agg #[.int .i64 (r.op), .int .i64 (r.own), .int .i64 (r.e), .bool (r.v.ref), .complex .f64 (r.v.z.1) (r.v.z.2)], .bool true]) (by simp [results, Tryz.results55, go_sem, f0, f1, f2, f3, f4]) rfl ?_
    exact Does.of ⟨own3, wf⟩ rfl (by rw [HD.out, ← HRr.out]; rfl) Mf (by rw [HD.out]; exact (H3.out.keep mf (by omega) (fun x (hx : x = 9) => by omega) (fun x (hx : x = 9) => by omega)).at_)
  have hz : (F'.e != 0) = false := by simp [he]
  obtain ⟨ad, had⟩ : ∃ q, F'.at_ = q := ⟨_, rfl⟩
  obtain ⟨rf, hrf⟩ : ∃ q, (decide (0 ≤ F'.at_) && F'.ref) = q := ⟨_, rfl⟩
  have HA := Lib.hid (fun X => (show Calls Tryz.prog 101 #[.pointer (some ⟨bf, 0, none⟩)] (w2.patch X) (Gives (.int .i64 ad) (w2.patch X)) from same_gives (by have h := find_at ((⟨own2, w2⟩ : GW).pt X) (t + 2) bf (F'.withC cf) (HF2.out.keep (Mod.pt (Mod.refl (fun _ => False) _) _) id id); rw [show (F'.withC cf).at_ = ad from had] at h; exact h)))
  have HRF := Lib.hid (fun X => (show Calls Tryz.prog 102 #[.pointer (some ⟨bf, 0, none⟩)] (w2.patch X) (Gives (.bool rf) (w2.patch X)) from same_gives (by have h := find_ref ((⟨own2, w2⟩ : GW).pt X) (t + 2) bf (F'.withC cf) (HF2.out.keep (Mod.pt (Mod.refl (fun _ => False) _) _) id id); rw [show (decide (0 ≤ (F'.withC cf).at_) && (F'.withC cf).ref) = rf from hrf] at h; exact h)))
  obtain ⟨f0, f1, f2, f3, f4, f5, f6, f7, f8, f9, f10, f11, f12, f13, f14, f15, f16, f17, f18, fl⟩ := H2.out.a.blk.c19
  have ff13 := H2.out.a.blk.live 13
  have ff14 := H2.out.a.blk.live 14
  have ff11 := H2.out.a.blk.live 11
  (try simp only [GW.to] at f0 f1 f2 f3 f4 f5 f6 f7 f8 f9 f10 f11 f12 f13 f14 f15 f16 f17 f18 ff13 ff14 ff11 fl)
  clear f0 f1 f2 f3 f4 f5 f6 f7 f8 f9 f10 f11 f12 f13 f14 f15 f16 f17 f18 fl
  go_upto_region 7 with fail
  clear HE hz
  refine wp_region_split_any [1,2] [true, false, false, true, true, true, true, true, true, true, true, true, true, true, true] 15 ?sp_ox1 11 ?sp1x1 ?sp2x1 ?spEx1 ?sp3x1 ?sp4x1 ?sp5x1 ?sp6x1 ?sp7x1 ?sp8x1 ?sp9x1 ?sp10x1 ?sp11x1 ?sp12x1
  case sp10x1 => exact rfl
  case sp1x1 => kernel_rfl
  case sp2x1 => kernel_rfl
  case spEx1 => kernel_rfl
  case sp3x1 => kernel_rfl
  case sp4x1 => (intro c a d v w h; cases d <;> exact h)
  case sp5x1 => decide
  case sp6x1 => decide
  case sp7x1 => decide
  case sp8x1 => kernel_rfl
  case sp9x1 => kernel_rfl
  case sp11x1 => exact rfl
  intro X00
  simp only [pickOps, movesAct, moveOf, List.getElem?_toArray, List.getElem?_cons_zero, List.getElem?_cons_succ]
  (try go_simp)
  repeat (go_big_quiet_step (first | (go_at_call 101; exact Calls.added (HA.out _)) | (go_at_call 102; exact Calls.added (HRF.out _))))
  refine wpQuiet_nil (fun X0 K Q' hK => ?_)
  clear X00
  (try go_simp)
  (try go_simp)
  refine hK _ _ ?_
  clear hK K Q'
  refine wpAny_loud_step 16 _ (by kernel_rfl) rfl rfl (fun K Q' hK => ?_)
  (try go_simp)
  refine hK _ _ ?_
  clear hK K Q'
  refine wpAny_loud_step 17 _ (by kernel_rfl) rfl rfl (fun K Q' hK => ?_)
  (try go_simp)
  refine hK _ _ ?_
  clear hK K Q'
  refine wpAny_loud_step 18 _ (by kernel_rfl) rfl rfl (fun K Q' hK => ?_)
  (try go_simp)
  refine hK _ _ ?_
  clear hK K Q'
  refine wpAny_loud_step 19 _ (by kernel_rfl) rfl rfl (fun K Q' hK => ?_)
  (try go_simp)
  refine hK _ _ ?_
  clear hK K Q'
  refine wpAny_loud_step 20 _ (by kernel_rfl) rfl rfl (fun K Q' hK => ?_)
  (try go_simp)
  refine hK _ _ ?_
  clear hK K Q'
  refine wpAny_loud_step 21 _ (by kernel_rfl) rfl rfl (fun K Q' hK => ?_)
  (try go_simp)
  refine hK _ _ ?_
  clear hK K Q'
  refine wpAny_loud_step 22 _ (by kernel_rfl) rfl rfl (fun K Q' hK => ?_)
  (try go_simp)
  refine hK _ _ ?_
  clear hK K Q'
  refine wpAny_loud_step 23 _ (by kernel_rfl) rfl rfl (fun K Q' hK => ?_)
  (try go_simp)
  refine hK _ _ ?_
  clear hK K Q'
  refine wpAny_loud_step 24 _ (by kernel_rfl) rfl rfl (fun K Q' hK => ?_)
  (try go_simp)
  refine hK _ _ ?_
  clear hK K Q'
  refine wpAny_loud_step 25 _ (by kernel_rfl) rfl rfl (fun K Q' hK => ?_)
  (try go_simp)
  refine hK _ _ ?_
  clear hK K Q'
  refine wpAny_loud_step 26 _ (by kernel_rfl) rfl rfl (fun K Q' hK => ?_)
  (try go_simp)
  refine hK _ _ ?_
  clear hK K Q'
  refine wpAny_done (by kernel_rfl) ?_ _
  have m3 : Mod (fun x => x = t) (⟨own2, w2⟩ : GW) ⟨own2, ((w2.setCell ⟨b, 13, none⟩ (.int .i64 ad)).setCell ⟨b, 14, none⟩ (.bool rf)).setCell ⟨b, 11, none⟩ (.int .i64 2)⟩ := Mod.st (Mod.st (Mod.st (Mod.refl _ _) H2.out.a.blk.own) H2.out.a.blk.own) H2.out.a.blk.own
  have h3 := ((H2.out.set HP.out 13 (.int .i64 ad) { W.a with at_ := 1, f := some F', addr := ad } rfl ⟨rfl, rfl, rfl, rfl, rfl, rfl⟩).set HP.out 14 (.bool rf) { W.a with at_ := 1, f := some F', addr := ad, ref := rf } rfl ⟨rfl, rfl, rfl, rfl, rfl, rfl⟩).set HP.out 11 (.int .i64 2) { W.a with at_ := 2, f := some F', addr := ad, ref := rf } rfl ⟨rfl, rfl, rfl, rfl, rfl, rfl⟩
  obtain ⟨own3, m4⟩ : ∃ ownZ, Mod (fun _ => False) (⟨own2, ((w2.setCell ⟨b, 13, none⟩ (.int .i64 ad)).setCell ⟨b, 14, none⟩ (.bool rf)).setCell ⟨b, 11, none⟩ (.int .i64 2)⟩ : GW) ⟨ownZ, (((w2.setCell ⟨b, 13, none⟩ (.int .i64 ad)).setCell ⟨b, 14, none⟩ (.bool rf)).setCell ⟨b, 11, none⟩ (.int .i64 2)).patch X0⟩ := ⟨_, Mod.pt (g := ⟨own2, ((w2.setCell ⟨b, 13, none⟩ (.int .i64 ad)).setCell ⟨b, 14, none⟩ (.bool rf)).setCell ⟨b, 11, none⟩ (.int .i64 2)⟩) (Mod.refl _ _) _⟩
  have H3 := Lib.hid (show AcIn ⟨own3, _⟩ t B b k ((W.memW m').withA { W.a with at_ := 2, f := some F', addr := ad, ref := rf }) p bm bs bt bp bsp bh cm from h3.keep0 m4)
  have M3 := Lib.hid ((M2.out.trans (m3.mono (S := acT t B) (fun x hx => acT_t hx))).trans (m4.mono (S := acT t B) (fun _ => False.elim)))
  have Q3 := Lib.hid ((Q2.out.keep m3 (by omega)).keep m4 id)
  have R3 := Lib.hid ((R2.out.keep m3 (by omega)).keep m4 id)
  generalize (((w2.setCell ⟨b, 13, none⟩ (.int .i64 ad)).setCell ⟨b, 14, none⟩ (.bool rf)).setCell ⟨b, 11, none⟩ (.int .i64 2)).patch X0 = w3 at *
  clear m3 h3 m4 M2 H2 Q2 R2 HA HRF HF2 ff13 ff14 ff11
  clear a0 a1 a2 a3 a4 a5 a6 a7 a8 a9 a10 a11 a12 a13 a14 a15 a16 a17 a18 al
  have HD := Lib.hid (show R = (if ok = 3 ∨ ok = 5 then ((W.memW m').withA { W.a with at_ := 2, f := some F', addr := ad, ref := rf }).no else if (W.a.loc ob).ref ≠ rf then ((W.memW m').withA { W.a with at_ := 2, f := some F', addr := ad, ref := rf }).fails 4 else ((W.memW m').withA (AcS.chooses { W.a with at_ := 2, f := some F', addr := ad, ref := rf } ⟨ok, oa, ob, oc, on, x, y⟩)).no) by
    rw [← HR.out]
    unfold AcW.found
    simp only [Bool.true_eq_false, if_false, he, ne_eq, not_true_eq_false]
    rw [hrf, had]
    rfl)
  clear he had hrf HR
  obtain ⟨x0, x1, x2, x3, x4, x5, xl⟩ := Q3.out.c6
  (try simp only [GW.to] at x0 x1 x2 x3 x4 x5 xl)
  by_cases h3 : ok = 3
  · have HD2 := Lib.hid (show R = ((W.memW m').withA { W.a with at_ := 2, f := some F', addr := ad, ref := rf }).no by rw [HD.out, if_pos (Or.inl h3)])
    have hz : (ok == 3) = true := beq_iff_eq.2 h3
    clear h3
    obtain ⟨r0, r1, r2, r3, r4, rl⟩ := R3.out.c5
    have rf0 := R3.out.live 0
    have rf1 := R3.out.live 1
    have rf2 := R3.out.live 2
    have rf3 := R3.out.live 3
    have rf4 := R3.out.live 4
    (try simp only [GW.to] at r0 r1 r2 r3 r4 rf0 rf1 rf2 rf3 rf4 rl)
    go_wp2_with fail
    obtain ⟨Mf, mf, Rf⟩ := put_res M3.out R3.out (Nat.le_succ _) (0) (0) (0) (false) (0) (0)
    generalize ((((((w3).setCell ⟨g.w.heap.size + 1, 0, none⟩ (.int .i64 (0))).setCell ⟨g.w.heap.size + 1, 1, none⟩ (.int .i64 (0))).setCell ⟨g.w.heap.size + 1, 2, none⟩ (.int .i64 (0))).setCell ⟨g.w.heap.size + 1, 3, none⟩ (.bool (false))).setCell ⟨g.w.heap.size + 1, 4, none⟩ (.complex .f64 (0) (0))) = wf at *
    obtain ⟨f0, f1, f2, f3, f4, fl⟩ := Rf.c5
    (try simp only [GW.to] at f0 f1 f2 f3 f4 fl)
    refine bodyPost_ret (v := .tuple #[.agg #[.int .i64 (0), .int .i64 (0), .int .i64 (0), .bool (false), .complex .f64 (0) (0)], .bool false]) (by simp [results, Tryz.results55, go_sem, f0, f1, f2, f3, f4]) rfl ?_
    exact Does.of ⟨own3, wf⟩ rfl (by rw [HD2.out]; rfl) Mf (by rw [HD2.out]; exact (H3.out.keep mf (by omega) (fun x (hx : x = 9) => by omega) (fun x (hx : x = 9) => by omega)).at_)
  have hz3 : (ok == 3) = false := beq_eq_false_iff_ne.2 h3
  by_cases h5 : ok = 5
  · have HD2 := Lib.hid (show R = ((W.memW m').withA { W.a with at_ := 2, f := some F', addr := ad, ref := rf }).no by rw [HD.out, if_pos (Or.inr h5)])
    have hz : (ok == 5) = true := beq_iff_eq.2 h5
    clear h5 h3
    obtain ⟨r0, r1, r2, r3, r4, rl⟩ := R3.out.c5
    have rf0 := R3.out.live 0
    have rf1 := R3.out.live 1
    have rf2 := R3.out.live 2
    have rf3 := R3.out.live 3
    have rf4 := R3.out.live 4
    (try simp only [GW.to] at r0 r1 r2 r3 r4 rf0 rf1 rf2 rf3 rf4 rl)
    go_wp2_with fail
    obtain ⟨Mf, mf, Rf⟩ := put_res M3.out R3.out (Nat.le_succ _) (0) (0) (0) (false) (0) (0)
    generalize ((((((w3).setCell ⟨g.w.heap.size + 1, 0, none⟩ (.int .i64 (0))).setCell ⟨g.w.heap.size + 1, 1, none⟩ (.int .i64 (0))).setCell ⟨g.w.heap.size + 1, 2, none⟩ (.int .i64 (0))).setCell ⟨g.w.heap.size + 1, 3, none⟩ (.bool (false))).setCell ⟨g.w.heap.size + 1, 4, none⟩ (.complex .f64 (0) (0))) = wf at *
    obtain ⟨f0, f1, f2, f3, f4, fl⟩ := Rf.c5
    (try simp only [GW.to] at f0 f1 f2 f3 f4 fl)
    refine bodyPost_ret (v := .tuple #[.agg #[.int .i64 (0), .int .i64 (0), .int .i64 (0), .bool (false), .complex .f64 (0) (0)], .bool false]) (by simp [results, Tryz.results55, go_sem, f0, f1, f2, f3, f4]) rfl ?_
    exact Does.of ⟨own3, wf⟩ rfl (by rw [HD2.out]; rfl) Mf (by rw [HD2.out]; exact (H3.out.keep mf (by omega) (fun x (hx : x = 9) => by omega) (fun x (hx : x = 9) => by omega)).at_)
  have hz5 : (ok == 5) = false := beq_eq_false_iff_ne.2 h5
  have HD3 := Lib.hid (show R = (if (W.a.loc ob).ref ≠ rf then ((W.memW m').withA { W.a with at_ := 2, f := some F', addr := ad, ref := rf }).fails 4 else ((W.memW m').withA (AcS.chooses { W.a with at_ := 2, f := some F', addr := ad, ref := rf } ⟨ok, oa, ob, oc, on, x, y⟩)).no) by rw [HD.out, if_neg (by omega)])
  clear h3 h5 HD
  obtain ⟨lk, hlk, hlk2⟩ : ∃ i : Nat, ob = i ∧ i < W.a.locals.length := ⟨ob.toNat, by omega, by omega⟩
  obtain ⟨q, hA, hq, -, k0, -, -⟩ := H3.out.a.r.local_ (k := lk) hlk2
  have k0' : w3.cell? ⟨q, lk * 2, none⟩ = some (.bool (W.a.loc lk).ref) := k0
  simp only at hq
  clear k0
  have HOB := Lib.hid hob
  rw [hlk] at HD3 hob x2
  have HLK := Lib.hid hlk
  clear hlk
  obtain ⟨a0, a1, a2, a3, a4, a5, a6, a7, a8, a9, a10, a11, a12, a13, a14, a15, a16, a17, a18, al⟩ := H3.out.a.blk.c19
  (try simp only [GW.to] at a0 a1 a2 a3 a4 a5 a6 a7 a8 a9 a10 a11 a12 a13 a14 a15 a16 a17 a18 al)
  have a2' : w3.cell? ⟨b, 2, none⟩ = some (.slice (some ⟨q, 0, none⟩) W.a.locals.length p.locC) := by rw [← hA]; exact a2
  have a14' : w3.cell? ⟨b, 14, none⟩ = some (.bool rf) := a14
  clear a2 a14 hA
  generalize (W.a.loc lk).ref = vr at *
  cases vr
  · cases rf
    · go_upto_region 10 with fail
      refine wp_region_mixed [true, true, true, true, true, true, true, true, true, true, true, true, true, true, true] 0 15 (by kernel_rfl) (by kernel_rfl) (by kernel_rfl) ?_ (by decide) (by decide) (by decide) (by kernel_rfl) ?_
      · intro c a d v w h; cases d <;> exact h
      intro X00
      simp only [pickOps]
      repeat (go_big_quiet_step (fail))
      refine wpQuiet_nil (fun X0 => ?_)
      clear X00
      refine wpAnyM_done (by kernel_rfl) (fun X0' => ?_) _
      (try go_simp)
      obtain ⟨own4, m4⟩ : ∃ ownZ, Mod (fun _ => False) (⟨own3, w3⟩ : GW) ⟨ownZ, w3.patch ⟨X0.blocks ++ X0'.blocks, X0'.drawn⟩⟩ := ⟨_, Mod.pt (g := ⟨own3, w3⟩) (Mod.refl _ _) _⟩
      have M4 := Lib.hid (M3.out.trans (m4.mono (S := acT t B) (fun _ => False.elim)))
      have H4 := Lib.hid (show AcIn ⟨own4, _⟩ t B b k ((W.memW m').withA { W.a with at_ := 2, f := some F', addr := ad, ref := false }) p bm bs bt bp bsp bh cm from H3.out.keep0 m4)
      have Q4 := Lib.hid (Q3.out.keep m4 id)
      have R4 := Lib.hid (R3.out.keep m4 id)
      generalize w3.patch ⟨X0.blocks ++ X0'.blocks, X0'.drawn⟩ = w4 at *
      clear m4 M3 H3 Q3 R3 k0' a0 a1 a2' a3 a4 a5 a6 a7 a8 a9 a10 a11 a12 a13 a14' a15 a16 a17 a18 al hq
      clear x0 x1 x2 x3 x4 x5 xl
      have HD := Lib.hid (show R = ((W.memW m').withA (AcS.chooses { W.a with at_ := 2, f := some F', addr := ad, ref := false } ⟨ok, oa, lk, oc, on, x, y⟩)).no by rw [HD3.out]; rfl)
      have HC := Lib.hid (show Calls Tryz.prog 96 #[.pointer (some ⟨b, 0, none⟩), .agg #[.int .i64 ok, .int .i64 oa, .int .i64 lk, .int .i64 oc, .int .i64 on, .complex .f64 x y]] w4 (Does (.tuple #[]) ⟨own4, w4⟩ (acO t) (fun g' => AcAt g' t b _ p)) from act_chooses (g := ⟨own4, w4⟩) hPt H4.out.a ok oa lk oc on x y hob)
      clear HD3
      obtain ⟨x0, x1, x2, x3, x4, x5, xl⟩ := Q4.out.c6
      (try simp only [GW.to] at x0 x1 x2 x3 x4 x5 xl)
      rw [HLK.out] at x2
      go_wp2_with fail
      refine HC.out.mono ?_
      rintro e w5 ⟨rfl, own5, m5, h5⟩
      have M5 := Lib.hid (M4.out.trans (m5.mono (S := acT t B) (fun x hx => acT_own hx)))
      have H5 := Lib.hid (H4.out.own HP.out m5 h5)
      have R5 := Lib.hid (R4.out.keep m5 (fun h => by unfold acO at h; omega))
      clear M4 H4 R4 m5 h5 HC
      clear x0 x1 x2 x3 x4 x5 xl
      obtain ⟨r0, r1, r2, r3, r4, rl⟩ := R5.out.c5
      have rf0 := R5.out.live 0
      have rf1 := R5.out.live 1
      have rf2 := R5.out.live 2
      have rf3 := R5.out.live 3
      have rf4 := R5.out.live 4
      (try simp only [GW.to] at r0 r1 r2 r3 r4 rf0 rf1 rf2 rf3 rf4 rl)
      go_wp2_with fail
      obtain ⟨Mf, mf, Rf⟩ := put_res M5.out R5.out (Nat.le_succ _) (0) (0) (0) (false) (0) (0)
      generalize ((((((w5).setCell ⟨g.w.heap.size + 1, 0, none⟩ (.int .i64 (0))).setCell ⟨g.w.heap.size + 1, 1, none⟩ (.int .i64 (0))).setCell ⟨g.w.heap.size + 1, 2, none⟩ (.int .i64 (0))).setCell ⟨g.w.heap.size + 1, 3, none⟩ (.bool (false))).setCell ⟨g.w.heap.size + 1, 4, none⟩ (.complex .f64 (0) (0))) = wf at *
      obtain ⟨f0, f1, f2, f3, f4, fl⟩ := Rf.c5
      (try simp only [GW.to] at f0 f1 f2 f3 f4 fl)
      refine bodyPost_ret (v := .tuple #[.agg #[.int .i64 (0), .int .i64 (0), .int .i64 (0), .bool (false), .complex .f64 (0) (0)], .bool false]) (by simp [results, Tryz.results55, go_sem, f0, f1, f2, f3, f4]) rfl ?_
      exact Does.of ⟨own5, wf⟩ rfl (by rw [HD.out]; rfl) Mf (by rw [HD.out]; exact (H5.out.keep mf (by omega) (fun x (hx : x = 9) => by omega) (fun x (hx : x = 9) => by omega)).at_)
    · go_upto_region 10 with fail
      refine wp_region_mixed [true, true, true, true, true, true, true, true, true, true, true, true, true, true, true] 0 15 (by kernel_rfl) (by kernel_rfl) (by kernel_rfl) ?_ (by decide) (by decide) (by decide) (by kernel_rfl) ?_
      · intro c a d v w h; cases d <;> exact h
      intro X00
      simp only [pickOps]
      repeat (go_big_quiet_step (fail))
      refine wpQuiet_nil (fun X0 => ?_)
      clear X00
      refine wpAnyM_done (by kernel_rfl) (fun X0' => ?_) _
      (try go_simp)
      obtain ⟨own4, m4⟩ : ∃ ownZ, Mod (fun _ => False) (⟨own3, w3⟩ : GW) ⟨ownZ, w3.patch ⟨X0.blocks ++ X0'.blocks, X0'.drawn⟩⟩ := ⟨_, Mod.pt (g := ⟨own3, w3⟩) (Mod.refl _ _) _⟩
      have M4 := Lib.hid (M3.out.trans (m4.mono (S := acT t B) (fun _ => False.elim)))
      have H4 := Lib.hid (show AcIn ⟨own4, _⟩ t B b k ((W.memW m').withA { W.a with at_ := 2, f := some F', addr := ad, ref := true }) p bm bs bt bp bsp bh cm from H3.out.keep0 m4)
      have Q4 := Lib.hid (Q3.out.keep m4 id)
      have R4 := Lib.hid (R3.out.keep m4 id)
      generalize w3.patch ⟨X0.blocks ++ X0'.blocks, X0'.drawn⟩ = w4 at *
      clear m4 M3 H3 Q3 R3 k0' a0 a1 a2' a3 a4 a5 a6 a7 a8 a9 a10 a11 a12 a13 a14' a15 a16 a17 a18 al hq
      clear x0 x1 x2 x3 x4 x5 xl
      have HD := Lib.hid (show R = ((W.memW m').withA { W.a with at_ := 2, f := some F', addr := ad, ref := true }).fails 4 by rw [HD3.out]; rfl)
      clear HD3
      obtain ⟨r, hr⟩ : ∃ r, ((W.memW m').withA { W.a with at_ := 2, f := some F', addr := ad, ref := true }).a.res LVal.zero 4 = r := ⟨_, rfl⟩
      have HRr := Lib.hid hr
      have HFL := Lib.hid (show Calls Tryz.prog 64 #[.pointer (some ⟨b, 0, none⟩), .int .i64 4] w4 (Does (.tuple #[.agg #[.int .i64 r.op, .int .i64 r.own, .int .i64 r.e, .bool r.v.ref, .complex .f64 r.v.z.1 r.v.z.2], .bool true]) ⟨own4, w4⟩ (acO t) (fun g' => AcAt g' t b _ p)) from act_fails ⟨own4, w4⟩ t b _ p 4 r hPt H4.out.a HNX.out hr)
      clear hr
      go_wp2_with fail
      refine HFL.out.mono ?_
      rintro e w5 ⟨rfl, own5, m5, h5⟩
      have M5 := Lib.hid (M4.out.trans (m5.mono (S := acT t B) (fun x hx => acT_own hx)))
      have H5 := Lib.hid (H4.out.own HP.out m5 h5)
      have R5 := Lib.hid (R4.out.keep m5 (fun h => by unfold acO at h; omega))
      clear M4 H4 R4 m5 h5 HFL
      obtain ⟨r0, r1, r2, r3, r4, rl⟩ := R5.out.c5
      have rf0 := R5.out.live 0
      have rf1 := R5.out.live 1
      have rf2 := R5.out.live 2
      have rf3 := R5.out.live 3
      have rf4 := R5.out.live 4
      (try simp only [GW.to] at r0 r1 r2 r3 r4 rf0 rf1 rf2 rf3 rf4 rl)
      go_wp2_with fail
      obtain ⟨Mf, mf, Rf⟩ := put_res M5.out R5.out (Nat.le_succ _) (r.op) (r.own) (r.e) (r.v.ref) (r.v.z.1) (r.v.z.2)
      generalize ((((((w5).setCell ⟨g.w.heap.size + 1, 0, none⟩ (.int .i64 (r.op))).setCell ⟨g.w.heap.size + 1, 1, none⟩ (.int .i64 (r.own))).setCell ⟨g.w.heap.size + 1, 2, none⟩ (.int .i64 (r.e))).setCell ⟨g.w.heap.size + 1, 3, none⟩ (.bool (r.v.ref))).setCell ⟨g.w.heap.size + 1, 4, none⟩ (.complex .f64 (r.v.z.1) (r.v.z.2))) = wf at *
      obtain ⟨f0, f1, f2, f3, f4, fl⟩ := Rf.c5
      (try simp only [GW.to] at f0 f1 f2 f3 f4 fl)
      refine bodyPost_ret (v := .tuple #[.agg #[.int .i64 (r.op), .int .i64 (r.own), .int .i64 (r.e), .bool (r.v.ref), .complex .f64 (r.v.z.1) (r.v.z.2)], .bool true]) (by simp [results, Tryz.results55, go_sem, f0, f1, f2, f3, f4]) rfl ?_
      exact Does.of ⟨own5, wf⟩ rfl (by rw [HD.out, ← HRr.out]; rfl) Mf (by rw [HD.out]; exact (H5.out.keep mf (by omega) (fun x (hx : x = 9) => by omega) (fun x (hx : x = 9) => by omega)).at_)
  · cases rf
    · go_upto_region 10 with fail
      refine wp_region_mixed [true, true, true, true, true, true, true, true, true, true, true, true, true, true, true] 0 15 (by kernel_rfl) (by kernel_rfl) (by kernel_rfl) ?_ (by decide) (by decide) (by decide) (by kernel_rfl) ?_
      · intro c a d v w h; cases d <;> exact h
      intro X00
      simp only [pickOps]
      repeat (go_big_quiet_step (fail))
      refine wpQuiet_nil (fun X0 => ?_)
      clear X00
      refine wpAnyM_done (by kernel_rfl) (fun X0' => ?_) _
      (try go_simp)
      obtain ⟨own4, m4⟩ : ∃ ownZ, Mod (fun _ => False) (⟨own3, w3⟩ : GW) ⟨ownZ, w3.patch ⟨X0.blocks ++ X0'.blocks, X0'.drawn⟩⟩ := ⟨_, Mod.pt (g := ⟨own3, w3⟩) (Mod.refl _ _) _⟩
      have M4 := Lib.hid (M3.out.trans (m4.mono (S := acT t B) (fun _ => False.elim)))
      have H4 := Lib.hid (show AcIn ⟨own4, _⟩ t B b k ((W.memW m').withA { W.a with at_ := 2, f := some F', addr := ad, ref := false }) p bm bs bt bp bsp bh cm from H3.out.keep0 m4)
      have Q4 := Lib.hid (Q3.out.keep m4 id)
      have R4 := Lib.hid (R3.out.keep m4 id)
      generalize w3.patch ⟨X0.blocks ++ X0'.blocks, X0'.drawn⟩ = w4 at *
      clear m4 M3 H3 Q3 R3 k0' a0 a1 a2' a3 a4 a5 a6 a7 a8 a9 a10 a11 a12 a13 a14' a15 a16 a17 a18 al hq
      clear x0 x1 x2 x3 x4 x5 xl
      have HD := Lib.hid (show R = ((W.memW m').withA { W.a with at_ := 2, f := some F', addr := ad, ref := false }).fails 4 by rw [HD3.out]; rfl)
      clear HD3
      obtain ⟨r, hr⟩ : ∃ r, ((W.memW m').withA { W.a with at_ := 2, f := some F', addr := ad, ref := false }).a.res LVal.zero 4 = r := ⟨_, rfl⟩
      have HRr := Lib.hid hr
      have HFL := Lib.hid (show Calls Tryz.prog 64 #[.pointer (some ⟨b, 0, none⟩), .int .i64 4] w4 (Does (.tuple #[.agg #[.int .i64 r.op, .int .i64 r.own, .int .i64 r.e, .bool r.v.ref, .complex .f64 r.v.z.1 r.v.z.2], .bool true]) ⟨own4, w4⟩ (acO t) (fun g' => AcAt g' t b _ p)) from act_fails ⟨own4, w4⟩ t b _ p 4 r hPt H4.out.a HNX.out hr)
      clear hr
      go_wp2_with fail
      refine HFL.out.mono ?_
      rintro e w5 ⟨rfl, own5, m5, h5⟩
      have M5 := Lib.hid (M4.out.trans (m5.mono (S := acT t B) (fun x hx => acT_own hx)))
      have H5 := Lib.hid (H4.out.own HP.out m5 h5)
      have R5 := Lib.hid (R4.out.keep m5 (fun h => by unfold acO at h; omega))
      clear M4 H4 R4 m5 h5 HFL
      obtain ⟨r0, r1, r2, r3, r4, rl⟩ := R5.out.c5
      have rf0 := R5.out.live 0
      have rf1 := R5.out.live 1
      have rf2 := R5.out.live 2
      have rf3 := R5.out.live 3
      have rf4 := R5.out.live 4
      (try simp only [GW.to] at r0 r1 r2 r3 r4 rf0 rf1 rf2 rf3 rf4 rl)
      go_wp2_with fail
      obtain ⟨Mf, mf, Rf⟩ := put_res M5.out R5.out (Nat.le_succ _) (r.op) (r.own) (r.e) (r.v.ref) (r.v.z.1) (r.v.z.2)
      generalize ((((((w5).setCell ⟨g.w.heap.size + 1, 0, none⟩ (.int .i64 (r.op))).setCell ⟨g.w.heap.size + 1, 1, none⟩ (.int .i64 (r.own))).setCell ⟨g.w.heap.size + 1, 2, none⟩ (.int .i64 (r.e))).setCell ⟨g.w.heap.size + 1, 3, none⟩ (.bool (r.v.ref))).setCell ⟨g.w.heap.size + 1, 4, none⟩ (.complex .f64 (r.v.z.1) (r.v.z.2))) = wf at *
      obtain ⟨f0, f1, f2, f3, f4, fl⟩ := Rf.c5
      (try simp only [GW.to] at f0 f1 f2 f3 f4 fl)
      refine bodyPost_ret (v := .tuple #[.agg #[.int .i64 (r.op), .int .i64 (r.own), .int .i64 (r.e), .bool (r.v.ref), .complex .f64 (r.v.z.1) (r.v.z.2)], .bool true]) (by simp [results, Tryz.results55, go_sem, f0, f1, f2, f3, f4]) rfl ?_
      exact Does.of ⟨own5, wf⟩ rfl (by rw [HD.out, ← HRr.out]; rfl) Mf (by rw [HD.out]; exact (H5.out.keep mf (by omega) (fun x (hx : x = 9) => by omega) (fun x (hx : x = 9) => by omega)).at_)
    · go_upto_region 10 with fail
      refine wp_region_mixed [true, true, true, true, true, true, true, true, true, true, true, true, true, true, true] 0 15 (by kernel_rfl) (by kernel_rfl) (by kernel_rfl) ?_ (by decide) (by decide) (by decide) (by kernel_rfl) ?_
      · intro c a d v w h; cases d <;> exact h
      intro X00
      simp only [pickOps]
      repeat (go_big_quiet_step (fail))
      refine wpQuiet_nil (fun X0 => ?_)
      clear X00
      refine wpAnyM_done (by kernel_rfl) (fun X0' => ?_) _
      (try go_simp)
      obtain ⟨own4, m4⟩ : ∃ ownZ, Mod (fun _ => False) (⟨own3, w3⟩ : GW) ⟨ownZ, w3.patch ⟨X0.blocks ++ X0'.blocks, X0'.drawn⟩⟩ := ⟨_, Mod.pt (g := ⟨own3, w3⟩) (Mod.refl _ _) _⟩
      have M4 := Lib.hid (M3.out.trans (m4.mono (S := acT t B) (fun _ => False.elim)))
      have H4 := Lib.hid (show AcIn ⟨own4, _⟩ t B b k ((W.memW m').withA { W.a with at_ := 2, f := some F', addr := ad, ref := true }) p bm bs bt bp bsp bh cm from H3.out.keep0 m4)
      have Q4 := Lib.hid (Q3.out.keep m4 id)
      have R4 := Lib.hid (R3.out.keep m4 id)
      generalize w3.patch ⟨X0.blocks ++ X0'.blocks, X0'.drawn⟩ = w4 at *
      clear m4 M3 H3 Q3 R3 k0' a0 a1 a2' a3 a4 a5 a6 a7 a8 a9 a10 a11 a12 a13 a14' a15 a16 a17 a18 al hq
      clear x0 x1 x2 x3 x4 x5 xl
      have HD := Lib.hid (show R = ((W.memW m').withA (AcS.chooses { W.a with at_ := 2, f := some F', addr := ad, ref := true } ⟨ok, oa, lk, oc, on, x, y⟩)).no by rw [HD3.out]; rfl)
      have HC := Lib.hid (show Calls Tryz.prog 96 #[.pointer (some ⟨b, 0, none⟩), .agg #[.int .i64 ok, .int .i64 oa, .int .i64 lk, .int .i64 oc, .int .i64 on, .complex .f64 x y]] w4 (Does (.tuple #[]) ⟨own4, w4⟩ (acO t) (fun g' => AcAt g' t b _ p)) from act_chooses (g := ⟨own4, w4⟩) hPt H4.out.a ok oa lk oc on x y hob)
      clear HD3
      obtain ⟨x0, x1, x2, x3, x4, x5, xl⟩ := Q4.out.c6
      (try simp only [GW.to] at x0 x1 x2 x3 x4 x5 xl)
      rw [HLK.out] at x2
      go_wp2_with fail
      refine HC.out.mono ?_
      rintro e w5 ⟨rfl, own5, m5, h5⟩
      have M5 := Lib.hid (M4.out.trans (m5.mono (S := acT t B) (fun x hx => acT_own hx)))
      have H5 := Lib.hid (H4.out.own HP.out m5 h5)
      have R5 := Lib.hid (R4.out.keep m5 (fun h => by unfold acO at h; omega))
      clear M4 H4 R4 m5 h5 HC
      clear x0 x1 x2 x3 x4 x5 xl
      obtain ⟨r0, r1, r2, r3, r4, rl⟩ := R5.out.c5
      have rf0 := R5.out.live 0
      have rf1 := R5.out.live 1
      have rf2 := R5.out.live 2
      have rf3 := R5.out.live 3
      have rf4 := R5.out.live 4
      (try simp only [GW.to] at r0 r1 r2 r3 r4 rf0 rf1 rf2 rf3 rf4 rl)
      go_wp2_with fail
      obtain ⟨Mf, mf, Rf⟩ := put_res M5.out R5.out (Nat.le_succ _) (0) (0) (0) (false) (0) (0)
      generalize ((((((w5).setCell ⟨g.w.heap.size + 1, 0, none⟩ (.int .i64 (0))).setCell ⟨g.w.heap.size + 1, 1, none⟩ (.int .i64 (0))).setCell ⟨g.w.heap.size + 1, 2, none⟩ (.int .i64 (0))).setCell ⟨g.w.heap.size + 1, 3, none⟩ (.bool (false))).setCell ⟨g.w.heap.size + 1, 4, none⟩ (.complex .f64 (0) (0))) = wf at *
      obtain ⟨f0, f1, f2, f3, f4, fl⟩ := Rf.c5
      (try simp only [GW.to] at f0 f1 f2 f3 f4 fl)
      refine bodyPost_ret (v := .tuple #[.agg #[.int .i64 (0), .int .i64 (0), .int .i64 (0), .bool (false), .complex .f64 (0) (0)], .bool false]) (by simp [results, Tryz.results55, go_sem, f0, f1, f2, f3, f4]) rfl ?_
      exact Does.of ⟨own5, wf⟩ rfl (by rw [HD.out]; rfl) Mf (by rw [HD.out]; exact (H5.out.keep mf (by omega) (fun x (hx : x = 9) => by omega) (fun x (hx : x = 9) => by omega)).at_)
end
end Go.Proofs.YtoaehfdjffejeaaGreat

