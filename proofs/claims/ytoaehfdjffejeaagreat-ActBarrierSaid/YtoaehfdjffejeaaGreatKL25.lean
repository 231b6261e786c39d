import Derived.Test.YtoaehfdjffejeaaGreatKL24
/-
  Packed: Born, ActI, ActH, ActR.
-/
open Go.Ext renaming alloc → zA, patch → zP, drew → zD, drewN → zN, more → zM, refl → zR, setCell → zS
open Nat renaming le_refl → zL, le_add_right → zK
/-
  tint.Born, space.Born: a used fragment becomes a head.
-/
namespace Go.Proofs.YtoaehfdjffejeaaGreat
open Go Go.RowKit
set_option linter.unusedVariables false
set_option linter.unnecessarySimpa false
set_option linter.unusedSimpArgs false
set_option maxHeartbeats 2000000
theorem TabS.born_yes {T : TabS} {k : Nat} {o : One} (ho : T.l[k]? = some o) (h2 : T.state k = 2) (hh : T.head k = false) : T.born k = ⟨T.l.set k ⟨o.state, true, o.sense⟩⟩ := by
  unfold TabS.born
  rw [h2, hh, if_pos (by decide), Int.toNat_natCast]
  congr 1
  apply List.ext_getElem?
  intro i
  have hk := (List.getElem?_eq_some_iff.1 ho).1
  rw [List.getElem?_modify, List.getElem?_set]
  by_cases hi : k = i
  · subst hi
    rw [if_pos rfl, if_pos hk, ho]
    simp
  · simp [hi]
theorem TabAt.borned {g : GW} {t b r c k : Nat} {T : TabS} {o : One} (h : TabAt g t b T) (hk : k < T.l.length) (ho : T.l[k]? = some o)
    (hb : Blk g t b 91 [.slice (some ⟨r, 0, none⟩) T.l.length c, .int .i64 (T.cnt 0), .int .i64 (T.cnt 1), .int .i64 (T.cnt 2)])
    (hr : Row g t 95 3 (.slice (some ⟨r, 0, none⟩) T.l.length c) T.l.length (T.l.flatMap One.cells)) (hne : r ≠ b) :
    TabAt ⟨g.own, g.w.setCell ⟨r, k * 3 + 1, none⟩ (.bool true)⟩ t b ⟨T.l.set k ⟨o.state, true, o.sense⟩⟩ := by
  refine ⟨⟨some ⟨r, 0, none⟩, c, ?_, ?_⟩, by simpa using h.len, fun u hu => ?_⟩
  · simp only [List.length_set]
    rw [TabS.cnt_set ho, TabS.cnt_set ho, TabS.cnt_set ho]
    have := hb.setOther (k * 3 + 1) (.bool true) hne
    simpa using this
  · simp only [List.length_set]
    have := hr.store (k * 3 + 1) (.bool true)
    rw [flat_set3 _ _ hk]
    obtain ⟨st, hd, se⟩ := o
    have e0 : (T.l.flatMap One.cells)[k * 3]? = some (.int .i64 st) := flat_at One.cells_len T.l k 0 _ ho (by omega)
    have e2 : (T.l.flatMap One.cells)[k * 3 + 2]? = some (.bool se) := flat_at One.cells_len T.l k 2 _ ho (by omega)
    rw [show (((T.l.flatMap One.cells).set (k * 3) (.int .i64 st)).set (k * 3 + 1) (.bool true)).set (k * 3 + 2) (.bool se) = (T.l.flatMap One.cells).set (k * 3 + 1) (.bool true) from ?_]
    · exact this
    · apply List.ext_getElem?
      intro i
      have l2 := (List.getElem?_eq_some_iff.1 e2).1
      have l0 := (List.getElem?_eq_some_iff.1 e0).1
      by_cases h2 : k * 3 + 2 = i
      · subst h2
        rw [List.getElem?_set_self (by rw [List.length_set, List.length_set]; exact l2), List.getElem?_set_ne (by omega), e2]
      · rw [List.getElem?_set_ne h2]
        by_cases h1 : k * 3 + 1 = i
        · subst h1
          rw [List.getElem?_set_self (by rw [List.length_set]; omega), List.getElem?_set_self (by omega)]
        · rw [List.getElem?_set_ne h1, List.getElem?_set_ne h1]
          by_cases h0 : k * 3 = i
          · subst h0
            rw [List.getElem?_set_self l0, e0]
          · rw [List.getElem?_set_ne h0]
  · rcases List.mem_or_eq_of_mem_set hu with hu | rfl
    · exact h.st u hu
    · exact h.st o (List.mem_of_getElem? ho)
theorem tab_born (g : GW) (t b : Nat) (i : Int) (T : TabS) (h : TabAt g t b T) (hst : (T.state i == 2 && !T.head i) = true) :
    Calls Tryz.prog 145 #[.pointer (some ⟨b, 0, none⟩), .int .i64 i] g.w (Does (.bool true) g (fun x => x = t) (fun g' => TabAt g' t b (T.born i))) := by
  have HS := Lib.hid (tab_state g t b i T h)
  rw [Bool.and_eq_true] at hst
  have e2 : T.state i = 2 := by simpa using hst.1
  have eh : T.head i = false := by simpa using hst.2
  cases hin : inB i T.l.length
  · rw [show T.state i = 0 by unfold TabS.state; rw [TabS.at_out hin]; rfl] at e2
    cases e2
  obtain ⟨k, rfl, hk⟩ := inB_true hin
  have hz : ((T.state k : Int) != 2) = false := by rw [e2]; rfl
  obtain ⟨r, c, o, ho, h2, hb, hr, hrl, -, k1, k2, kf, hne⟩ := h.one hk
  have HM := Lib.hid (TabS.born_yes ho e2 eh)
  have HOR := Lib.hid (hr.own r rfl)
  have H := Lib.hid (h.borned hk ho hb hr (fun e => hne e.symm))
  have eo : o.head = false := by
    have : T.head k = o.head := by unfold TabS.head; rw [TabS.at_in ho]; rfl
    rw [← this]; exact eh
  rw [eo] at k1
  rw [e2] at HS
  have c0 := hb.cell (i := 0) rfl
  have hlen := h.len
  have f1 := kf (k * 3 + 1)
  generalize T.l.length = n at *
  clear hb hr h ho hst hz e2 eh eo kf hin
  go_enter Tryz.func145, Tryz.ntmps145
  go_wp2_with fail
  refine (HS.out).mono ?_
  rintro e w1 ⟨rfl, rfl⟩
  go_wp2_with fail
  go_ret
  exact Does.of ⟨g.own, _⟩ rfl rfl (Mod.st Mod.self HOR.out) (by rw [HM.out]; exact H.out)
theorem space_born (i : Int) (g : GW) (B b bt : Nat) (S : SpaceS) (h : SpaceAt g B b bt S) (hB : 100 ≤ B) (hc : 0 ≤ S.count ∧ S.count ≤ 1099511627776) (hst : (S.tab.state i == 2 && !S.tab.head i) = true) :
    Calls Tryz.prog 106 #[.pointer (some ⟨b, 0, none⟩), .int .i64 i] g.w (Does (.bool true) g (inst B) (fun g' => SpaceAt g' B b bt { S.tick with tab := S.tab.born i })) := by
  obtain ⟨bp, bk, bl, A, cs, cm, bs, h⟩ := h
  obtain ⟨hc0, hc1⟩ := hc
  have M0 := Lib.hid (show Mod (inst B) g ⟨g.own, g.w.setCell ⟨b, 3, none⟩ (.int .i64 (S.count + 1))⟩ from Mod.set (by rw [h.blk.own]; exact ⟨by omega, by omega⟩))
  have H0 := Lib.hid (show SpaceIn ⟨g.own, g.w.setCell ⟨b, 3, none⟩ (.int .i64 (S.count + 1))⟩ B b bt S.tick bp bk bl A cs cm bs from h.tick)
  have HT := Lib.hid (tab_born _ _ _ i _ H0.out.tab hst)
  obtain ⟨a0, a1, a2, a3, a4, a5, a6, a7, a8, a9, a10, a11, a12, a13, a14, a15, al⟩ := h.blk.c16
  have af3 := h.blk.live 3
  (try simp only [GW.to] at a0 a1 a2 a3 a4 a5 a6 a7 a8 a9 a10 a11 a12 a13 a14 a15 af3 al)
  clear h hst
  go_enter Tryz.func106, Tryz.ntmps106
  go_wp2_with fail
  refine HT.out.mono ?_
  rintro e w1 ⟨rfl, own1, m1, h1⟩
  have M1 := Lib.hid (M0.out.trans (m1.mono (fun x (hx : x = B + 50) => (⟨by omega, by omega⟩ : inst B x))))
  have H1 := Lib.hid (H0.out.withTab m1 h1)
  clear m1 h1
  go_wp2_with fail
  go_ret
  exact Does.of ⟨own1, w1⟩ rfl rfl M1.out ⟨_, _, _, _, _, _, _, H1.out⟩
end Go.Proofs.YtoaehfdjffejeaaGreat

/-
  act: bears; reads.
-/
namespace Go.Proofs.YtoaehfdjffejeaaGreat
open Go Go.RowKit
set_option linter.unusedVariables false
set_option linter.unnecessarySimpa false
set_option linter.unusedSimpArgs false
set_option maxHeartbeats 2000000
set_option maxRecDepth 100000

section
variable {g : GW} {t B b k : Nat} {W : AcW} {p : AcP} {bm bs bt bp bsp bh : Nat} {cm : Cnf}
theorem act_bears [TbId] (P : AcApart t B) (hsc : 0 ≤ W.K.sp.count ∧ W.K.sp.count ≤ 1099511627776) (hnx : 0 ≤ W.a.next ∧ W.a.next ≤ 1099511627776) (H : AcIn g t B b k W p bm bs bt bp bsp bh cm) (ok oa ob oc on : Int) (x y : Nat) (hoa : 0 ≤ oa ∧ oa < W.a.locals.length) (i : Int) (l : List Int) (hgot : W.a.got = i :: l) (hst : (W.K.sp.tab.state i == 2 && !W.K.sp.tab.head i) = true) (hi : 0 ≤ i ∧ i ≤ 1099511627776) :
    Calls Tryz.prog 58 #[.pointer (some ⟨b, 0, none⟩), .pointer (some ⟨k, 0, none⟩), .agg #[.int .i64 ok, .int .i64 oa, .int .i64 ob, .int .i64 oc, .int .i64 on, .complex .f64 x y]] g.w (Does (resV (W.bears ⟨ok, oa, ob, oc, on, x, y⟩).1) g (acT t B) (fun g' => AcWAt g' t B b k (W.bears ⟨ok, oa, ob, oc, on, x, y⟩).2)) := by
  have HD := Lib.hid (show W.bears ⟨ok, oa, ob, oc, on, x, y⟩ = (W.spc { W.K.sp.tick with tab := W.K.sp.tab.born i }).laysR oa ⟨true, zRef i⟩ from by unfold AcW.bears; rw [hgot]; rfl)
  have HH := Lib.hid H
  have HP := Lib.hid P
  have hPt := P.ht
  have hPb := P.hb
  go_enter Tryz.func58, Tryz.ntmps58
  go_upto_region 1 with fail
  obtain ⟨own0, M0, Q0, R0⟩ := start2 g 26 36 [.int .i64 ok, .int .i64 oa, .int .i64 ob, .int .i64 oc, .int .i64 on, .complex .f64 x y] resZ
  unfold resZ at M0 R0 Q0
  generalize (g.w.alloc (.cells #[.int .i64 ok, .int .i64 oa, .int .i64 ob, .int .i64 oc, .int .i64 on, .complex .f64 x y] 26)).alloc (.cells #[.int .i64 0, .int .i64 0, .int .i64 0, .bool false, .complex .f64 0 0] 36) = w0 at *
  have H0 := Lib.hid (HH.out.keep0 M0)
  have M0' := Lib.hid M0
  have Q0' := Lib.hid Q0
  have R0' := Lib.hid R0
  obtain ⟨x0, x1, x2, x3, x4, x5, xl⟩ := Q0.c6
  (try simp only [GW.to] at x0 x1 x2 x3 x4 x5 xl)
  clear M0 Q0 R0
  have HK := Lib.hid (fun X => space_born i ((⟨own0, w0⟩ : GW).pt X) B bsp bt W.K.sp (H0.out.pt X).c.sp P.hb hsc hst)
  obtain ⟨q, o, hA, hq, hcell⟩ := H0.out.a.r.got.cells.cases (by rw [hgot]; simp)
  have k0 := hcell 0 (.int .i64 i) (by rw [hgot]; rfl)
  simp only [Nat.add_zero] at k0 hq
  have HK0 := Lib.hid k0
  have HQ := Lib.hid hq
  obtain ⟨a0, a1, a2, a3, a4, a5, a6, a7, a8, a9, a10, a11, a12, a13, a14, a15, a16, a17, a18, al⟩ := H0.out.a.blk.c19
  (try simp only [GW.to] at a0 a1 a2 a3 a4 a5 a6 a7 a8 a9 a10 a11 a12 a13 a14 a15 a16 a17 a18 al)
  obtain ⟨c0, c1, c2, c3, c4, c5, c6, c7, c8, c9, c10, c11, c12, cl⟩ := H0.out.c.blk.c13
  (try simp only [GW.to] at c0 c1 c2 c3 c4 c5 c6 c7 c8 c9 c10 c11 c12 cl)
  rw [hA, hgot] at a17
  simp only [List.length_cons] at a17
  have HGT := Lib.hid hgot
  clear H hgot hcell hst hsc
  refine wp_region_mixed [true, true, true, true, true, true, true, true, true, true, true, false, false] 2 11 (by kernel_rfl) (by kernel_rfl) (by kernel_rfl) ?_ (by decide) (by decide) (by decide) (by kernel_rfl) ?_
  · intro c a d v w h; cases d <;> exact h
  intro X00
  simp only [pickOps]
  repeat (go_big_quiet_step (fail))
  refine wpQuiet_nil (fun X0 => ?_)
  clear X00
  refine wpAnyM_tailL rfl (by kernel_rfl) (fun X2 => ?_)
  simp only [List.drop_succ_cons, List.drop_zero]
  go_wp2_with fail
  refine (HK.out _).mono ?_
  rintro e w1 ⟨rfl, own1, m1, h1⟩
  have P1 := (Mod.pt (Mod.refl _ _) _).trans m1
  have M1 := Lib.hid ((M0'.out.mono (S := acT t B) (fun _ => False.elim)).trans (P1.mono (S := acT t B) (fun x hx => acT_inst hx)))
  have H1 := Lib.hid (H0.out.spc HP.out P1 h1)
  have R1 := Lib.hid (R0'.out.keep P1 (fun h => by have := h.1; omega))
  have Q1 := Lib.hid (Q0'.out.keep P1 (fun h => by have := h.1; omega))
  clear P1 m1 h1 HK a0 a1 a2 a3 a4 a5 a6 a7 a8 a9 a10 a11 a12 a13 a14 a15 a16 a17 a18 al c0 c1 c2 c3 c4 c5 c6 c7 c8 c9 c10 c11 c12 cl k0 hq HK0 HQ H0 M0' R0' Q0' x0 x1 x2 x3 x4 x5 xl
  go_upto_region 3 with fail
  obtain ⟨q', o', hA', hq', hcell⟩ := H1.out.a.r.got.cells.cases (by rw [show (W.spc { W.K.sp.tick with tab := W.K.sp.tab.born i }).a.got = i :: l from HGT.out]; simp)
  rw [hA] at hA'
  injection hA' with hA'
  injection hA' with e1 e2
  subst e1 e2
  have k0 := hcell 0 (.int .i64 i) (by rw [show (W.spc { W.K.sp.tick with tab := W.K.sp.tab.born i }).a.got = i :: l from HGT.out]; rfl)
  simp only [Nat.add_zero] at k0 hq'
  obtain ⟨a0, a1, a2, a3, a4, a5, a6, a7, a8, a9, a10, a11, a12, a13, a14, a15, a16, a17, a18, al⟩ := H1.out.a.blk.c19
  (try simp only [GW.to] at a0 a1 a2 a3 a4 a5 a6 a7 a8 a9 a10 a11 a12 a13 a14 a15 a16 a17 a18 al)
  obtain ⟨x0, x1, x2, x3, x4, x5, xl⟩ := Q1.out.c6
  (try simp only [GW.to] at x0 x1 x2 x3 x4 x5 xl)
  rw [hA, show (W.spc { W.K.sp.tick with tab := W.K.sp.tab.born i }).a.got = i :: l from HGT.out] at a17
  simp only [List.length_cons] at a17
  obtain ⟨r, hr⟩ : ∃ r, r = (W.spc { W.K.sp.tick with tab := W.K.sp.tab.born i }).a.res ⟨true, zRef i⟩ 0 := ⟨_, rfl⟩
  have HRr := Lib.hid hr
  have HRF := Lib.hid (fun X => (show Calls Tryz.prog 107 #[.int .i64 i] (w1.patch X) (Gives (.complex .f64 (zRef i).1 (zRef i).2) (w1.patch X)) from by
    have h := ref_any i (w1.patch X)
    rw [show wRef i = .complex .f64 (zRef i).1 (zRef i).2 from by unfold wRef zRef; rw [if_neg (by omega)]] at h
    exact h))
  have HLY := Lib.hid (fun X => act_lays ((⟨own1, w1⟩ : GW).pt X) t b _ p oa ⟨true, zRef i⟩ r hPt (H1.out.pt X).a hnx hoa hr.symm)
  clear hr hcell hA hoa hi hnx
  generalize zRef i = zr at *
  refine wp_region_split_any [] [true, true, true, true, true, true, true, true, true, true, true, true] 12 ?sp_o 4 ?sp1 ?sp2 ?spE ?sp3 ?sp4 ?sp5 ?sp6 ?sp7 ?sp8 ?sp9 ?sp10 ?sp11 ?sp12
  case sp10 => exact rfl
  case sp1 => kernel_rfl
  case sp2 => kernel_rfl
  case spE => kernel_rfl
  case sp3 => kernel_rfl
  case sp4 => (intro c a d v w h; cases d <;> exact h)
  case sp5 => decide
  case sp6 => decide
  case sp7 => decide
  case sp8 => kernel_rfl
  case sp9 => kernel_rfl
  case sp11 => exact rfl
  intro X00
  simp only [pickOps, movesAct, moveOf, List.getElem?_toArray, List.getElem?_cons_zero, List.getElem?_cons_succ]
  (try go_simp)
  repeat (go_big_quiet_step ((go_at_call 107; exact Calls.added (HRF.out _))))
  refine wpQuiet_nil (fun X0 K Q' hK => ?_)
  clear X00
  (try go_simp)
  refine (HLY.out _).mono ?_
  rintro e w2 ⟨rfl, own2, m2, h2⟩
  have m2' : Mod (acO t) ⟨own1, w1⟩ ⟨own2, w2⟩ := (Mod.pt (Mod.refl _ _) _).trans m2
  have M2 := Lib.hid (M1.out.trans (m2'.mono (S := acT t B) (fun x hx => acT_own hx)))
  have H2 := Lib.hid (H1.out.own HP.out m2' h2)
  have R2 := Lib.hid (R1.out.keep m2' (fun h => by unfold acO at h; omega))
  clear M1 H1 R1 Q1 m2 m2' h2 HLY HRF a0 a1 a2 a3 a4 a5 a6 a7 a8 a9 a10 a11 a12 a13 a14 a15 a16 a17 a18 al x0 x1 x2 x3 x4 x5 xl k0
  obtain ⟨r0, r1, r2, r3, r4, rl⟩ := R2.out.c5
  have rf0 := R2.out.live 0
  have rf1 := R2.out.live 1
  have rf2 := R2.out.live 2
  have rf3 := R2.out.live 3
  have rf4 := R2.out.live 4
  (try simp only [GW.to] at r0 r1 r2 r3 r4 rf0 rf1 rf2 rf3 rf4 rl)
  (try go_simp)
  refine hK _ _ ?_
  clear hK K Q'
  refine wpAny_pure_step (v := .agg #[.int .i64 r.op, .int .i64 r.own, .int .i64 r.e, .bool r.v.ref, .complex .f64 r.v.z.1 r.v.z.2]) 13 _ rfl ?sp2 ?sp3 ?sp4 ?sp5 rfl (fun w => rfl) ?_
  case sp2 => kernel_rfl
  case sp3 => kernel_rfl
  case sp4 => kernel_rfl
  case sp5 => (intro c a d v w h; cases d <;> exact h)
  (try go_simp)
  refine wpAny_pure_step (v := .bool true) 14 _ rfl ?sp2 ?sp3 ?sp4 ?sp5 rfl (fun w => rfl) ?_
  case sp2 => kernel_rfl
  case sp3 => kernel_rfl
  case sp4 => kernel_rfl
  case sp5 => (intro c a d v w h; cases d <;> exact h)
  (try go_simp)
  refine wpAny_loud_step 15 _ (by kernel_rfl) rfl rfl (fun K Q' hK => ?_)
  (try go_simp)
  refine hK _ _ ?_
  clear hK K Q'
  refine wpAny_pure_step (v := .bool true) 16 _ rfl ?sp2 ?sp3 ?sp4 ?sp5 rfl (fun w => rfl) ?_
  case sp2 => kernel_rfl
  case sp3 => kernel_rfl
  case sp4 => kernel_rfl
  case sp5 => (intro c a d v w h; cases d <;> exact h)
  (try go_simp)
  refine wpAny_done (by kernel_rfl) ?_ _
  go_wp2_with fail
  obtain ⟨Mf, mf, Rf⟩ := put_res M2.out R2.out (Nat.le_succ _) (r.op) (r.own) (r.e) (r.v.ref) (r.v.z.1) (r.v.z.2)
  generalize ((((((w2).setCell ⟨g.w.heap.size + 1, 0, none⟩ (.int .i64 (r.op))).setCell ⟨g.w.heap.size + 1, 1, none⟩ (.int .i64 (r.own))).setCell ⟨g.w.heap.size + 1, 2, none⟩ (.int .i64 (r.e))).setCell ⟨g.w.heap.size + 1, 3, none⟩ (.bool (r.v.ref))).setCell ⟨g.w.heap.size + 1, 4, none⟩ (.complex .f64 (r.v.z.1) (r.v.z.2))) = wf at *
  obtain ⟨f0, f1, f2, f3, f4, fl⟩ := Rf.c5
  (try simp only [GW.to] at f0 f1 f2 f3 f4 fl)
  refine bodyPost_ret (v := .tuple #[.agg #[.int .i64 (r.op), .int .i64 (r.own), .int .i64 (r.e), .bool (r.v.ref), .complex .f64 (r.v.z.1) (r.v.z.2)], .bool true]) (by simp [results, Tryz.results58, go_sem, f0, f1, f2, f3, f4]) rfl ?_
  exact Does.of ⟨own2, wf⟩ rfl (by rw [HD.out, HRr.out]; rfl) Mf (by rw [HD.out]; exact (H2.out.keep mf (by omega) (fun x (hx : x = 9) => by omega) (fun x (hx : x = 9) => by omega)).at_)
theorem act_reads [TbId] (P : AcApart t B) (hmc : 0 ≤ W.K.mem.count ∧ W.K.mem.count ≤ 1099511627776) (hnx : 0 ≤ W.a.next ∧ W.a.next ≤ 1099511627776) (H : AcIn g t B b k W p bm bs bt bp bsp bh cm) (ok oa ob oc on : Int) (x y : Nat) (hoa : 0 ≤ oa ∧ oa < W.a.locals.length) (hin : inB W.a.addr W.K.mem.l.length = true) (hrf : (!W.a.ref || wIs (W.K.mem.peek W.a.addr)) = true) (R : AcR) (hR : (W.memW W.K.mem.tick).laysR oa ⟨W.a.ref, W.K.mem.peek W.a.addr⟩ = R) :
    Calls Tryz.prog 56 #[.pointer (some ⟨b, 0, none⟩), .pointer (some ⟨k, 0, none⟩), .agg #[.int .i64 ok, .int .i64 oa, .int .i64 ob, .int .i64 oc, .int .i64 on, .complex .f64 x y]] g.w (Does (resV R.1) g (acT t B) (fun g' => AcWAt g' t B b k R.2)) := by
  have HH := Lib.hid H
  have HP := Lib.hid P
  have hPt := P.ht
  have hPb := P.hb
  obtain ⟨u, v⟩ : ∃ q : Nat × Nat, W.K.mem.peek W.a.addr = q := ⟨_, rfl⟩
  obtain ⟨u1, u2⟩ := u
  rw [v] at hrf hR
  have HV := Lib.hid v
  go_enter Tryz.func56, Tryz.ntmps56
  go_upto_region 1 with fail
  obtain ⟨own0, M0, Q0, R0⟩ := start2 g 26 36 [.int .i64 ok, .int .i64 oa, .int .i64 ob, .int .i64 oc, .int .i64 on, .complex .f64 x y] resZ
  unfold resZ at M0 R0 Q0
  generalize (g.w.alloc (.cells #[.int .i64 ok, .int .i64 oa, .int .i64 ob, .int .i64 oc, .int .i64 on, .complex .f64 x y] 26)).alloc (.cells #[.int .i64 0, .int .i64 0, .int .i64 0, .bool false, .complex .f64 0 0] 36) = w0 at *
  have H0 := Lib.hid (HH.out.keep0 M0)
  have M0' := Lib.hid M0
  have Q0' := Lib.hid Q0
  have R0' := Lib.hid R0
  obtain ⟨x0, x1, x2, x3, x4, x5, xl⟩ := Q0.c6
  (try simp only [GW.to] at x0 x1 x2 x3 x4 x5 xl)
  clear M0 Q0 R0
  have HK := Lib.hid (fun X => mem_read ((⟨own0, w0⟩ : GW).pt X) (B + 62) bm W.a.addr W.K.mem (H0.out.pt X).c.mem hmc)
  rw [hin, v] at HK
  simp only [if_true] at HK
  obtain ⟨a0, a1, a2, a3, a4, a5, a6, a7, a8, a9, a10, a11, a12, a13, a14, a15, a16, a17, a18, al⟩ := H0.out.a.blk.c19
  (try simp only [GW.to] at a0 a1 a2 a3 a4 a5 a6 a7 a8 a9 a10 a11 a12 a13 a14 a15 a16 a17 a18 al)
  obtain ⟨c0, c1, c2, c3, c4, c5, c6, c7, c8, c9, c10, c11, c12, cl⟩ := H0.out.c.blk.c13
  (try simp only [GW.to] at c0 c1 c2 c3 c4 c5 c6 c7 c8 c9 c10 c11 c12 cl)
  clear H hin hmc v
  refine wp_region_split_any [] [true, true, true, true, true, true, true, true, true] 9 ?sp_ox1 5 ?sp1x1 ?sp2x1 ?spEx1 ?sp3x1 ?sp4x1 ?sp5x1 ?sp6x1 ?sp7x1 ?sp8x1 ?sp9x1 ?sp10x1 ?sp11x1 ?sp12x1
  case sp10x1 => exact rfl
  case sp1x1 => kernel_rfl
  case sp2x1 => kernel_rfl
  case spEx1 => kernel_rfl
  case sp3x1 => kernel_rfl
  case sp4x1 => (intro c a d v w h; cases d <;> exact h)
  case sp5x1 => decide
  case sp6x1 => decide
  case sp7x1 => decide
  case sp8x1 => kernel_rfl
  case sp9x1 => kernel_rfl
  case sp11x1 => exact rfl
  intro X00
  simp only [pickOps, movesAct, moveOf, List.getElem?_toArray, List.getElem?_cons_zero, List.getElem?_cons_succ]
  (try go_simp)
  repeat (go_big_quiet_step (fail))
  refine wpQuiet_nil (fun X0 K Q' hK => ?_)
  clear X00
  (try go_simp)
  refine (HK.out _).mono ?_
  rintro e w1 ⟨rfl, own1, m1, h1⟩
  have P1 := (Mod.pt (Mod.refl _ _) _).trans m1
  have M1 := Lib.hid ((M0'.out.mono (S := acT t B) (fun _ => False.elim)).trans (P1.mono (S := acT t B) (fun x hx => acT_mem hx)))
  have H1 := Lib.hid (H0.out.mem HP.out P1 h1)
  have R1 := Lib.hid (R0'.out.keep P1 (by omega))
  have Q1 := Lib.hid (Q0'.out.keep P1 (by omega))
  clear P1 m1 h1 HK a0 a1 a2 a3 a4 a5 a6 a7 a8 a9 a10 a11 a12 a13 a14 a15 a16 a17 a18 al c0 c1 c2 c3 c4 c5 c6 c7 c8 c9 c10 c11 c12 cl H0 M0' R0' Q0' x0 x1 x2 x3 x4 x5 xl
  (try go_simp)
  refine hK _ _ ?_
  clear hK K Q'
  refine wpAny_pure_step (v := .tuple #[.complex .f64 u1 u2, .int .i64 0]) 10 _ rfl ?sp2 ?sp3 ?sp4 ?sp5 rfl (fun w => rfl) ?_
  case sp2 => kernel_rfl
  case sp3 => kernel_rfl
  case sp4 => kernel_rfl
  case sp5 => (intro c a d v w h; cases d <;> exact h)
  (try go_simp)
  refine wpAny_pure_step (v := .complex .f64 u1 u2) 11 _ rfl ?sp2 ?sp3 ?sp4 ?sp5 rfl (fun w => rfl) ?_
  case sp2 => kernel_rfl
  case sp3 => kernel_rfl
  case sp4 => kernel_rfl
  case sp5 => (intro c a d v w h; cases d <;> exact h)
  (try go_simp)
  refine wpAny_pure_step (v := .int .i64 0) 12 _ rfl ?sp2 ?sp3 ?sp4 ?sp5 rfl (fun w => rfl) ?_
  case sp2 => kernel_rfl
  case sp3 => kernel_rfl
  case sp4 => kernel_rfl
  case sp5 => (intro c a d v w h; cases d <;> exact h)
  (try go_simp)
  refine wpAny_pure_step (v := .complex .f64 u1 u2) 13 _ rfl ?sp2 ?sp3 ?sp4 ?sp5 rfl (fun w => rfl) ?_
  case sp2 => kernel_rfl
  case sp3 => kernel_rfl
  case sp4 => kernel_rfl
  case sp5 => (intro c a d v w h; cases d <;> exact h)
  (try go_simp)
  refine wpAny_pure_step (v := .int .i64 0) 14 _ rfl ?sp2 ?sp3 ?sp4 ?sp5 rfl (fun w => rfl) ?_
  case sp2 => kernel_rfl
  case sp3 => kernel_rfl
  case sp4 => kernel_rfl
  case sp5 => (intro c a d v w h; cases d <;> exact h)
  (try go_simp)
  refine wpAny_done (by kernel_rfl) ?_ _
  obtain ⟨r, hr⟩ : ∃ r, r = (W.memW W.K.mem.tick).a.res ⟨W.a.ref, (u1, u2)⟩ 0 := ⟨_, rfl⟩
  cases hf : W.a.ref
  · have HF := Lib.hid hf
    obtain ⟨a0, a1, a2, a3, a4, a5, a6, a7, a8, a9, a10, a11, a12, a13, a14, a15, a16, a17, a18, al⟩ := H1.out.a.blk.c19
    (try simp only [GW.to] at a0 a1 a2 a3 a4 a5 a6 a7 a8 a9 a10 a11 a12 a13 a14 a15 a16 a17 a18 al)
    rw [show (W.memW W.K.mem.tick).a.ref = false from HF.out] at a14
    clear hrf hf
    rw [HF.out] at hr hR
    have HRR := Lib.hid hR
    clear hR
    have HRr := Lib.hid hr
    go_upto_region 4 with fail
    clear a0 a1 a2 a3 a4 a5 a6 a7 a8 a9 a10 a11 a12 a13 a14 a15 a16 a17 a18 al
    obtain ⟨a0, a1, a2, a3, a4, a5, a6, a7, a8, a9, a10, a11, a12, a13, a14, a15, a16, a17, a18, al⟩ := H1.out.a.blk.c19
    (try simp only [GW.to] at a0 a1 a2 a3 a4 a5 a6 a7 a8 a9 a10 a11 a12 a13 a14 a15 a16 a17 a18 al)
    rw [show (W.memW W.K.mem.tick).a.ref = false from HF.out] at a14
    obtain ⟨x0, x1, x2, x3, x4, x5, xl⟩ := Q1.out.c6
    (try simp only [GW.to] at x0 x1 x2 x3 x4 x5 xl)
    have HLY := Lib.hid (fun X => act_lays ((⟨own1, w1⟩ : GW).pt X) t b _ p oa ⟨false, (u1, u2)⟩ r hPt (H1.out.pt X).a hnx hoa hr.symm)
    clear hr hoa hnx
    refine wp_region_split_any [] [true, true, true, true, true, true, true, true, true, true] 10 ?sp_ox2 4 ?sp1x2 ?sp2x2 ?spEx2 ?sp3x2 ?sp4x2 ?sp5x2 ?sp6x2 ?sp7x2 ?sp8x2 ?sp9x2 ?sp10x2 ?sp11x2 ?sp12x2
    case sp10x2 => exact rfl
    case sp1x2 => kernel_rfl
    case sp2x2 => kernel_rfl
    case spEx2 => kernel_rfl
    case sp3x2 => kernel_rfl
    case sp4x2 => (intro c a d v w h; cases d <;> exact h)
    case sp5x2 => decide
    case sp6x2 => decide
    case sp7x2 => decide
    case sp8x2 => kernel_rfl
    case sp9x2 => kernel_rfl
    case sp11x2 => exact rfl
    intro X00
    simp only [pickOps, movesAct, moveOf, List.getElem?_toArray, List.getElem?_cons_zero, List.getElem?_cons_succ]
    (try go_simp)
    repeat (go_big_quiet_step (fail))
    refine wpQuiet_nil (fun X0 K Q' hK => ?_)
    clear X00
    (try go_simp)
    refine (HLY.out _).mono ?_
    rintro e w3 ⟨rfl, own3, m3, h3⟩
    have m3' : Mod (acO t) ⟨own1, w1⟩ ⟨own3, w3⟩ := (Mod.pt (Mod.refl _ _) _).trans m3
    have M3 := Lib.hid (M1.out.trans (m3'.mono (S := acT t B) (fun x hx => acT_own hx)))
    have H3 := Lib.hid (H1.out.own HP.out m3' h3)
    have R3 := Lib.hid (R1.out.keep m3' (fun h => by unfold acO at h; omega))
    clear M1 H1 R1 Q1 m3 m3' h3 HLY a0 a1 a2 a3 a4 a5 a6 a7 a8 a9 a10 a11 a12 a13 a14 a15 a16 a17 a18 al x0 x1 x2 x3 x4 x5 xl
    obtain ⟨r0, r1, r2, r3, r4, rl⟩ := R3.out.c5
    have rf0 := R3.out.live 0
    have rf1 := R3.out.live 1
    have rf2 := R3.out.live 2
    have rf3 := R3.out.live 3
    have rf4 := R3.out.live 4
    (try simp only [GW.to] at r0 r1 r2 r3 r4 rf0 rf1 rf2 rf3 rf4 rl)
    (try go_simp)
    refine hK _ _ ?_
    clear hK K Q'
    refine wpAny_pure_step (v := .agg #[.int .i64 r.op, .int .i64 r.own, .int .i64 r.e, .bool r.v.ref, .complex .f64 r.v.z.1 r.v.z.2]) 11 _ rfl ?sp2 ?sp3 ?sp4 ?sp5 rfl (fun w => rfl) ?_
    case sp2 => kernel_rfl
    case sp3 => kernel_rfl
    case sp4 => kernel_rfl
    case sp5 => (intro c a d v w h; cases d <;> exact h)
    (try go_simp)
    refine wpAny_pure_step (v := .bool true) 12 _ rfl ?sp2 ?sp3 ?sp4 ?sp5 rfl (fun w => rfl) ?_
    case sp2 => kernel_rfl
    case sp3 => kernel_rfl
    case sp4 => kernel_rfl
    case sp5 => (intro c a d v w h; cases d <;> exact h)
    (try go_simp)
    refine wpAny_loud_step 13 _ (by kernel_rfl) rfl rfl (fun K Q' hK => ?_)
    (try go_simp)
    refine hK _ _ ?_
    clear hK K Q'
    refine wpAny_pure_step (v := .bool true) 14 _ rfl ?sp2 ?sp3 ?sp4 ?sp5 rfl (fun w => rfl) ?_
    case sp2 => kernel_rfl
    case sp3 => kernel_rfl
    case sp4 => kernel_rfl
    case sp5 => (intro c a d v w h; cases d <;> exact h)
    (try go_simp)
    refine wpAny_done (by kernel_rfl) ?_ _
    go_wp2_with fail
    obtain ⟨Mf, mf, Rf⟩ := put_res M3.out R3.out (Nat.le_succ _) (r.op) (r.own) (r.e) (r.v.ref) (r.v.z.1) (r.v.z.2)
    generalize ((((((w3).setCell ⟨g.w.heap.size + 1, 0, none⟩ (.int .i64 (r.op))).setCell ⟨g.w.heap.size + 1, 1, none⟩ (.int .i64 (r.own))).setCell ⟨g.w.heap.size + 1, 2, none⟩ (.int .i64 (r.e))).setCell ⟨g.w.heap.size + 1, 3, none⟩ (.bool (r.v.ref))).setCell ⟨g.w.heap.size + 1, 4, none⟩ (.complex .f64 (r.v.z.1) (r.v.z.2))) = wf at *
    obtain ⟨f0, f1, f2, f3, f4, fl⟩ := Rf.c5
    (try simp only [GW.to] at f0 f1 f2 f3 f4 fl)
    refine bodyPost_ret (v := .tuple #[.agg #[.int .i64 (r.op), .int .i64 (r.own), .int .i64 (r.e), .bool (r.v.ref), .complex .f64 (r.v.z.1) (r.v.z.2)], .bool true]) (by simp [results, Tryz.results56, go_sem, f0, f1, f2, f3, f4]) rfl ?_
    exact Does.of ⟨own3, wf⟩ rfl (by rw [← HRR.out, HRr.out]; rfl) Mf (by rw [← HRR.out]; exact (H3.out.keep mf (by omega) (fun x (hx : x = 9) => by omega) (fun x (hx : x = 9) => by omega)).at_)
  · have HF := Lib.hid hf
    rw [hf] at hrf
    have HIS := Lib.hid (fun w => is_any (u1, u2) w)
    rw [show wIs (u1, u2) = true from hrf] at HIS
    simp only at HIS
    obtain ⟨a0, a1, a2, a3, a4, a5, a6, a7, a8, a9, a10, a11, a12, a13, a14, a15, a16, a17, a18, al⟩ := H1.out.a.blk.c19
    (try simp only [GW.to] at a0 a1 a2 a3 a4 a5 a6 a7 a8 a9 a10 a11 a12 a13 a14 a15 a16 a17 a18 al)
    rw [show (W.memW W.K.mem.tick).a.ref = true from HF.out] at a14
    clear hrf hf
    go_wp2_with fail
    refine (HIS.out _).mono ?_
    rintro e w2 ⟨rfl, hE⟩
    obtain ⟨own2, m2⟩ : ∃ own2, Mod (fun _ => False) (⟨own1, w1⟩ : GW) ⟨own2, w2⟩ := by
      obtain ⟨X2, rfl⟩ := hE
      refine ⟨((⟨own1, w1⟩ : GW).pt X2).own, ?_⟩
      exact (show Mod (fun _ => False) (⟨own1, w1⟩ : GW) ((⟨own1, w1⟩ : GW).pt X2) from Mod.pt (Mod.refl _ _) _)
    have M2 := Lib.hid (M1.out.trans (m2.mono (S := acT t B) (fun _ => False.elim)))
    have H2 := Lib.hid (H1.out.keep m2 id (fun x => False.elim) (fun x => False.elim))
    have R2 := Lib.hid (R1.out.keep m2 id)
    have Q2 := Lib.hid (Q1.out.keep m2 id)
    rw [HF.out] at hr hR
    have HRR := Lib.hid hR
    clear hR
    have HRr := Lib.hid hr
    clear hE m2 M1 H1 R1 Q1 a0 a1 a2 a3 a4 a5 a6 a7 a8 a9 a10 a11 a12 a13 a14 a15 a16 a17 a18 al
    go_upto_region 4 with fail
    obtain ⟨a0, a1, a2, a3, a4, a5, a6, a7, a8, a9, a10, a11, a12, a13, a14, a15, a16, a17, a18, al⟩ := H2.out.a.blk.c19
    (try simp only [GW.to] at a0 a1 a2 a3 a4 a5 a6 a7 a8 a9 a10 a11 a12 a13 a14 a15 a16 a17 a18 al)
    rw [show (W.memW W.K.mem.tick).a.ref = true from HF.out] at a14
    obtain ⟨x0, x1, x2, x3, x4, x5, xl⟩ := Q2.out.c6
    (try simp only [GW.to] at x0 x1 x2 x3 x4 x5 xl)
    have HLY := Lib.hid (fun X => act_lays ((⟨own2, w2⟩ : GW).pt X) t b _ p oa ⟨true, (u1, u2)⟩ r hPt (H2.out.pt X).a hnx hoa hr.symm)
    clear hr hoa hnx
    refine wp_region_split_any [] [true, true, true, true, true, true, true, true, true, true] 10 ?sp_ox3 4 ?sp1x3 ?sp2x3 ?spEx3 ?sp3x3 ?sp4x3 ?sp5x3 ?sp6x3 ?sp7x3 ?sp8x3 ?sp9x3 ?sp10x3 ?sp11x3 ?sp12x3
    case sp10x3 => exact rfl
    case sp1x3 => kernel_rfl
    case sp2x3 => kernel_rfl
    case spEx3 => kernel_rfl
    case sp3x3 => kernel_rfl
    case sp4x3 => (intro c a d v w h; cases d <;> exact h)
    case sp5x3 => decide
    case sp6x3 => decide
    case sp7x3 => decide
    case sp8x3 => kernel_rfl
    case sp9x3 => kernel_rfl
    case sp11x3 => exact rfl
    intro X00
    simp only [pickOps, movesAct, moveOf, List.getElem?_toArray, List.getElem?_cons_zero, List.getElem?_cons_succ]
    (try go_simp)
    repeat (go_big_quiet_step (fail))
    refine wpQuiet_nil (fun X0 K Q' hK => ?_)
    clear X00
    (try go_simp)
    refine (HLY.out _).mono ?_
    rintro e w3 ⟨rfl, own3, m3, h3⟩
    have m3' : Mod (acO t) ⟨own2, w2⟩ ⟨own3, w3⟩ := (Mod.pt (Mod.refl _ _) _).trans m3
    have M3 := Lib.hid (M2.out.trans (m3'.mono (S := acT t B) (fun x hx => acT_own hx)))
    have H3 := Lib.hid (H2.out.own HP.out m3' h3)
    have R3 := Lib.hid (R2.out.keep m3' (fun h => by unfold acO at h; omega))
    clear M2 H2 R2 Q2 m3 m3' h3 HLY a0 a1 a2 a3 a4 a5 a6 a7 a8 a9 a10 a11 a12 a13 a14 a15 a16 a17 a18 al x0 x1 x2 x3 x4 x5 xl
    obtain ⟨r0, r1, r2, r3, r4, rl⟩ := R3.out.c5
    have rf0 := R3.out.live 0
    have rf1 := R3.out.live 1
    have rf2 := R3.out.live 2
    have rf3 := R3.out.live 3
    have rf4 := R3.out.live 4
    (try simp only [GW.to] at r0 r1 r2 r3 r4 rf0 rf1 rf2 rf3 rf4 rl)
    (try go_simp)
    refine hK _ _ ?_
    clear hK K Q'
    refine wpAny_pure_step (v := .agg #[.int .i64 r.op, .int .i64 r.own, .int .i64 r.e, .bool r.v.ref, .complex .f64 r.v.z.1 r.v.z.2]) 11 _ rfl ?sp2 ?sp3 ?sp4 ?sp5 rfl (fun w => rfl) ?_
    case sp2 => kernel_rfl
    case sp3 => kernel_rfl
    case sp4 => kernel_rfl
    case sp5 => (intro c a d v w h; cases d <;> exact h)
    (try go_simp)
    refine wpAny_pure_step (v := .bool true) 12 _ rfl ?sp2 ?sp3 ?sp4 ?sp5 rfl (fun w => rfl) ?_
    case sp2 => kernel_rfl
    case sp3 => kernel_rfl
    case sp4 => kernel_rfl
    case sp5 => (intro c a d v w h; cases d <;> exact h)
    (try go_simp)
    refine wpAny_loud_step 13 _ (by kernel_rfl) rfl rfl (fun K Q' hK => ?_)
    (try go_simp)
    refine hK _ _ ?_
    clear hK K Q'
    refine wpAny_pure_step (v := .bool true) 14 _ rfl ?sp2 ?sp3 ?sp4 ?sp5 rfl (fun w => rfl) ?_
    case sp2 => kernel_rfl
    case sp3 => kernel_rfl
    case sp4 => kernel_rfl
    case sp5 => (intro c a d v w h; cases d <;> exact h)
    (try go_simp)
    refine wpAny_done (by kernel_rfl) ?_ _
    go_wp2_with fail
    obtain ⟨Mf, mf, Rf⟩ := put_res M3.out R3.out (Nat.le_succ _) (r.op) (r.own) (r.e) (r.v.ref) (r.v.z.1) (r.v.z.2)
    generalize ((((((w3).setCell ⟨g.w.heap.size + 1, 0, none⟩ (.int .i64 (r.op))).setCell ⟨g.w.heap.size + 1, 1, none⟩ (.int .i64 (r.own))).setCell ⟨g.w.heap.size + 1, 2, none⟩ (.int .i64 (r.e))).setCell ⟨g.w.heap.size + 1, 3, none⟩ (.bool (r.v.ref))).setCell ⟨g.w.heap.size + 1, 4, none⟩ (.complex .f64 (r.v.z.1) (r.v.z.2))) = wf at *
    obtain ⟨f0, f1, f2, f3, f4, fl⟩ := Rf.c5
    (try simp only [GW.to] at f0 f1 f2 f3 f4 fl)
    refine bodyPost_ret (v := .tuple #[.agg #[.int .i64 (r.op), .int .i64 (r.own), .int .i64 (r.e), .bool (r.v.ref), .complex .f64 (r.v.z.1) (r.v.z.2)], .bool true]) (by simp [results, Tryz.results56, go_sem, f0, f1, f2, f3, f4]) rfl ?_
    exact Does.of ⟨own3, wf⟩ rfl (by rw [← HRR.out, HRr.out]; rfl) Mf (by rw [← HRR.out]; exact (H3.out.keep mf (by omega) (fun x (hx : x = 9) => by omega) (fun x (hx : x = 9) => by omega)).at_)
end
end Go.Proofs.YtoaehfdjffejeaaGreat

/-
  act: makes, bears.
-/
namespace Go.Proofs.YtoaehfdjffejeaaGreat
open Go Go.RowKit
set_option linter.unusedVariables false
set_option linter.unnecessarySimpa false
set_option linter.unusedSimpArgs false
set_option maxHeartbeats 2000000
set_option maxRecDepth 100000

theorem seg_tail2 {g : GW} {t q o : Nat} {x y : Value} {xs : List Value} (h : Seg g t (some ⟨q, o, none⟩) (x :: y :: xs)) : Seg g t (some ⟨q, o + 2, none⟩) xs := by
  have := seg_tail (seg_tail h)
  exact this
section
variable {g : GW} {t B b k : Nat} {W : AcW} {p : AcP} {bm bs bt bp bsp bh : Nat} {cm : Cnf}
theorem act_makes [TbId] (P : AcApart t B) (hmc : 0 ≤ W.K.mem.count ∧ W.K.mem.count ≤ 1099511627776) (H : AcIn g t B b k W p bm bs bt bp bsp bh cm) (a : Int) (x y : Nat) (l : List Value) (hwr : W.a.writes = .int .i64 a :: .complex .f64 x y :: l) (hin : inB a W.K.mem.l.length = true) :
    Calls Tryz.prog 57 #[.pointer (some ⟨b, 0, none⟩), .pointer (some ⟨k, 0, none⟩)] g.w (Does (resV W.makes.1) g (acT t B) (fun g' => AcWAt g' t B b k W.makes.2)) := by
  have HD := Lib.hid (show W.makes = ((W.memW (W.K.mem.tick.lay a (x, y))).withA { W.a with writes := l, at_ := if l = [] then 8 else W.a.at_ }).no from by unfold AcW.makes; rw [hwr])
  have HH := Lib.hid H
  have HP := Lib.hid P
  have HWR := Lib.hid hwr
  have hPt := P.ht
  go_enter Tryz.func57, Tryz.ntmps57
  go_upto_region 1 with fail
  obtain ⟨own0, M0, R0⟩ := start1 g 36 resZ
  unfold resZ at M0 R0
  generalize (g.w.alloc (.cells #[.int .i64 0, .int .i64 0, .int .i64 0, .bool false, .complex .f64 0 0] 36)) = w0 at *
  have M0' := Lib.hid M0
  have R0' := Lib.hid R0
  clear M0 R0
  have H0 := Lib.hid (HH.out.keep0 M0'.out)
  have HK := Lib.hid (fun X => mem_write ((⟨own0, w0⟩ : GW).pt X) (B + 62) bm a x y W.K.mem (H0.out.pt X).c.mem hmc)
  rw [hin] at HK
  simp only [if_true] at HK
  obtain ⟨q, o, hA, hq, hcell⟩ := H0.out.a.r.wr.cells.cases (by rw [hwr]; simp)
  have k0 := hcell 0 (.int .i64 a) (by rw [hwr]; rfl)
  have k1 := hcell 1 (.complex .f64 x y) (by rw [hwr]; rfl)
  simp only [Nat.add_zero] at k0 k1
  have hwC := H0.out.a.r.wrC
  rw [hwr] at hwC
  simp only [List.length_cons] at hwC
  have hl2 : (l.length + 1 + 1) / 2 = l.length / 2 + 1 := by omega
  rw [hl2] at hwC
  obtain ⟨a0, a1, a2, a3, a4, a5, a6, a7, a8, a9, a10, a11, a12, a13, a14, a15, a16, a17, a18, al⟩ := H0.out.a.blk.c19
  (try simp only [GW.to] at a0 a1 a2 a3 a4 a5 a6 a7 a8 a9 a10 a11 a12 a13 a14 a15 a16 a17 a18 al)
  obtain ⟨c0, c1, c2, c3, c4, c5, c6, c7, c8, c9, c10, c11, c12, cl⟩ := H0.out.c.blk.c13
  (try simp only [GW.to] at c0 c1 c2 c3 c4 c5 c6 c7 c8 c9 c10 c11 c12 cl)
  rw [hA, hwr] at a18
  simp only [List.length_cons] at a18
  rw [hl2] at a18
  simp only at hq
  clear H hwr hcell hin hmc hl2
  refine wp_region_mixed [true, true, true, true, true, true, true, true, true, true, true, true, true, true, true, true, true, true, true, true, false, false] 2 20 (by kernel_rfl) (by kernel_rfl) (by kernel_rfl) ?_ (by decide) (by decide) (by decide) (by kernel_rfl) ?_
  · intro c a d v w h; cases d <;> exact h
  intro X00
  simp only [pickOps]
  repeat (go_big_quiet_step (fail))
  refine wpQuiet_nil (fun X0 => ?_)
  clear X00
  refine wpAnyM_tailL rfl (by kernel_rfl) (fun X2 => ?_)
  simp only [List.drop_succ_cons, List.drop_zero]
  go_wp2_with fail
  refine (HK.out _).mono ?_
  rintro e w1 ⟨rfl, own1, m1, h1⟩
  have P1 := (Mod.pt (Mod.refl _ _) _).trans m1
  have M1 := Lib.hid ((M0'.out.mono (S := acT t B) (fun _ => False.elim)).trans (P1.mono (S := acT t B) (fun x hx => acT_mem hx)))
  have H1 := Lib.hid (H0.out.mem HP.out P1 h1)
  have Z1 := Lib.hid (R0'.out.keep P1 (by have := HP.out.hb; omega))
  clear P1 m1 h1 HK a0 a1 a2 a3 a4 a5 a6 a7 a8 a9 a10 a11 a12 a13 a14 a15 a16 a17 a18 al c0 c1 c2 c3 c4 c5 c6 c7 c8 c9 c10 c11 c12 cl k0 k1 hq H0 M0' R0'
  have HSG := Lib.hid (show Seg ⟨own1, w1⟩ 0 (some ⟨q, o, none⟩) (.int .i64 a :: .complex .f64 x y :: l) from by have h := H1.out.a.r.wr; rw [show (W.memW (W.K.mem.tick.lay a (x, y))).a.writes = .int .i64 a :: .complex .f64 x y :: l from HWR.out, hA] at h; exact h)
  obtain ⟨a0, a1, a2, a3, a4, a5, a6, a7, a8, a9, a10, a11, a12, a13, a14, a15, a16, a17, a18, al⟩ := H1.out.a.blk.c19
  have af18 := H1.out.a.blk.live 18
  have af11 := H1.out.a.blk.live 11
  (try simp only [GW.to] at a0 a1 a2 a3 a4 a5 a6 a7 a8 a9 a10 a11 a12 a13 a14 a15 a16 a17 a18 af18 af11 al)
  have hl3 : (W.memW (W.K.mem.tick.lay a (x, y))).a.writes.length / 2 = l.length / 2 + 1 := by rw [show (W.memW (W.K.mem.tick.lay a (x, y))).a.writes = .int .i64 a :: .complex .f64 x y :: l from HWR.out]; simp only [List.length_cons]; omega
  rw [hl3, hA] at a18
  clear hA hl3
  by_cases hC : p.wrC = 1
  · have hl0 : l = [] := List.length_eq_zero_iff.1 (by have := H1.out.a.r.wrE; rw [show (W.memW (W.K.mem.tick.lay a (x, y))).a.writes = .int .i64 a :: .complex .f64 x y :: l from HWR.out] at this; simp only [List.length_cons] at this; omega)
    have SL := Lib.hid (Seg.nil ⟨own1, w1⟩ 0 (some ⟨q, o, none⟩))
    subst hl0
    have hlen2 : (([] : List Value) : List Value).length % 2 = 0 := by have := H1.out.a.r.wrE; rw [show (W.memW (W.K.mem.tick.lay a (x, y))).a.writes = .int .i64 a :: .complex .f64 x y :: ([] : List Value) from HWR.out] at this; simp only [List.length_cons, List.length_nil] at this ⊢; (try omega)
    have R2 : AcRows ⟨own1, w1⟩ t { W.a with writes := ([] : List Value) } { p with wrA := (some ⟨q, o, none⟩), wrC := 0 } := by
      obtain ⟨r1, r2, r3, r4, r5, r6, r7, r8, r9, r10, r11, r12⟩ := H1.out.a.r
      exact ⟨r1, r2, r3, r4, r5, r6, r7, r8, r9, SL.out, hlen2, (by show (([] : List Value) : List Value).length / 2 ≤ 0 ∧ 0 ≤ 9223372036854775807; simp only [List.length_nil] at *; omega)⟩
    have H2 := Lib.hid (H1.out.turn (A' := { W.a with writes := ([] : List Value) }) (p' := { p with wrA := (some ⟨q, o, none⟩), wrC := 0 }) HP.out (g' := ⟨own1, w1.setCell ⟨b, 18, none⟩ (.slice (some ⟨q, o, none⟩) (0) 0)⟩) (Mod.st (Mod.refl _ _) H1.out.a.blk.own) (by
      have h := H1.out.a.blk.set 18 (.slice (some ⟨q, o, none⟩) (0) 0)
      have hc : AcS.cells { W.a with writes := ([] : List Value) } { p with wrA := (some ⟨q, o, none⟩), wrC := 0 } = ((W.memW (W.K.mem.tick.lay a (x, y))).a.cells p).set 18 (.slice (some ⟨q, o, none⟩) (0) 0) := by
        unfold AcS.cells
        (try simp only [List.length_nil, Nat.zero_div])
        rfl
      rw [hc]
      exact h) R2)
    have M2 := Lib.hid (show Mod (acT t B) g ⟨own1, w1.setCell ⟨b, 18, none⟩ (.slice (some ⟨q, o, none⟩) (0) 0)⟩ from Mod.st M1.out H1.out.modA)
    have Z2 := Lib.hid (Z1.out.keep (Mod.st (Mod.refl (fun x => x = t) _) H1.out.a.blk.own : Mod (fun x => x = t) ⟨own1, w1⟩ ⟨own1, w1.setCell ⟨b, 18, none⟩ (.slice (some ⟨q, o, none⟩) (0) 0)⟩) (by omega))
    clear R2
    go_upto_region 4 with fail
    generalize w1.setCell ⟨b, 18, none⟩ (.slice (some ⟨q, o, none⟩) (0) 0) = w2 at *
    clear a0 a1 a2 a3 a4 a5 a6 a7 a8 a9 a10 a11 a12 a13 a14 a15 a16 a17 a18 al af18 af11 H1 M1 Z1
    obtain ⟨a0, a1, a2, a3, a4, a5, a6, a7, a8, a9, a10, a11, a12, a13, a14, a15, a16, a17, a18, al⟩ := H2.out.a.blk.c19
    have af11 := H2.out.a.blk.live 11
    (try simp only [GW.to] at a0 a1 a2 a3 a4 a5 a6 a7 a8 a9 a10 a11 a12 a13 a14 a15 a16 a17 a18 af11 al)
    have a18' : w2.cell? ⟨b, 18, none⟩ = some (.slice (some ⟨q, o, none⟩) (0) 0) := by first | exact a18 | (simp only [AcW.withA, List.length_nil, Nat.zero_div] at a18; exact a18)
    clear a18
    have hzz : ((((0 : Nat) : Int)) == 0) = true := rfl
    have HD2 := Lib.hid (show W.makes = ((W.memW (W.K.mem.tick.lay a (x, y))).withA { W.a with writes := [], at_ := 8 }).no by rw [HD.out]; rfl)
    have H3 := Lib.hid (H2.out.set HP.out 11 (.int .i64 8) { W.a with writes := [], at_ := 8 } rfl ⟨rfl, rfl, rfl, rfl, rfl, rfl⟩)
    have M3 := Lib.hid (show Mod (acT t B) g ⟨own1, w2.setCell ⟨b, 11, none⟩ (.int .i64 8)⟩ from Mod.st M2.out H2.out.modA)
    have R3 := Lib.hid (Z2.out.keep (Mod.st (Mod.refl (fun x => x = t) _) H2.out.a.blk.own : Mod (fun x => x = t) ⟨own1, w2⟩ ⟨own1, w2.setCell ⟨b, 11, none⟩ (.int .i64 8)⟩) (by omega))
    go_upto_region 6 with fail
    generalize w2.setCell ⟨b, 11, none⟩ (.int .i64 8) = w3 at *
    clear a0 a1 a2 a3 a4 a5 a6 a7 a8 a9 a10 a11 a12 a13 a14 a15 a16 a17 a18' al af11 H2 M2 Z2
    obtain ⟨r0, r1, r2, r3, r4, rl⟩ := R3.out.c5
    have rf0 := R3.out.live 0
    have rf1 := R3.out.live 1
    have rf2 := R3.out.live 2
    have rf3 := R3.out.live 3
    have rf4 := R3.out.live 4
    (try simp only [GW.to] at r0 r1 r2 r3 r4 rf0 rf1 rf2 rf3 rf4 rl)
    go_wp2_with fail
    obtain ⟨Mf, mf, Rf⟩ := put_res M3.out R3.out (Nat.le_refl _) (0) (0) (0) (false) (0) (0)
    generalize ((((((w3).setCell ⟨g.w.heap.size, 0, none⟩ (.int .i64 (0))).setCell ⟨g.w.heap.size, 1, none⟩ (.int .i64 (0))).setCell ⟨g.w.heap.size, 2, none⟩ (.int .i64 (0))).setCell ⟨g.w.heap.size, 3, none⟩ (.bool (false))).setCell ⟨g.w.heap.size, 4, none⟩ (.complex .f64 (0) (0))) = wf at *
    obtain ⟨f0, f1, f2, f3, f4, fl⟩ := Rf.c5
    (try simp only [GW.to] at f0 f1 f2 f3 f4 fl)
    refine bodyPost_ret (v := .tuple #[.agg #[.int .i64 (0), .int .i64 (0), .int .i64 (0), .bool (false), .complex .f64 (0) (0)], .bool false]) (by simp [results, Tryz.results57, go_sem, f0, f1, f2, f3, f4]) rfl ?_
    exact Does.of ⟨own1, wf⟩ rfl (by rw [HD2.out]; rfl) Mf (by rw [HD2.out]; exact (H3.out.keep mf (by omega) (fun x (hx : x = 9) => by omega) (fun x (hx : x = 9) => by have := HP.out.hb; omega)).at_)
  · have SL := Lib.hid (seg_tail2 HSG.out)
    cases l with
    | nil =>
      have hlen2 : (([] : List Value) : List Value).length % 2 = 0 := by have := H1.out.a.r.wrE; rw [show (W.memW (W.K.mem.tick.lay a (x, y))).a.writes = .int .i64 a :: .complex .f64 x y :: ([] : List Value) from HWR.out] at this; simp only [List.length_cons, List.length_nil] at this ⊢; (try omega)
      have R2 : AcRows ⟨own1, w1⟩ t { W.a with writes := ([] : List Value) } { p with wrA := (some ⟨q, o + 2, none⟩), wrC := (p.wrC - 1) } := by
        obtain ⟨r1, r2, r3, r4, r5, r6, r7, r8, r9, r10, r11, r12⟩ := H1.out.a.r
        exact ⟨r1, r2, r3, r4, r5, r6, r7, r8, r9, SL.out, hlen2, (by show (([] : List Value) : List Value).length / 2 ≤ (p.wrC - 1) ∧ (p.wrC - 1) ≤ 9223372036854775807; simp only [List.length_nil] at *; omega)⟩
      have H2 := Lib.hid (H1.out.turn (A' := { W.a with writes := ([] : List Value) }) (p' := { p with wrA := (some ⟨q, o + 2, none⟩), wrC := (p.wrC - 1) }) HP.out (g' := ⟨own1, w1.setCell ⟨b, 18, none⟩ (.slice (some ⟨q, o + 2, none⟩) (0) (p.wrC - 1))⟩) (Mod.st (Mod.refl _ _) H1.out.a.blk.own) (by
        have h := H1.out.a.blk.set 18 (.slice (some ⟨q, o + 2, none⟩) (0) (p.wrC - 1))
        have hc : AcS.cells { W.a with writes := ([] : List Value) } { p with wrA := (some ⟨q, o + 2, none⟩), wrC := (p.wrC - 1) } = ((W.memW (W.K.mem.tick.lay a (x, y))).a.cells p).set 18 (.slice (some ⟨q, o + 2, none⟩) (0) (p.wrC - 1)) := by
          unfold AcS.cells
          (try simp only [List.length_nil, Nat.zero_div])
          rfl
        rw [hc]
        exact h) R2)
      have M2 := Lib.hid (show Mod (acT t B) g ⟨own1, w1.setCell ⟨b, 18, none⟩ (.slice (some ⟨q, o + 2, none⟩) (0) (p.wrC - 1))⟩ from Mod.st M1.out H1.out.modA)
      have Z2 := Lib.hid (Z1.out.keep (Mod.st (Mod.refl (fun x => x = t) _) H1.out.a.blk.own : Mod (fun x => x = t) ⟨own1, w1⟩ ⟨own1, w1.setCell ⟨b, 18, none⟩ (.slice (some ⟨q, o + 2, none⟩) (0) (p.wrC - 1))⟩) (by omega))
      clear R2
      go_upto_region 4 with fail
      generalize w1.setCell ⟨b, 18, none⟩ (.slice (some ⟨q, o + 2, none⟩) (0) (p.wrC - 1)) = w2 at *
      clear a0 a1 a2 a3 a4 a5 a6 a7 a8 a9 a10 a11 a12 a13 a14 a15 a16 a17 a18 al af18 af11 H1 M1 Z1
      obtain ⟨a0, a1, a2, a3, a4, a5, a6, a7, a8, a9, a10, a11, a12, a13, a14, a15, a16, a17, a18, al⟩ := H2.out.a.blk.c19
      have af11 := H2.out.a.blk.live 11
      (try simp only [GW.to] at a0 a1 a2 a3 a4 a5 a6 a7 a8 a9 a10 a11 a12 a13 a14 a15 a16 a17 a18 af11 al)
      have a18' : w2.cell? ⟨b, 18, none⟩ = some (.slice (some ⟨q, o + 2, none⟩) (0) (p.wrC - 1)) := by first | exact a18 | (simp only [AcW.withA, List.length_nil, Nat.zero_div] at a18; exact a18)
      clear a18
      have hzz : ((((0 : Nat) : Int)) == 0) = true := rfl
      have HD2 := Lib.hid (show W.makes = ((W.memW (W.K.mem.tick.lay a (x, y))).withA { W.a with writes := [], at_ := 8 }).no by rw [HD.out]; rfl)
      have H3 := Lib.hid (H2.out.set HP.out 11 (.int .i64 8) { W.a with writes := [], at_ := 8 } rfl ⟨rfl, rfl, rfl, rfl, rfl, rfl⟩)
      have M3 := Lib.hid (show Mod (acT t B) g ⟨own1, w2.setCell ⟨b, 11, none⟩ (.int .i64 8)⟩ from Mod.st M2.out H2.out.modA)
      have R3 := Lib.hid (Z2.out.keep (Mod.st (Mod.refl (fun x => x = t) _) H2.out.a.blk.own : Mod (fun x => x = t) ⟨own1, w2⟩ ⟨own1, w2.setCell ⟨b, 11, none⟩ (.int .i64 8)⟩) (by omega))
      go_upto_region 6 with fail
      generalize w2.setCell ⟨b, 11, none⟩ (.int .i64 8) = w3 at *
      clear a0 a1 a2 a3 a4 a5 a6 a7 a8 a9 a10 a11 a12 a13 a14 a15 a16 a17 a18' al af11 H2 M2 Z2
      obtain ⟨r0, r1, r2, r3, r4, rl⟩ := R3.out.c5
      have rf0 := R3.out.live 0
      have rf1 := R3.out.live 1
      have rf2 := R3.out.live 2
      have rf3 := R3.out.live 3
      have rf4 := R3.out.live 4
      (try simp only [GW.to] at r0 r1 r2 r3 r4 rf0 rf1 rf2 rf3 rf4 rl)
      go_wp2_with fail
      obtain ⟨Mf, mf, Rf⟩ := put_res M3.out R3.out (Nat.le_refl _) (0) (0) (0) (false) (0) (0)
      generalize ((((((w3).setCell ⟨g.w.heap.size, 0, none⟩ (.int .i64 (0))).setCell ⟨g.w.heap.size, 1, none⟩ (.int .i64 (0))).setCell ⟨g.w.heap.size, 2, none⟩ (.int .i64 (0))).setCell ⟨g.w.heap.size, 3, none⟩ (.bool (false))).setCell ⟨g.w.heap.size, 4, none⟩ (.complex .f64 (0) (0))) = wf at *
      obtain ⟨f0, f1, f2, f3, f4, fl⟩ := Rf.c5
      (try simp only [GW.to] at f0 f1 f2 f3 f4 fl)
      refine bodyPost_ret (v := .tuple #[.agg #[.int .i64 (0), .int .i64 (0), .int .i64 (0), .bool (false), .complex .f64 (0) (0)], .bool false]) (by simp [results, Tryz.results57, go_sem, f0, f1, f2, f3, f4]) rfl ?_
      exact Does.of ⟨own1, wf⟩ rfl (by rw [HD2.out]; rfl) Mf (by rw [HD2.out]; exact (H3.out.keep mf (by omega) (fun x (hx : x = 9) => by omega) (fun x (hx : x = 9) => by have := HP.out.hb; omega)).at_)
    | cons z l =>
      obtain ⟨n2, hn2⟩ : ∃ n2, n2 = (z :: l).length / 2 := ⟨_, rfl⟩
      have hn3 : 1 ≤ n2 := by have := H1.out.a.r.wrE; rw [show (W.memW (W.K.mem.tick.lay a (x, y))).a.writes = .int .i64 a :: .complex .f64 x y :: z :: l from HWR.out] at this; simp only [List.length_cons] at this hn2; omega
      rw [← hn2] at a18 hwC
      have HN2 := Lib.hid hn2
      clear hn2
      have hlen2 : ((z :: l) : List Value).length % 2 = 0 := by have := H1.out.a.r.wrE; rw [show (W.memW (W.K.mem.tick.lay a (x, y))).a.writes = .int .i64 a :: .complex .f64 x y :: (z :: l) from HWR.out] at this; simp only [List.length_cons, List.length_nil] at this ⊢; (try omega)
      have R2 : AcRows ⟨own1, w1⟩ t { W.a with writes := (z :: l) } { p with wrA := (some ⟨q, o + 2, none⟩), wrC := (p.wrC - 1) } := by
        obtain ⟨r1, r2, r3, r4, r5, r6, r7, r8, r9, r10, r11, r12⟩ := H1.out.a.r
        exact ⟨r1, r2, r3, r4, r5, r6, r7, r8, r9, SL.out, hlen2, (by show ((z :: l) : List Value).length / 2 ≤ (p.wrC - 1) ∧ (p.wrC - 1) ≤ 9223372036854775807; rw [← HN2.out]; omega)⟩
      have H2 := Lib.hid (H1.out.turn (A' := { W.a with writes := (z :: l) }) (p' := { p with wrA := (some ⟨q, o + 2, none⟩), wrC := (p.wrC - 1) }) HP.out (g' := ⟨own1, w1.setCell ⟨b, 18, none⟩ (.slice (some ⟨q, o + 2, none⟩) (n2) (p.wrC - 1))⟩) (Mod.st (Mod.refl _ _) H1.out.a.blk.own) (by
        have h := H1.out.a.blk.set 18 (.slice (some ⟨q, o + 2, none⟩) (n2) (p.wrC - 1))
        have hc : AcS.cells { W.a with writes := (z :: l) } { p with wrA := (some ⟨q, o + 2, none⟩), wrC := (p.wrC - 1) } = ((W.memW (W.K.mem.tick.lay a (x, y))).a.cells p).set 18 (.slice (some ⟨q, o + 2, none⟩) (n2) (p.wrC - 1)) := by
          unfold AcS.cells
          rw [HN2.out]
          rfl
        rw [hc]
        exact h) R2)
      have M2 := Lib.hid (show Mod (acT t B) g ⟨own1, w1.setCell ⟨b, 18, none⟩ (.slice (some ⟨q, o + 2, none⟩) (n2) (p.wrC - 1))⟩ from Mod.st M1.out H1.out.modA)
      have Z2 := Lib.hid (Z1.out.keep (Mod.st (Mod.refl (fun x => x = t) _) H1.out.a.blk.own : Mod (fun x => x = t) ⟨own1, w1⟩ ⟨own1, w1.setCell ⟨b, 18, none⟩ (.slice (some ⟨q, o + 2, none⟩) (n2) (p.wrC - 1))⟩) (by omega))
      clear R2
      go_upto_region 4 with fail
      generalize w1.setCell ⟨b, 18, none⟩ (.slice (some ⟨q, o + 2, none⟩) (n2) (p.wrC - 1)) = w2 at *
      clear a0 a1 a2 a3 a4 a5 a6 a7 a8 a9 a10 a11 a12 a13 a14 a15 a16 a17 a18 al af18 af11 H1 M1 Z1
      obtain ⟨a0, a1, a2, a3, a4, a5, a6, a7, a8, a9, a10, a11, a12, a13, a14, a15, a16, a17, a18, al⟩ := H2.out.a.blk.c19
      have af11 := H2.out.a.blk.live 11
      (try simp only [GW.to] at a0 a1 a2 a3 a4 a5 a6 a7 a8 a9 a10 a11 a12 a13 a14 a15 a16 a17 a18 af11 al)
      have a18' : w2.cell? ⟨b, 18, none⟩ = some (.slice (some ⟨q, o + 2, none⟩) (n2) (p.wrC - 1)) := by rw [HN2.out]; exact a18
      clear a18
      have hzl : (((n2 : Nat) : Int) == 0) = false := beq_eq_false_iff_ne.2 (by omega)
      have HD2 := Lib.hid (show W.makes = ((W.memW (W.K.mem.tick.lay a (x, y))).withA { W.a with writes := z :: l }).no by rw [HD.out]; rfl)
      have H3 := H2
      have M3 := M2
      have R3 := Z2
      go_upto_region 6 with fail
      generalize w2 = w3 at *
      obtain ⟨r0, r1, r2, r3, r4, rl⟩ := R3.out.c5
      have rf0 := R3.out.live 0
      have rf1 := R3.out.live 1
      have rf2 := R3.out.live 2
      have rf3 := R3.out.live 3
      have rf4 := R3.out.live 4
      (try simp only [GW.to] at r0 r1 r2 r3 r4 rf0 rf1 rf2 rf3 rf4 rl)
      go_wp2_with fail
      obtain ⟨Mf, mf, Rf⟩ := put_res M3.out R3.out (Nat.le_refl _) (0) (0) (0) (false) (0) (0)
      generalize ((((((w3).setCell ⟨g.w.heap.size, 0, none⟩ (.int .i64 (0))).setCell ⟨g.w.heap.size, 1, none⟩ (.int .i64 (0))).setCell ⟨g.w.heap.size, 2, none⟩ (.int .i64 (0))).setCell ⟨g.w.heap.size, 3, none⟩ (.bool (false))).setCell ⟨g.w.heap.size, 4, none⟩ (.complex .f64 (0) (0))) = wf at *
      obtain ⟨f0, f1, f2, f3, f4, fl⟩ := Rf.c5
      (try simp only [GW.to] at f0 f1 f2 f3 f4 fl)
      refine bodyPost_ret (v := .tuple #[.agg #[.int .i64 (0), .int .i64 (0), .int .i64 (0), .bool (false), .complex .f64 (0) (0)], .bool false]) (by simp [results, Tryz.results57, go_sem, f0, f1, f2, f3, f4]) rfl ?_
      exact Does.of ⟨own1, wf⟩ rfl (by rw [HD2.out]; rfl) Mf (by rw [HD2.out]; exact (H3.out.keep mf (by omega) (fun x (hx : x = 9) => by omega) (fun x (hx : x = 9) => by have := HP.out.hb; omega)).at_)
end
end Go.Proofs.YtoaehfdjffejeaaGreat

/-
  act: runs of a thread, as plain data. No program here.
-/
namespace Go.Proofs.YtoaehfdjffejeaaGreat
open Go Go.RowKit
set_option linter.unusedVariables false
set_option maxRecDepth 1000000
namespace AcW
def kindR (o : Opr) : Bool := o.kind == 1 || (o.kind == 4 || (o.kind == 12 || (o.kind == 13 || o.kind == 18)))
def wrOk (W : AcW) : Bool := match W.a.writes with
  | .int .i64 _ :: .complex .f64 _ _ :: _ => true
  | _ => false
def okW (W : AcW) : Bool := kindR W.a.op && (W.a.at_ != 9 && ((W.a.at_ != 1 || inL W.K.c W.a.op.b) && ((W.a.at_ != 2 || inL W.K.c W.a.op.a) && ((W.a.at_ != 8 || inL W.K.c W.a.op.a) && (W.a.at_ != 7 || W.wrOk)))))
def okR (W : AcW) : Bool := W.a.phase != 3 && ((W.a.phase != 2 || W.okW) && (decide (W.a.locals.length ≤ 1000) && (decide (W.a.ops.length ≤ 1000000) && W.K.c.check == 0)))
def stepR (W : AcW) : Option AcR := if W.okR then W.step else none
def post (W : AcW) (s : Int) (flip : Bool) : AcW := { W with K := { W.K with hand := W.K.hand.post s flip } }
def untilR : Nat → AcW → Option AcR
  | 0, W => some W.no
  | n + 1, W => match W.stepR with
    | none => none
    | some x => if x.1.2 then some x else untilR n x.2
def awaitR : Nat → Int → AcW → Option AcW
  | 0, _, W => some W
  | n + 1, s, W => if W.a.status == s then some W else match W.stepR with
    | none => none
    | some x => awaitR n s x.2
end AcW
def cPair (A A1 A2 : Option Addr) : Cnf := ⟨40, 40, 2, 2, 3, 0, 9, 0, A, 2, [⟨false, A1, 3, [true, true, false]⟩, ⟨true, A2, 1, [true]⟩]⟩
theorem cPair_check (A A1 A2 : Option Addr) : (cPair A A1 A2).check = 0 := by rfl
def pairW (A A1 A2 : Option Addr) (ops : List Opr) : AcW := ⟨AcS.fresh 0 3 ops, CoreS.fresh (cPair A A1 A2)⟩
def c23 (A : Option Addr) : Cnf := ⟨4, 0, 0, 1, 1, 0, 1, 0, A, 1, [⟨false, none, 0, []⟩]⟩
theorem c23_check (A : Option Addr) : (c23 A).check = 0 := by rfl
def first23W (A : Option Addr) : AcW := ⟨AcS.fresh 0 1 [⟨12, 0, 0, 0, 0, 4617315517961601024, 0⟩], CoreS.fresh (c23 A)⟩
def opNew (a : Int) : Opr := ⟨1, a, 0, 0, 0, 0, 0⟩
end Go.Proofs.YtoaehfdjffejeaaGreat

