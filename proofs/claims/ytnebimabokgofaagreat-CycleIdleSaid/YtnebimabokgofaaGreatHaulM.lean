import Derived.Test.YtnebimabokgofaaGreatHaulS
import Derived.Test.YtnebimabokgofaaGreatTint
import Derived.Test.YtnebimabokgofaaGreatMgScope2
import Derived.Test.YtnebimabokgofaaGreatWhole
/-
  Merged: XHaulL, XHaulM.
-/
/-
  haul: the steps that look at a spine. shade.Black.
-/
namespace Go.Proofs.YtnebimabokgofaaGreat
open Go Go.RowKit
set_option linter.unusedVariables false
set_option linter.unnecessarySimpa false
set_option linter.unusedSimpArgs false
set_option maxHeartbeats 1500000
set_option maxRecDepth 100000
/-- The shade: the table's, the pile's places, how many accesses. -/
structure ShAt (g : GW) (t b bt tt bp : Nat) (T : TabS) (n : Int) : Prop where
  blk : Blk g t b 75 [.pointer (some ⟨bt, 0, none⟩), .pointer (some ⟨bp, 0, none⟩), .int .i64 n]
  tab : TabAt g tt bt T
theorem ShAt.keep {S : Nat → Prop} {g g' : GW} {t b bt tt bp : Nat} {T : TabS} {n : Int} (h : ShAt g t b bt tt bp T n) (m : Mod S g g') (h1 : ¬ S t) (h2 : ¬ S tt) : ShAt g' t b bt tt bp T n := ⟨h.blk.keep m h1, h.tab.keep m h2⟩
theorem shade_black (g : GW) (t b bt tt bp : Nat) (T : TabS) (n i : Int) (s : Bool) (h : ShAt g t b bt tt bp T n) (hn : 0 ≤ n ∧ n ≤ 1099511627776) (ht : t ≠ tt) :
    Calls Tryz.prog 110 #[.pointer (some ⟨b, 0, none⟩), .int .i64 i, .bool s] g.w (Does (.bool (T.head i && T.black i s)) g (fun x => x = t) (fun g' => ShAt g' t b bt tt bp T (n + 1))) := by
  have c0 := h.blk.cell (i := 0) rfl
  have c2 := h.blk.cell (i := 2) rfl
  have f2 := h.blk.live 2
  have hl := h.blk.lt
  have M1 := Lib.hid (show Mod (fun x => x = t) g ⟨g.own, g.w.setCell ⟨b, 2, none⟩ (.int .i64 (n + 1))⟩ from Mod.st Mod.self h.blk.own)
  have H1 := Lib.hid (show ShAt ⟨g.own, g.w.setCell ⟨b, 2, none⟩ (.int .i64 (n + 1))⟩ t b bt tt bp T (n + 1) from ⟨h.blk.set 2 (.int .i64 (n + 1)), h.tab.keep (Mod.st (T := fun x => x = t) Mod.self h.blk.own) (fun e => ht e.symm)⟩)
  have HH := Lib.hid (tab_head ⟨g.own, g.w.setCell ⟨b, 2, none⟩ (.int .i64 (n + 1))⟩ tt bt i T H1.out.tab)
  have HB := Lib.hid (tab_black ⟨g.own, g.w.setCell ⟨b, 2, none⟩ (.int .i64 (n + 1))⟩ tt bt i s T H1.out.tab)
  obtain ⟨hn0, hn1⟩ := hn
  clear h ht
  cases hh : T.head i
  · rw [hh] at HH
    go_enter Tryz.func110, Tryz.ntmps110
    go_wp2_with fail
    refine HH.out.mono ?_
    rintro e w1 ⟨rfl, rfl⟩
    go_wp2_with fail
    go_ret
    exact ⟨rfl, g.own, M1.out, H1.out⟩
  · rw [hh] at HH
    go_enter Tryz.func110, Tryz.ntmps110
    go_wp2_with fail
    refine HH.out.mono ?_
    rintro e w1 ⟨rfl, rfl⟩
    go_wp2_with fail
    refine HB.out.mono ?_
    rintro e w1 ⟨rfl, rfl⟩
    go_wp2_with fail
    go_ret
    exact ⟨by first | rfl | simp, g.own, M1.out, H1.out⟩
/-- Nothing there: the end at once. -/
theorem looks_none (g : GW) (t b bm bs : Nat) (S : HaulS) (h : HaulAt g t b S) (hpc : S.pc = 0) (hfin : S.fin = 0) :
    Calls Tryz.prog 200 #[.pointer (some ⟨b, 0, none⟩), .pointer (some ⟨bm, 0, none⟩), .pointer (some ⟨bs, 0, none⟩)] g.w (Does (.bool true) g (fun x => x = t) (fun g' => HaulAt g' t b { S with pc := 11 })) := by
  have c0 := h.blk.cell (i := 12) rfl
  have c1 := h.blk.cell (i := 10) rfl
  have f12 := h.blk.live 12
  have hl := h.blk.lt
  rw [hpc] at c0
  rw [hfin] at c1
  have HO := Lib.hid h.blk.own
  have H := Lib.hid (h.st 12 (.int .i64 11) { S with pc := 11 } rfl rfl)
  clear h hpc hfin
  go_enter Tryz.func200, Tryz.ntmps200
  go_wp2_with fail
  go_step3
  go_wp2_with fail
  rw [Exit.noGoto_ret]
  go_ret
  exact ⟨rfl, g.own, Mod.st Mod.self HO.out, H.out⟩
/-- The head's number. -/
theorem looks_head (g : GW) (t b tm bm bs : Nat) (S : HaulS) (m : MemS) (s : Nat) (i : Int) (h : HaulAt g t b S) (hm : MemAt g tm bm m) (hc : 0 ≤ m.count ∧ m.count ≤ 1099511627776) (hck : S.c.check = 0) (hs : S.frm = s) (hs2 : s < 2) (hk : 0 ≤ S.k ∧ S.k < S.c.spine) (hin : inB (spA S.c s S.k) m.l.length = true) (hw : m.peek (spA S.c s S.k) = (floatOfInt .f64 (i + 1), 4607182418800017408)) (ht : t ≠ tm) (ht1 : t + 1 ≠ tm)
    (hpc : S.pc = 0) (hfin : S.fin ≠ 0) (hi : 0 ≤ i ∧ i < S.c.frags) (hi2 : i ≤ 1099511627776) :
    Calls Tryz.prog 200 #[.pointer (some ⟨b, 0, none⟩), .pointer (some ⟨bm, 0, none⟩), .pointer (some ⟨bs, 0, none⟩)] g.w (Does (.bool true) g (fun x => x = t ∨ x = tm) (fun g' => HaulAt g' t b { S with head := i, pc := 1 } ∧ MemAt g' tm bm m.tick)) := by
  have c0 := h.blk.cell (i := 12) rfl
  have c1 := h.blk.cell (i := 13) rfl
  have f12 := h.blk.live 12
  have hl := h.blk.lt
  rw [hpc] at c0
  have HT := Lib.hid (And.intro ht ht1)
  have HO := Lib.hid h.blk.own
  have c2 := h.blk.cell (i := 10) rfl
  have hfb : (S.fin == 0) = false := beq_eq_false_iff_ne.2 hfin
  have HR := Lib.hid (haul_read g t b tm bm S m s S.k h hm hc hck hs hs2 hk hin _ _ hw ht ht1)
  have HI := Lib.hid (fun w => index_ref i hi.1 hi2 w)
  have HIF := Lib.hid hi
  generalize floatOfInt .f64 (i + 1) = p at *
  clear h hm hc hck hs hk hin hw ht ht1 hpc hfin
  go_enter Tryz.func200, Tryz.ntmps200
  go_wp2_with fail
  go_step3
  go_wp2_with fail
  refine HR.out.mono ?_
  rintro e w1 ⟨rfl, own1, m1, r1, r2⟩
  have M1 := Lib.hid m1
  have R1 := Lib.hid r1
  have R2 := Lib.hid r2
  clear m1 r1 r2 c0 c1 c2 f12 hl
  go_wp2_with fail
  refine (HI.out _).mono ?_
  rintro e w2 ⟨rfl, hE⟩
  have M2 := Lib.hid (Mod.ext (T := fun _ => False) (g := ⟨own1, w1⟩) (show Ext w1 w2 from hE) 0)
  have R3 := Lib.hid (R2.out.keep M2.out id id)
  have R1' := Lib.hid (R1.out.keep M2.out id)
  clear hE
  have c0 := R3.out.blk.cell (i := 15) rfl
  have c1 := R3.out.blk.cell (i := 12) rfl
  have c2 := R3.out.blk.cell (i := 0) rfl
  have f0 := R3.out.blk.live 15
  have f1 := R3.out.blk.live 12
  have hl := R3.out.blk.lt
  simp only [GW.to] at c0 c1 c2 f0 f1 hl
  have d1 : decide (i < S.c.frags) = true := decide_eq_true HIF.out.2
  have R4 := Lib.hid ((R3.out.st 15 (.int .i64 i) { S with head := i } rfl rfl).st 12 (.int .i64 1) { S with head := i, pc := 1 } rfl rfl)
  have M3 := Lib.hid (show Mod (fun x => x = t) (GW.to ⟨own1, w1⟩ 0 w2) ⟨(GW.to ⟨own1, w1⟩ 0 w2).own, (w2.setCell ⟨b, 15, none⟩ (.int .i64 i)).setCell ⟨b, 12, none⟩ (.int .i64 1)⟩ from Mod.st (Mod.st Mod.self R3.out.blk.own) R3.out.blk.own)
  go_wp2_with fail
  refine wp_region_mixed [true, true, true, true, true, true, true, true, true, true, true, true, true, true] 0 14 (by kernel_rfl) (by kernel_rfl) (by kernel_rfl) ?_ (by decide) (by decide) (by decide) (by kernel_rfl) ?_
  · intro c a d v w h; cases d <;> exact h
  intro X00
  simp only [pickOps]
  repeat (go_big_quiet_step (fail))
  refine wpQuiet_nil (fun X0 => ?_)
  clear X00
  refine wpAnyM_done (by kernel_rfl) (fun X0' => ?_) _
  go_wp2_with fail
  rw [Exit.noGoto_ret]
  go_ret
  refine Does.ext ⟨(GW.to ⟨own1, w1⟩ 0 w2).own, (w2.setCell ⟨b, 15, none⟩ (.int .i64 i)).setCell ⟨b, 12, none⟩ (.int .i64 1)⟩ (by (repeat (first | (with_reducible assumption) | (with_reducible exact Ext.refl _) | (with_reducible exact Ext.more _ _ _ _) | apply Ext.alloc | refine Ext.setCell ?_ (by first | exact Nat.le_refl _ | exact Nat.le_add_right _ _ | assumption) _ | apply Ext.patch | apply Ext.drew | apply Ext.drewN))) rfl ?_ (fun g3 mm => ⟨R4.out.keep mm id id, (R1'.out.keep M3.out (fun e => HT.out.1 e.symm)).keep mm id⟩)
  exact (M1.out.mono (fun x hx => Or.inr hx)).trans ((M2.out.mono (fun _ => False.elim)).trans (M3.out.mono (fun x hx => Or.inl hx)))
/-- How many slots. -/
theorem looks_size (g : GW) (t b tm bm bs : Nat) (S : HaulS) (m : MemS) (s : Nat) (i : Int) (h : HaulAt g t b S) (hm : MemAt g tm bm m) (hc : 0 ≤ m.count ∧ m.count ≤ 1099511627776) (hck : S.c.check = 0) (hs : S.frm = s) (hs2 : s < 2) (hk : 0 ≤ S.k ∧ S.k + 1 < S.c.spine) (hkb : S.k ≤ 100000) (hin : inB (spA S.c s (S.k + 1)) m.l.length = true) (hw : m.peek (spA S.c s (S.k + 1)) = (floatOfInt .f64 i, 0)) (ht : t ≠ tm) (ht1 : t + 1 ≠ tm)
    (hpc : S.pc = 1) (hi : 0 ≤ i ∧ i ≤ S.fin - S.k - 2) (hfb : S.fin ≤ 100000) :
    Calls Tryz.prog 200 #[.pointer (some ⟨b, 0, none⟩), .pointer (some ⟨bm, 0, none⟩), .pointer (some ⟨bs, 0, none⟩)] g.w (Does (.bool true) g (fun x => x = t ∨ x = tm) (fun g' => HaulAt g' t b { S with d := i, pc := 2 } ∧ MemAt g' tm bm m.tick)) := by
  have c0 := h.blk.cell (i := 12) rfl
  have c1 := h.blk.cell (i := 13) rfl
  have f12 := h.blk.live 12
  have hl := h.blk.lt
  rw [hpc] at c0
  have HT := Lib.hid (And.intro ht ht1)
  have HO := Lib.hid h.blk.own
  have HR := Lib.hid (haul_read g t b tm bm S m s (S.k + 1) h hm hc hck hs hs2 ⟨by omega, hk.2⟩ hin _ _ hw ht ht1)
  have HI := Lib.hid (fun w => nint_fits i ⟨by omega, by omega⟩ w)
  have HIF := Lib.hid hi
  have HKK := Lib.hid hk
  have hk0 := hk.1
  have e1 := IntWalk.i64_in (S.k + 1) (by omega)
  generalize floatOfInt .f64 i = p at *
  clear h hm hc hck hs hk hin hw ht ht1 hpc
  go_enter Tryz.func200, Tryz.ntmps200
  go_wp2_with fail
  refine wp_scope_fwd 0 rfl ?_
  go_wp2_with fail
  go_step3
  refine ⟨rfl, ?_⟩
  go_wp2_with fail
  refine HR.out.mono ?_
  rintro e w1 ⟨rfl, own1, m1, r1, r2⟩
  have M1 := Lib.hid m1
  have R1 := Lib.hid r1
  have R2 := Lib.hid r2
  clear m1 r1 r2 c0 c1 f12 hl
  go_wp2_with fail
  refine (HI.out _).mono ?_
  rintro e w2 ⟨rfl, hE⟩
  have M2 := Lib.hid (Mod.ext (T := fun _ => False) (g := ⟨own1, w1⟩) (show Ext w1 w2 from hE) 0)
  have R3 := Lib.hid (R2.out.keep M2.out id id)
  have R1' := Lib.hid (R1.out.keep M2.out id)
  clear hE
  have c0 := R3.out.blk.cell (i := 16) rfl
  have c1 := R3.out.blk.cell (i := 12) rfl
  have c2 := R3.out.blk.cell (i := 10) rfl
  have c3 := R3.out.blk.cell (i := 13) rfl
  have f0 := R3.out.blk.live 16
  have f1 := R3.out.blk.live 12
  have hl := R3.out.blk.lt
  simp only [GW.to] at c0 c1 c2 c3 f0 f1 hl
  obtain ⟨hi0, hi1⟩ := HIF.out
  have d1 : decide (0 ≤ i) = true := decide_eq_true hi0
  have d2 : decide (i ≤ S.fin - S.k - 2) = true := decide_eq_true hi1
  have e2 := IntWalk.i64_in (S.fin - S.k) (by omega)
  have e3 := IntWalk.i64_in (S.fin - S.k - 2) (by omega)
  have R4 := Lib.hid ((R3.out.st 16 (.int .i64 i) { S with d := i } rfl rfl).st 12 (.int .i64 2) { S with d := i, pc := 2 } rfl rfl)
  have M3 := Lib.hid (show Mod (fun x => x = t) (GW.to ⟨own1, w1⟩ 0 w2) ⟨(GW.to ⟨own1, w1⟩ 0 w2).own, (w2.setCell ⟨b, 16, none⟩ (.int .i64 i)).setCell ⟨b, 12, none⟩ (.int .i64 2)⟩ from Mod.st (Mod.st Mod.self R3.out.blk.own) R3.out.blk.own)
  go_wp2_with fail
  refine wp_region_mixed [true, true, true, true, true, true, true, true, true, true, true, true, true, true, true, true, true, true, true, true, true, true, true, true, true, true] 0 26 (by kernel_rfl) (by kernel_rfl) (by kernel_rfl) ?_ (by decide) (by decide) (by decide) (by kernel_rfl) ?_
  · intro c a d v w h; cases d <;> exact h
  intro X00
  simp only [pickOps]
  repeat (go_big_quiet_step (fail))
  refine wpQuiet_nil (fun X0 => ?_)
  clear X00
  refine wpAnyM_done (by kernel_rfl) (fun X0' => ?_) _
  go_wp2_with fail
  rw [Exit.noGoto_ret]
  go_ret
  refine Does.ext ⟨(GW.to ⟨own1, w1⟩ 0 w2).own, (w2.setCell ⟨b, 16, none⟩ (.int .i64 i)).setCell ⟨b, 12, none⟩ (.int .i64 2)⟩ (by (repeat (first | (with_reducible assumption) | (with_reducible exact Ext.refl _) | (with_reducible exact Ext.more _ _ _ _) | apply Ext.alloc | refine Ext.setCell ?_ (by first | exact Nat.le_refl _ | exact Nat.le_add_right _ _ | assumption) _ | apply Ext.patch | apply Ext.drew | apply Ext.drewN))) rfl ?_ (fun g3 mm => ⟨R4.out.keep mm id id, (R1'.out.keep M3.out (fun e => HT.out.1 e.symm)).keep mm id⟩)
  exact (M1.out.mono (fun x hx => Or.inr hx)).trans ((M2.out.mono (fun _ => False.elim)).trans (M3.out.mono (fun x hx => Or.inl hx)))
end Go.Proofs.YtnebimabokgofaaGreat
/-
  haul: black or not, told or not.
-/
namespace Go.Proofs.YtnebimabokgofaaGreat
open Go Go.RowKit
set_option linter.unusedVariables false
set_option linter.unnecessarySimpa false
set_option linter.unusedSimpArgs false
set_option maxHeartbeats 1500000
set_option maxRecDepth 100000
theorem looks_black (g : GW) (t b bm ts bs bt tt bp : Nat) (S : HaulS) (T : TabS) (n : Int) (v : Bool) (h : HaulAt g t b S) (hsh : ShAt g ts bs bt tt bp T n) (hn : 0 ≤ n ∧ n ≤ 1099511627776) (hpc : S.pc = 2) (hv : (T.head S.head && T.black S.head S.sense) = v) (h1 : t ≠ ts) (h2 : t + 1 ≠ ts) (h3 : tt ≠ t) (h4 : ts ≠ tt) :
    Calls Tryz.prog 200 #[.pointer (some ⟨b, 0, none⟩), .pointer (some ⟨bm, 0, none⟩), .pointer (some ⟨bs, 0, none⟩)] g.w (Does (.bool true) g (fun x => x = t ∨ x = ts) (fun g' => HaulAt g' t b { S with pc := if v = true then 3 else 4 } ∧ ShAt g' ts bs bt tt bp T (n + 1))) := by
  have c0 := h.blk.cell (i := 12) rfl
  have c1 := h.blk.cell (i := 15) rfl
  have c2 := h.blk.cell (i := 11) rfl
  have f12 := h.blk.live 12
  have hl := h.blk.lt
  rw [hpc] at c0
  have HT := Lib.hid (And.intro h1 (And.intro h2 (And.intro h3 h4)))
  have HO := Lib.hid h.blk.own
  have M1 := Lib.hid (show Mod (fun x => x = t) g ⟨g.own, g.w.setCell ⟨b, 12, none⟩ (.int .i64 3)⟩ from Mod.st Mod.self h.blk.own)
  have H1 := Lib.hid (h.st 12 (.int .i64 3) { S with pc := 3 } rfl rfl)
  have HBL := Lib.hid (fun X => show Calls Tryz.prog 110 #[.pointer (some ⟨bs, 0, none⟩), .int .i64 S.head, .bool S.sense] ((g.w.setCell ⟨b, 12, none⟩ (.int .i64 3)).patch X) (Does (.bool v) (GW.pt ⟨g.own, g.w.setCell ⟨b, 12, none⟩ (.int .i64 3)⟩ X) (fun x => x = ts) (fun g' => ShAt g' ts bs bt tt bp T (n + 1))) from by
    rw [← hv]
    exact shade_black (GW.pt ⟨g.own, g.w.setCell ⟨b, 12, none⟩ (.int .i64 3)⟩ X) ts bs bt tt bp T n S.head S.sense ((hsh.keep M1.out (fun e => HT.out.1 e.symm) HT.out.2.2.1).keep (Mod.pt (Mod.refl (fun _ => False) _) X) id id) hn HT.out.2.2.2)
  clear h hsh hpc hv h1 h2 h3 h4
  go_enter Tryz.func200, Tryz.ntmps200
  go_wp2_with fail
  refine wp_scope_fwd 1 rfl ?_
  go_wp2_with fail
  go_step3
  refine ⟨rfl, ?_⟩
  go_wp2_with fail
  refine wp_region_split [true, true, true, true, true, true, true, true, true] 9 ?sp_o [false, false, false, false, false, false, false, false, false, false, true] ?sp1 ?sp2 ?sp3 ?sp4 ?sp5 ?sp6 ?sp7 ?sp8 ?sp9 ?sp10 ?sp11 ?sp12 ?sp13 ?sp14 ?sp15
  case sp11 => exact rfl
  case sp1 => kernel_rfl
  case sp2 => kernel_rfl
  case sp3 => kernel_rfl
  case sp4 => (intro c a d v w h; cases d <;> exact h)
  case sp5 => decide
  case sp6 => decide
  case sp7 => decide
  case sp8 => decide
  case sp9 => kernel_rfl
  case sp10 => kernel_rfl
  case sp12 => exact rfl
  case sp13 => kernel_rfl
  case sp14 => kernel_rfl
  intro X00
  simp only [pickOps]
  repeat (go_big_quiet_step (fail))
  refine wpQuiet_nil ?_
  intro X0 K Q' hK
  clear X00
  (try go_simp)
  refine (HBL.out _).mono ?_
  rintro e w1 ⟨rfl, own1, m1, r1⟩
  have M2 := Lib.hid ((Mod.pt (Mod.refl (fun x => x = ts) _) _).trans m1)
  have R1 := Lib.hid r1
  have R2 := Lib.hid (H1.out.keep M2.out HT.out.1 HT.out.2.1)
  clear m1 r1 c0 c1 c2 f12 hl H1
  (try go_simp)
  refine hK _ _ (fun X00 => ?_)
  clear hK K Q'
  (try simp only [pickOps])
  repeat (go_big_quiet_step (fail))
  refine wpQuiet_nil (fun X2 => ?_)
  clear X00
  have M3 := Lib.hid (Mod.pt (Mod.refl (fun _ => False) ⟨own1, w1⟩) X2)
  have R1a := Lib.hid (R1.out.keep M3.out id id)
  have R2a := Lib.hid (R2.out.keep M3.out id id)
  clear R1 R2
  cases v
  · have c0 := R2a.out.blk.cell (i := 12) rfl
    have f12 := R2a.out.blk.live 12
    have hl := R2a.out.blk.lt
    simp only [GW.pt, GW.to] at c0 f12 hl
    have M4 := Lib.hid (show Mod (fun x => x = t) (GW.pt ⟨own1, w1⟩ X2) ⟨(GW.pt ⟨own1, w1⟩ X2).own, (w1.patch X2).setCell ⟨b, 12, none⟩ (.int .i64 4)⟩ from Mod.st Mod.self R2a.out.blk.own)
    have R3 := Lib.hid (R2a.out.st 12 (.int .i64 4) { S with pc := 4 } rfl rfl)
    go_wp2_with fail
    rw [Exit.noGoto_ret]
    go_ret
    exact ⟨rfl, (GW.pt ⟨own1, w1⟩ X2).own, (M1.out.mono (fun x hx => Or.inl hx)).trans ((M2.out.mono (fun x hx => Or.inr hx)).trans ((M3.out.mono (fun _ => False.elim)).trans (M4.out.mono (fun x hx => Or.inl hx)))), R3.out, R1a.out.keep M4.out (fun e => HT.out.1 e.symm) HT.out.2.2.1⟩
  · go_wp2_with fail
    rw [Exit.noGoto_ret]
    go_ret
    exact ⟨rfl, (GW.pt ⟨own1, w1⟩ X2).own, (M1.out.mono (fun x hx => Or.inl hx)).trans ((M2.out.mono (fun x hx => Or.inr hx)).trans (M3.out.mono (fun _ => False.elim))), R2a.out, R1a.out⟩
/-- Does the sentinel tell of this spine? -/
theorem looks_owner (g : GW) (t b tm bm bs : Nat) (S : HaulS) (m : MemS) (s : Nat) (p q : Nat) (v : Bool) (h : HaulAt g t b S) (hm : MemAt g tm bm m) (hc : 0 ≤ m.count ∧ m.count ≤ 1099511627776) (hck : S.c.check = 0) (hs : S.frm = s) (hs2 : s < 2) (hk : 0 ≤ S.k ∧ S.k < S.c.spine) (hh : 0 ≤ S.head ∧ S.head < S.c.frags) (hin : inB (S.head * 8 + 4) m.l.length = true) (hw : m.peek (S.head * 8 + 4) = (p, q)) (ht : t ≠ tm) (ht1 : t + 1 ≠ tm)
    (hpc : S.pc = 3) (hsp : 0 ≤ spA S.c s S.k ∧ spA S.c s S.k ≤ 1000000) (hv : sameF (p, q) (floatOfInt .f64 (spA S.c s S.k), 0) = v) :
    Calls Tryz.prog 200 #[.pointer (some ⟨b, 0, none⟩), .pointer (some ⟨bm, 0, none⟩), .pointer (some ⟨bs, 0, none⟩)] g.w (Does (.bool true) g (fun x => x = t ∨ x = tm) (fun g' => HaulAt g' t b { S with pc := if v = true then 5 else 4 } ∧ MemAt g' tm bm m.tick)) := by
  have c0 := h.blk.cell (i := 12) rfl
  have hl := h.blk.lt
  rw [hpc] at c0
  have HT := Lib.hid (And.intro ht ht1)
  have HOW := Lib.hid (haul_owner g t b S h hck hh)
  have HRD := Lib.hid (fun g' (hm' : MemAt g' tm bm m) => show Calls Tryz.prog 103 #[.pointer (some ⟨bm, 0, none⟩), .int .i64 (S.head * 8 + 4)] g'.w (Does (.tuple #[.complex .f64 p q, .int .i64 0]) g' (fun x => x = tm) (fun g' => MemAt g' tm bm m.tick)) from by
    have h1 := mem_read g' tm bm (S.head * 8 + 4) m hm' hc
    rw [hw, hin] at h1
    exact h1)
  have HSP := Lib.hid (fun (w : World) (hok : S.c.Ok w) => show Calls Tryz.prog 211 #[S.c.val, .int .i64 s, .int .i64 S.k] w (Gives (.tuple #[.int .i64 (spA S.c s S.k), .int .i64 0]) w) from by
    rw [← cAt_spine hck hs2 hk]
    exact spine_any S.c s S.k w hok hs2)
  unfold Cnf.val at HSP
  have HWH := Lib.hid (fun w => show Calls Tryz.prog 191 #[.int .i64 (spA S.c s S.k)] w (Gives (.complex .f64 (floatOfInt .f64 (spA S.c s S.k)) 0) w) from by
    have h1 := whole_any (spA S.c s S.k) w
    rw [wWhole_fits ⟨by omega, by omega⟩] at h1
    exact h1)
  have HSM := Lib.hid (fun w => show Calls Tryz.prog 152 #[.complex .f64 p q, .complex .f64 (floatOfInt .f64 (spA S.c s S.k)) 0] w (fun e w' => e = .returned (.bool v) ∧ w = w') from by
    rw [← hv]
    exact nsame_any (p, q) (floatOfInt .f64 (spA S.c s S.k), 0) w)
  generalize floatOfInt .f64 (spA S.c s S.k) = P at *
  generalize spA S.c s S.k = a at *
  have HS := Lib.hid hs
  have H := Lib.hid h
  have HM := Lib.hid hm
  generalize S.head * 8 + 4 = ow at *
  clear h hm hc hck hs hk hh hin hw ht ht1 hpc hsp hv
  go_enter Tryz.func200, Tryz.ntmps200
  go_wp2_with fail
  refine wp_scope_fwd 2 rfl ?_
  go_wp2_with fail
  go_step3
  refine ⟨rfl, ?_⟩
  go_wp2_with fail
  refine HOW.out.mono ?_
  rintro e w1 ⟨rfl, hE⟩
  have M1 := Lib.hid (Mod.ext (T := fun _ => False) (g := g) (show Ext g.w w1 from hE) 0)
  have R1 := Lib.hid (HM.out.keep M1.out id)
  have H1 := Lib.hid (H.out.keep M1.out id id)
  clear hE c0 hl
  go_wp2_with fail
  refine (HRD.out (GW.to g 0 w1) R1.out).mono ?_
  rintro e w2 ⟨rfl, own2, m2, r2⟩
  have M2 := Lib.hid m2
  have R2 := Lib.hid r2
  have H2 := Lib.hid (H1.out.keep M2.out HT.out.1 HT.out.2)
  clear m2 r2 R1 H1
  have k0 := H2.out.blk.cell (i := 0) rfl
  have k1 := H2.out.blk.cell (i := 1) rfl
  have k2 := H2.out.blk.cell (i := 2) rfl
  have k3 := H2.out.blk.cell (i := 3) rfl
  have k4 := H2.out.blk.cell (i := 4) rfl
  have k5 := H2.out.blk.cell (i := 5) rfl
  have k6 := H2.out.blk.cell (i := 6) rfl
  have k7 := H2.out.blk.cell (i := 7) rfl
  have k8 := H2.out.blk.cell (i := 8) rfl
  have c9 := H2.out.blk.cell (i := 9) rfl
  rw [HS.out] at c9
  have c12 := H2.out.blk.cell (i := 12) rfl
  have c13 := H2.out.blk.cell (i := 13) rfl
  have f12 := H2.out.blk.live 12
  have hl := H2.out.blk.lt
  simp only at k0 k1 k2 k3 k4 k5 k6 k7 k8 c9 c12 c13 f12 hl
  have HSX := Lib.hid (fun X => HSP.out (w2.patch X) (H2.out.cnf.ok.ext ⟨X, rfl⟩))
  have M3 := Lib.hid (show Mod (fun x => x = t) ⟨own2, w2⟩ ⟨own2, w2.setCell ⟨b, 12, none⟩ (.int .i64 5)⟩ from Mod.st (g := ⟨own2, w2⟩) Mod.self H2.out.blk.own)
  have H3 := Lib.hid (show HaulAt ⟨own2, w2.setCell ⟨b, 12, none⟩ (.int .i64 5)⟩ t b { S with pc := 5 } from H2.out.st 12 (.int .i64 5) { S with pc := 5 } rfl rfl)
  have M4 := Lib.hid (show Mod (fun x => x = t) ⟨own2, w2⟩ ⟨own2, (w2.setCell ⟨b, 12, none⟩ (.int .i64 5)).setCell ⟨b, 12, none⟩ (.int .i64 4)⟩ from Mod.st M3.out H2.out.blk.own)
  have H4 := Lib.hid (show HaulAt ⟨own2, (w2.setCell ⟨b, 12, none⟩ (.int .i64 5)).setCell ⟨b, 12, none⟩ (.int .i64 4)⟩ t b { S with pc := 4 } from H3.out.st 12 (.int .i64 4) { S with pc := 4 } rfl rfl)
  go_wp2_with fail
  refine wp_region_mixed [true, true, true, true, true, true, true, true, true, true, true, true, true, true, true, true, true] 0 17 (by kernel_rfl) (by kernel_rfl) (by kernel_rfl) ?_ (by decide) (by decide) (by decide) (by kernel_rfl) ?_
  · intro c a d v w h; cases d <;> exact h
  intro X00
  simp only [pickOps]
  repeat (go_big_quiet_step (exact Calls.added (HSX.out _)))
  refine wpQuiet_nil (fun X0 => ?_)
  clear X00
  refine wpAnyM_done (by kernel_rfl) (fun X0' => ?_) _
  obtain ⟨Y, hY⟩ := (show Ext w2 ((w2.patch X0).patch X0') from Ext.trans ⟨X0, rfl⟩ ⟨X0', rfl⟩)
  rw [hY]
  clear hY k0 k1 k2 k3 k4 k5 k6 k7 k8 c9 c13
  go_wp2_with fail
  refine (HWH.out _).mono ?_
  rintro e w3 ⟨rfl, hE3⟩
  have HE3 := Lib.hid (show Ext (w2.setCell ⟨b, 12, none⟩ (.int .i64 5)) w3 from Ext.trans ⟨Y, rfl⟩ hE3)
  have M5 := Lib.hid (Mod.ext (T := fun _ => False) (g := ⟨own2, w2.setCell ⟨b, 12, none⟩ (.int .i64 5)⟩) HE3.out 0)
  have H5 := Lib.hid (H3.out.keep M5.out id id)
  have R5 := Lib.hid ((R2.out.keep M3.out (fun e => HT.out.1 e.symm)).keep M5.out id)
  clear hE3 c12 f12 hl
  have f12 := H5.out.blk.live 12
  have c12 := H5.out.blk.cell (i := 12) rfl
  have hl := H5.out.blk.lt
  simp only [GW.to] at f12 c12 hl
  go_wp2_with fail
  refine (HSM.out _).mono ?_
  rintro e w4 ⟨rfl, rfl⟩
  have MA := Lib.hid ((M1.out.mono (S := fun x => x = t ∨ x = tm) (fun _ => False.elim)).trans ((M2.out.mono (fun x hx => Or.inr hx)).trans ((M3.out.mono (fun x hx => Or.inl hx)).trans (M5.out.mono (fun _ => False.elim)))))
  cases v
  · go_wp2_with fail
    rw [Exit.noGoto_ret]
    go_ret
    have M6 : Mod (fun x => x = t) (GW.to ⟨own2, w2.setCell ⟨b, 12, none⟩ (.int .i64 5)⟩ 0 w3) ⟨(GW.to ⟨own2, w2.setCell ⟨b, 12, none⟩ (.int .i64 5)⟩ 0 w3).own, w3.setCell ⟨b, 12, none⟩ (.int .i64 4)⟩ := Mod.st Mod.self H5.out.blk.own
    exact ⟨rfl, _, MA.out.trans (M6.mono (fun x hx => Or.inl hx)), H5.out.st 12 (.int .i64 4) { S with pc := 4 } rfl rfl, R5.out.keep M6 (fun e => HT.out.1 e.symm)⟩
  · go_wp2_with fail
    rw [Exit.noGoto_ret]
    go_ret
    exact ⟨rfl, _, MA.out, H5.out, R5.out⟩
end Go.Proofs.YtnebimabokgofaaGreat

