import Derived.Test.YtnebimabokgofaaGreatHaulM
import Derived.Test.YtnebimabokgofaaGreatCoil
import Derived.Test.YtnebimabokgofaaGreatMgPures
/-
  Merged: XHaulC, XHaulR.
-/
/-
  haul: the steps that copy a spine, or pass it.
-/
namespace Go
section
variable {P : Program} {a : Act} {w : World} {Q : Exit → Act → World → Prop}
theorem wp_scope_via2 {c r0 r1 : Code} (l0 l1 : Nat) (h0 : findLabel c l0 = some r0) (h1 : findLabel c l1 = some r1) (first : c.wp P (Exit.via P Q [(l0, r0), (l1, r1)]) a w) : (Code.scope c).wp P Q a w :=
  wp_scope_via [(l0, r0), (l1, r1)] (by
    intro p hp
    simp only [List.mem_cons, List.not_mem_nil, or_false] at hp
    rcases hp with rfl | rfl
    · exact h0
    · exact h1) first
end
end Go
namespace Go.Proofs.YtnebimabokgofaaGreat
open Go Go.RowKit
set_option linter.unusedVariables false
set_option linter.unnecessarySimpa false
set_option linter.unusedSimpArgs false
set_option maxHeartbeats 1500000
set_option maxRecDepth 100000
/-- Passed by. -/
theorem copies_skip (g : GW) (t b bm tk bk : Nat) (S : HaulS) (C : CoilS) (h : HaulAt g t b S) (hC : CoilAt g tk bk C) (hpc : S.pc = 4) (hd : 0 ≤ S.d ∧ S.d ≤ 10000) (hk : 0 ≤ S.k ∧ S.k ≤ 100000) (hs : C.skippable (S.d + 2) = true) (h1 : t ≠ tk) (h2 : t + 1 ≠ tk) :
    Calls Tryz.prog 201 #[.pointer (some ⟨b, 0, none⟩), .pointer (some ⟨bm, 0, none⟩), .pointer (some ⟨bk, 0, none⟩)] g.w (Does (.bool true) g (fun x => x = t ∨ x = tk) (fun g' => HaulAt g' t b S.next ∧ CoilAt g' tk bk (C.skip (S.d + 2)))) := by
  have c0 := h.blk.cell (i := 12) rfl
  have c1 := h.blk.cell (i := 16) rfl
  have hl := h.blk.lt
  rw [hpc] at c0
  have HT := Lib.hid (And.intro h1 h2)
  have H := Lib.hid h
  have HSK := Lib.hid (show Calls Tryz.prog 253 #[.pointer (some ⟨bk, 0, none⟩), .int .i64 (S.d + 2)] g.w (Does (.bool true) g (fun x => x = tk) (fun g' => CoilAt g' tk bk (C.skip (S.d + 2)))) from by
    have := coil_skip g tk bk (S.d + 2) C hC
    rw [hs] at this
    exact this)
  have e1 := IntWalk.i64_in (S.d + 2) (by omega)
  have HD := Lib.hid (And.intro hd hk)
  clear h hC hpc hs h1 h2
  go_enter Tryz.func201, Tryz.ntmps201
  go_wp2_with fail
  go_step3
  go_wp2_with fail
  refine HSK.out.mono ?_
  rintro e w1 ⟨rfl, own1, m1, r1⟩
  have M1 := Lib.hid m1
  have R1 := Lib.hid r1
  have H1 := Lib.hid (H.out.keep M1.out HT.out.1 HT.out.2)
  clear m1 r1 c0 c1 hl
  go_wp2_with fail
  refine (haul_next ⟨own1, w1⟩ t b S H1.out HD.out.2 (by have := HD.out.1; omega)).mono ?_
  rintro e w2 ⟨rfl, own2, m2, r2⟩
  have M2 := Lib.hid m2
  have R2 := Lib.hid r2
  clear m2 r2
  go_wp2_with fail
  rw [Exit.noGoto_ret]
  go_ret
  exact ⟨rfl, own2, (M1.out.mono (fun x hx => Or.inr hx)).trans (M2.out.mono (fun x hx => Or.inl hx)), R2.out, R1.out.keep M2.out (fun e => HT.out.1 e.symm)⟩
/-- The place of the new one. -/
theorem copies_copy (g : GW) (t b bm tk bk : Nat) (S : HaulS) (C : CoilS) (h : HaulAt g t b S) (hC : CoilAt g tk bk C) (hpc : S.pc = 5) (hd : 0 ≤ S.d ∧ S.d ≤ 10000) (hs : C.skippable (S.d + 2) = true) (h1 : t ≠ tk) (h2 : t + 1 ≠ tk) :
    Calls Tryz.prog 201 #[.pointer (some ⟨b, 0, none⟩), .pointer (some ⟨bm, 0, none⟩), .pointer (some ⟨bk, 0, none⟩)] g.w (Does (.bool true) g (fun x => x = t ∨ x = tk) (fun g' => HaulAt g' t b { S with dst := C.copiedAt (S.d + 2), pc := 6 } ∧ CoilAt g' tk bk (C.copy (S.d + 2)))) := by
  have c0 := h.blk.cell (i := 12) rfl
  have c1 := h.blk.cell (i := 16) rfl
  have hl := h.blk.lt
  rw [hpc] at c0
  have HT := Lib.hid (And.intro h1 h2)
  have H := Lib.hid h
  have HSK := Lib.hid (show Calls Tryz.prog 255 #[.pointer (some ⟨bk, 0, none⟩), .int .i64 (S.d + 2)] g.w (Does (.tuple #[.int .i64 (C.copiedAt (S.d + 2)), .bool true]) g (fun x => x = tk) (fun g' => CoilAt g' tk bk (C.copy (S.d + 2)))) from by
    have := coil_copy g tk bk (S.d + 2) C hC
    rw [hs] at this
    exact this)
  have e1 := IntWalk.i64_in (S.d + 2) (by omega)
  generalize C.copiedAt (S.d + 2) = u at *
  clear h hC hpc hs h1 h2
  go_enter Tryz.func201, Tryz.ntmps201
  go_wp2_with fail
  refine wp_scope_fwd 0 rfl ?_
  go_wp2_with fail
  go_step3
  refine ⟨rfl, ?_⟩
  go_wp2_with fail
  refine HSK.out.mono ?_
  rintro e w1 ⟨rfl, own1, m1, r1⟩
  have M1 := Lib.hid m1
  have R1 := Lib.hid r1
  have H1 := Lib.hid (H.out.keep M1.out HT.out.1 HT.out.2)
  clear m1 r1 c0 c1 hl
  have c0 := H1.out.blk.cell (i := 12) rfl
  have c1 := H1.out.blk.cell (i := 14) rfl
  have f0 := H1.out.blk.live 12
  have f1 := H1.out.blk.live 14
  have hl := H1.out.blk.lt
  simp only at c0 c1 f0 f1 hl
  have R2 := Lib.hid ((H1.out.st 14 (.int .i64 u) { S with dst := u } rfl rfl).st 12 (.int .i64 6) { S with dst := u, pc := 6 } rfl rfl)
  have M2 := Lib.hid (show Mod (fun x => x = t) ⟨own1, w1⟩ ⟨own1, (w1.setCell ⟨b, 14, none⟩ (.int .i64 u)).setCell ⟨b, 12, none⟩ (.int .i64 6)⟩ from Mod.st (Mod.st (g := ⟨own1, w1⟩) Mod.self H1.out.blk.own) H1.out.blk.own)
  go_wp2_with fail
  rw [Exit.noGoto_ret]
  go_ret
  exact ⟨rfl, own1, (M1.out.mono (fun x hx => Or.inr hx)).trans (M2.out.mono (fun x hx => Or.inl hx)), R2.out, R1.out.keep M2.out (fun e => HT.out.1 e.symm)⟩
/-- Its first word. -/
theorem copies_head (g : GW) (t b tm bm bk : Nat) (S : HaulS) (m : MemS) (s : Nat) (h : HaulAt g t b S) (hm : MemAt g tm bm m) (hc : 0 ≤ m.count ∧ m.count ≤ 1099511627776) (hck : S.c.check = 0) (hs : S.frm = 1 - (s : Int)) (hs2 : s < 2) (hto : 0 ≤ S.dst ∧ S.dst < S.c.spine) (htb : S.dst ≤ 100000) (hin : inB (spA S.c s (S.dst + 0)) m.l.length = true) (hh : 0 ≤ S.head ∧ S.head ≤ 1000000) (ht : t ≠ tm) (ht1 : t + 1 ≠ tm) (hpc : S.pc = 6) :
    Calls Tryz.prog 201 #[.pointer (some ⟨b, 0, none⟩), .pointer (some ⟨bm, 0, none⟩), .pointer (some ⟨bk, 0, none⟩)] g.w (Does (.bool true) g (fun x => x = t ∨ x = tm) (fun g' => HaulAt g' t b { S with pc := 7 } ∧ MemAt g' tm bm (m.tick.lay (spA S.c s (S.dst + 0)) (floatOfInt .f64 (S.head + 1), 4607182418800017408)))) := by
  have c0 := h.blk.cell (i := 12) rfl
  have c1 := h.blk.cell (i := 15) rfl
  have f0 := h.blk.live 12
  have hl := h.blk.lt
  rw [hpc] at c0
  have HT := Lib.hid (And.intro ht ht1)
  have M1 := Lib.hid (show Mod (fun x => x = t) g ⟨g.own, g.w.setCell ⟨b, 12, none⟩ (.int .i64 7)⟩ from Mod.st Mod.self h.blk.own)
  have H1 := Lib.hid (h.st 12 (.int .i64 7) { S with pc := 7 } rfl rfl)
  have R1 := Lib.hid (hm.keep M1.out (fun e => HT.out.1 e.symm))
  have HRF := Lib.hid (fun w => show Calls Tryz.prog 153 #[.int .i64 S.head] w (Gives (.complex .f64 (floatOfInt .f64 (S.head + 1)) 4607182418800017408) w) from by
    have h1 := ref_any S.head w
    unfold wRef at h1
    rw [if_neg (by omega)] at h1
    exact h1)
  have HWR := Lib.hid (fun g' (h' : HaulAt g' t b { S with pc := 7 }) (hm' : MemAt g' tm bm m) => haul_write g' t b tm bm { S with pc := 7 } m s 0 (floatOfInt .f64 (S.head + 1)) 4607182418800017408 h' hm' hc hck hs hs2 ⟨hto.1, htb⟩ (by decide) (by show S.dst + 0 < S.c.spine; omega) hin ht ht1)
  generalize floatOfInt .f64 (S.head + 1) = P at *
  clear h hm hc hck hs hto htb hin hh ht ht1 hpc
  go_enter Tryz.func201, Tryz.ntmps201
  go_wp2_with fail
  refine wp_scope_fwd 1 rfl ?_
  go_wp2_with fail
  go_step3
  refine ⟨rfl, ?_⟩
  go_wp2_with fail
  refine (HRF.out _).mono ?_
  rintro e w1 ⟨rfl, hE⟩
  have M2 := Lib.hid (Mod.ext (T := fun _ => False) (g := ⟨g.own, g.w.setCell ⟨b, 12, none⟩ (.int .i64 7)⟩) (show Ext _ w1 from hE) 0)
  have H2 := Lib.hid (H1.out.keep M2.out id id)
  have R2 := Lib.hid (R1.out.keep M2.out id)
  clear hE c0 c1 f0 hl
  go_wp2_with fail
  refine (HWR.out _ H2.out R2.out).mono ?_
  rintro e w2 ⟨rfl, own2, m2, r2, r3⟩
  have M3 := Lib.hid m2
  have R3 := Lib.hid r2
  have H3 := Lib.hid r3
  clear m2 r2 r3
  go_wp2_with fail
  rw [Exit.noGoto_ret]
  go_ret
  exact ⟨rfl, own2, (M1.out.mono (fun x hx => Or.inl hx)).trans ((M2.out.mono (fun _ => False.elim)).trans (M3.out.mono (fun x hx => Or.inr hx))), H3.out, R3.out⟩
/-- Its second word. -/
theorem copies_size (g : GW) (t b tm bm bk : Nat) (S : HaulS) (m : MemS) (s : Nat) (h : HaulAt g t b S) (hm : MemAt g tm bm m) (hc : 0 ≤ m.count ∧ m.count ≤ 1099511627776) (hck : S.c.check = 0) (hs : S.frm = 1 - (s : Int)) (hs2 : s < 2) (hto : 0 ≤ S.dst ∧ S.dst + 1 < S.c.spine) (htb : S.dst ≤ 100000) (hin : inB (spA S.c s (S.dst + 1)) m.l.length = true) (hd : 0 ≤ S.d ∧ S.d ≤ 100000) (ht : t ≠ tm) (ht1 : t + 1 ≠ tm) (hpc : S.pc = 7) :
    Calls Tryz.prog 201 #[.pointer (some ⟨b, 0, none⟩), .pointer (some ⟨bm, 0, none⟩), .pointer (some ⟨bk, 0, none⟩)] g.w (Does (.bool true) g (fun x => x = t ∨ x = tm) (fun g' => HaulAt g' t b { S with j := 0, pc := if S.d = 0 then 10 else 8 } ∧ MemAt g' tm bm (m.tick.lay (spA S.c s (S.dst + 1)) (floatOfInt .f64 S.d, 0)))) := by
  have c0 := h.blk.cell (i := 12) rfl
  have c1 := h.blk.cell (i := 16) rfl
  have hl := h.blk.lt
  rw [hpc] at c0
  have HT := Lib.hid (And.intro ht ht1)
  have H := Lib.hid h
  have HM := Lib.hid hm
  have HWH := Lib.hid (fun w => show Calls Tryz.prog 191 #[.int .i64 S.d] w (Gives (.complex .f64 (floatOfInt .f64 S.d) 0) w) from by
    have h1 := whole_any S.d w
    rw [wWhole_fits ⟨by omega, by omega⟩] at h1
    exact h1)
  have HWR := Lib.hid (fun g' (h' : HaulAt g' t b S) (hm' : MemAt g' tm bm m) => haul_write g' t b tm bm S m s 1 (floatOfInt .f64 S.d) 0 h' hm' hc hck hs hs2 ⟨hto.1, htb⟩ (by decide) (by omega) hin ht ht1)
  generalize floatOfInt .f64 S.d = P at *
  clear h hm hc hck hs hto htb hin ht ht1 hpc
  go_enter Tryz.func201, Tryz.ntmps201
  go_wp2_with fail
  refine wp_scope_via2 2 6 rfl rfl ?_
  go_wp2_with fail
  go_step3
  refine via_here ?_
  go_wp2_with fail
  refine (HWH.out _).mono ?_
  rintro e w1 ⟨rfl, hE⟩
  have M1 := Lib.hid (Mod.ext (T := fun _ => False) (g := g) (show Ext g.w w1 from hE) 0)
  have H1 := Lib.hid (H.out.keep M1.out id id)
  have R1 := Lib.hid (HM.out.keep M1.out id)
  clear hE c0 c1 hl
  go_wp2_with fail
  refine (HWR.out _ H1.out R1.out).mono ?_
  rintro e w2 ⟨rfl, own2, m2, r2, r3⟩
  have M2 := Lib.hid m2
  have R2 := Lib.hid r2
  have H2 := Lib.hid r3
  clear m2 r2 r3
  have c12 := H2.out.blk.cell (i := 12) rfl
  have c16 := H2.out.blk.cell (i := 16) rfl
  have c17 := H2.out.blk.cell (i := 17) rfl
  have f12 := H2.out.blk.live 12
  have f17 := H2.out.blk.live 17
  have hl := H2.out.blk.lt
  simp only at c12 c16 c17 f12 f17 hl
  go_wp2_with fail
  go_step3
  refine via_here ?_
  have H3 := Lib.hid (show HaulAt ⟨own2, (w2.setCell ⟨b, 17, none⟩ (.int .i64 0)).setCell ⟨b, 12, none⟩ (.int .i64 8)⟩ t b { S with j := 0, pc := 8 } from (H2.out.st 17 (.int .i64 0) { S with j := 0 } rfl rfl).st 12 (.int .i64 8) { S with j := 0, pc := 8 } rfl rfl)
  have M3 := Lib.hid (show Mod (fun x => x = t) ⟨own2, w2⟩ ⟨own2, (w2.setCell ⟨b, 17, none⟩ (.int .i64 0)).setCell ⟨b, 12, none⟩ (.int .i64 8)⟩ from Mod.st (Mod.st (g := ⟨own2, w2⟩) Mod.self H2.out.blk.own) H2.out.blk.own)
  have MA := Lib.hid ((M1.out.mono (S := fun x => x = t ∨ x = tm) (fun _ => False.elim)).trans ((M2.out.mono (fun x hx => Or.inr hx)).trans (M3.out.mono (fun x hx => Or.inl hx))))
  have R3 := Lib.hid (R2.out.keep M3.out (fun e => HT.out.1 e.symm))
  clear M1 M2 R1 H1 R2
  by_cases hd0 : S.d = 0
  · have hz : ((0 : Int) == S.d) = true := by rw [hd0]; rfl
    have HD := Lib.hid hd0
    clear hd0
    have H4 := Lib.hid (H3.out.st 12 (.int .i64 10) { S with j := 0, pc := 10 } rfl rfl)
    have M4 := Lib.hid (show Mod (fun x => x = t) ⟨own2, (w2.setCell ⟨b, 17, none⟩ (.int .i64 0)).setCell ⟨b, 12, none⟩ (.int .i64 8)⟩ ⟨own2, ((w2.setCell ⟨b, 17, none⟩ (.int .i64 0)).setCell ⟨b, 12, none⟩ (.int .i64 8)).setCell ⟨b, 12, none⟩ (.int .i64 10)⟩ from Mod.st (g := ⟨own2, (w2.setCell ⟨b, 17, none⟩ (.int .i64 0)).setCell ⟨b, 12, none⟩ (.int .i64 8)⟩) Mod.self H3.out.blk.own)
    go_wp2_with fail
    refine wp_region_mixed [true, true, true, true, true, true, true, true, true] 0 9 (by kernel_rfl) (by kernel_rfl) (by kernel_rfl) ?_ (by decide) (by decide) (by decide) (by kernel_rfl) ?_
    · intro c a d v w h; cases d <;> exact h
    intro X00
    simp only [pickOps]
    repeat (go_big_quiet_step (fail))
    refine wpQuiet_nil (fun X0 => ?_)
    clear X00
    refine wpAnyM_done (by kernel_rfl) (fun X0' => ?_) _
    go_wp2_with fail
    rw [Exit.via_ret]
    go_ret
    refine Does.ext ⟨own2, ((w2.setCell ⟨b, 17, none⟩ (.int .i64 0)).setCell ⟨b, 12, none⟩ (.int .i64 8)).setCell ⟨b, 12, none⟩ (.int .i64 10)⟩ (by (repeat (first | (with_reducible assumption) | (with_reducible exact Ext.refl _) | (with_reducible exact Ext.more _ _ _ _) | apply Ext.alloc | refine Ext.setCell ?_ (by first | exact Nat.le_refl _ | exact Nat.le_add_right _ _ | assumption) _ | apply Ext.patch | apply Ext.drew | apply Ext.drewN))) rfl (MA.out.trans (M4.out.mono (fun x hx => Or.inl hx))) (fun g3 mm => ⟨?_, (R3.out.keep M4.out (fun e => HT.out.1 e.symm)).keep mm id⟩)
    rw [if_pos HD.out]
    exact H4.out.keep mm id id
  · have hz : ((0 : Int) == S.d) = false := beq_eq_false_iff_ne.2 (by omega)
    have HD := Lib.hid hd0
    clear hd0
    go_wp2_with fail
    refine wp_region_mixed [true, true, true, true, true, true, true, true, true] 0 9 (by kernel_rfl) (by kernel_rfl) (by kernel_rfl) ?_ (by decide) (by decide) (by decide) (by kernel_rfl) ?_
    · intro c a d v w h; cases d <;> exact h
    intro X00
    simp only [pickOps]
    repeat (go_big_quiet_step (fail))
    refine wpQuiet_nil (fun X0 => ?_)
    clear X00
    refine wpAnyM_done (by kernel_rfl) (fun X0' => ?_) _
    go_wp2_with fail
    rw [Exit.via_ret]
    go_ret
    refine Does.ext ⟨own2, (w2.setCell ⟨b, 17, none⟩ (.int .i64 0)).setCell ⟨b, 12, none⟩ (.int .i64 8)⟩ (by (repeat (first | (with_reducible assumption) | (with_reducible exact Ext.refl _) | (with_reducible exact Ext.more _ _ _ _) | apply Ext.alloc | refine Ext.setCell ?_ (by first | exact Nat.le_refl _ | exact Nat.le_add_right _ _ | assumption) _ | apply Ext.patch | apply Ext.drew | apply Ext.drewN))) rfl MA.out (fun g3 mm => ⟨?_, R3.out.keep mm id⟩)
    rw [if_neg HD.out]
    exact H3.out.keep mm id id
/-- A slot is written. -/
theorem copies_write (g : GW) (t b tm bm bk : Nat) (S : HaulS) (m : MemS) (s : Nat) (h : HaulAt g t b S) (hm : MemAt g tm bm m) (hc : 0 ≤ m.count ∧ m.count ≤ 1099511627776) (hck : S.c.check = 0) (hs : S.frm = 1 - (s : Int)) (hs2 : s < 2) (hto : 0 ≤ S.dst ∧ S.dst + (2 + S.j) < S.c.spine) (htb : S.dst ≤ 100000) (hin : inB (spA S.c s (S.dst + (2 + S.j))) m.l.length = true) (hj : 0 ≤ S.j ∧ S.j ≤ 90000) (ht : t ≠ tm) (ht1 : t + 1 ≠ tm) (hpc : S.pc = 9) :
    Calls Tryz.prog 201 #[.pointer (some ⟨b, 0, none⟩), .pointer (some ⟨bm, 0, none⟩), .pointer (some ⟨bk, 0, none⟩)] g.w (Does (.bool true) g (fun x => x = t ∨ x = tm) (fun g' => HaulAt g' t b { S with j := S.j + 1, pc := if S.j + 1 = S.d then 10 else 8 } ∧ MemAt g' tm bm (m.tick.lay (spA S.c s (S.dst + (2 + S.j))) (S.wp, S.wq)))) := by
  have c0 := h.blk.cell (i := 12) rfl
  have c1 := h.blk.cell (i := 17) rfl
  have c2 := h.blk.cell (i := 18) rfl
  have hl := h.blk.lt
  rw [hpc] at c0
  have HT := Lib.hid (And.intro ht ht1)
  have H := Lib.hid h
  obtain ⟨hj0, hj1⟩ := hj
  have e1 := IntWalk.i64_in (2 + S.j) (by omega)
  have e2 := IntWalk.i64_in (S.j + 1) (by omega)
  have HWR := Lib.hid (fun X => haul_write (g.pt X) t b tm bm S m s (2 + S.j) S.wp S.wq (h.keep (Mod.pt (Mod.refl (fun _ => False) g) X) id id) (hm.pt X) hc hck hs hs2 ⟨hto.1, htb⟩ ⟨by omega, by omega⟩ hto.2 hin ht ht1)
  clear h hm hc hck hs hto htb hin ht ht1 hpc
  go_enter Tryz.func201, Tryz.ntmps201
  go_wp2_with fail
  refine wp_scope_fwd 4 rfl ?_
  go_wp2_with fail
  go_step3
  refine ⟨rfl, ?_⟩
  go_wp2_with fail
  refine wp_region_split [true, true, true, true, true, true, true, true, true, true, true] 11 ?sp_o [false, false, false, false, false, false, false, false, false, false, false, false, true] ?sp1 ?sp2 ?sp3 ?sp4 ?sp5 ?sp6 ?sp7 ?sp8 ?sp9 ?sp10 ?sp11 ?sp12 ?sp13 ?sp14 ?sp15
  case sp11 => exact rfl
  case sp1 => kernel_rfl
  case sp2 => kernel_rfl
  case sp3 => kernel_rfl
  case sp4 => (intro c a d v w h; cases d <;> exact h)
  case sp5 => decide
  case sp6 => decide
  case sp7 => decide
  case sp8 => decide
  case sp9 => kernel_rfl
  case sp10 => kernel_rfl
  case sp12 => exact rfl
  case sp13 => kernel_rfl
  case sp14 => kernel_rfl
  intro X00
  simp only [pickOps]
  repeat (go_big_quiet_step (fail))
  refine wpQuiet_nil ?_
  intro X0 K Q' hK
  clear X00
  (try go_simp)
  refine (HWR.out _).mono ?_
  rintro e w1 ⟨rfl, own1, m1, r1, r2⟩
  have M1 := Lib.hid ((Mod.pt (Mod.refl (fun x => x = tm) _) _).trans m1)
  have R1 := Lib.hid r1
  have H1 := Lib.hid r2
  clear m1 r1 r2 c0 c1 c2 hl
  (try go_simp)
  refine hK _ _ (fun X00 => ?_)
  clear hK K Q'
  (try simp only [pickOps])
  repeat (go_big_quiet_step (fail))
  refine wpQuiet_nil (fun X2 => ?_)
  clear X00
  have M2 := Lib.hid (Mod.pt (Mod.refl (fun _ => False) ⟨own1, w1⟩) X2)
  have H2 := Lib.hid (H1.out.keep M2.out id id)
  have R2 := Lib.hid (R1.out.keep M2.out id)
  have c12 := H2.out.blk.cell (i := 12) rfl
  have c16 := H2.out.blk.cell (i := 16) rfl
  have c17 := H2.out.blk.cell (i := 17) rfl
  have f12 := H2.out.blk.live 12
  have f17 := H2.out.blk.live 17
  have hl := H2.out.blk.lt
  simp only [GW.pt, GW.to] at c12 c16 c17 f12 f17 hl
  have HO := Lib.hid H2.out.blk.own
  have H3 := Lib.hid (show HaulAt ⟨(GW.pt ⟨own1, w1⟩ X2).own, ((w1.patch X2).setCell ⟨b, 17, none⟩ (.int .i64 (S.j + 1))).setCell ⟨b, 12, none⟩ (.int .i64 8)⟩ t b { S with j := S.j + 1, pc := 8 } from (H2.out.st 17 (.int .i64 (S.j + 1)) { S with j := S.j + 1 } rfl rfl).st 12 (.int .i64 8) { S with j := S.j + 1, pc := 8 } rfl rfl)
  have M3 := Lib.hid (show Mod (fun x => x = t) (GW.pt ⟨own1, w1⟩ X2) ⟨(GW.pt ⟨own1, w1⟩ X2).own, ((w1.patch X2).setCell ⟨b, 17, none⟩ (.int .i64 (S.j + 1))).setCell ⟨b, 12, none⟩ (.int .i64 8)⟩ from Mod.st (Mod.st (g := GW.pt ⟨own1, w1⟩ X2) Mod.self HO.out) HO.out)
  have R3 := Lib.hid (R2.out.keep M3.out (fun e => HT.out.1 e.symm))
  have MA := Lib.hid ((M1.out.mono (S := fun x => x = t ∨ x = tm) (fun x hx => Or.inr hx)).trans ((M2.out.mono (fun _ => False.elim)).trans (M3.out.mono (fun x hx => Or.inl hx))))
  by_cases hd0 : S.j + 1 = S.d
  · have hz : (S.j + 1 == S.d) = true := by rw [hd0]; simp
    have HD := Lib.hid hd0
    clear hd0
    have H4 := Lib.hid (H3.out.st 12 (.int .i64 10) { S with j := S.j + 1, pc := 10 } rfl rfl)
    have M4 := Lib.hid (show Mod (fun x => x = t) ⟨(GW.pt ⟨own1, w1⟩ X2).own, ((w1.patch X2).setCell ⟨b, 17, none⟩ (.int .i64 (S.j + 1))).setCell ⟨b, 12, none⟩ (.int .i64 8)⟩ ⟨(GW.pt ⟨own1, w1⟩ X2).own, (((w1.patch X2).setCell ⟨b, 17, none⟩ (.int .i64 (S.j + 1))).setCell ⟨b, 12, none⟩ (.int .i64 8)).setCell ⟨b, 12, none⟩ (.int .i64 10)⟩ from Mod.st (g := ⟨(GW.pt ⟨own1, w1⟩ X2).own, ((w1.patch X2).setCell ⟨b, 17, none⟩ (.int .i64 (S.j + 1))).setCell ⟨b, 12, none⟩ (.int .i64 8)⟩) Mod.self H3.out.blk.own)
    go_wp2_with fail
    go_step3
    go_wp2_with fail
    refine wp_region_mixed [true, true, true, true, true, true, true, true, true] 0 9 (by kernel_rfl) (by kernel_rfl) (by kernel_rfl) ?_ (by decide) (by decide) (by decide) (by kernel_rfl) ?_
    · intro c a d v w h; cases d <;> exact h
    intro X00
    simp only [pickOps]
    repeat (go_big_quiet_step (fail))
    refine wpQuiet_nil (fun X0 => ?_)
    clear X00
    refine wpAnyM_done (by kernel_rfl) (fun X0' => ?_) _
    go_wp2_with fail
    rw [Exit.noGoto_ret]
    go_ret
    refine Does.ext ⟨(GW.pt ⟨own1, w1⟩ X2).own, (((w1.patch X2).setCell ⟨b, 17, none⟩ (.int .i64 (S.j + 1))).setCell ⟨b, 12, none⟩ (.int .i64 8)).setCell ⟨b, 12, none⟩ (.int .i64 10)⟩ (by (repeat (first | (with_reducible assumption) | (with_reducible exact Ext.refl _) | (with_reducible exact Ext.more _ _ _ _) | apply Ext.alloc | refine Ext.setCell ?_ (by first | exact Nat.le_refl _ | exact Nat.le_add_right _ _ | assumption) _ | apply Ext.patch | apply Ext.drew | apply Ext.drewN))) rfl (MA.out.trans (M4.out.mono (fun x hx => Or.inl hx))) (fun g3 mm => ⟨?_, (R3.out.keep M4.out (fun e => HT.out.1 e.symm)).keep mm id⟩)
    rw [if_pos HD.out]
    exact H4.out.keep mm id id
  · have hz : (S.j + 1 == S.d) = false := beq_eq_false_iff_ne.2 hd0
    have HD := Lib.hid hd0
    clear hd0
    go_wp2_with fail
    go_step3
    go_wp2_with fail
    refine wp_region_mixed [true, true, true, true, true, true, true, true, true] 0 9 (by kernel_rfl) (by kernel_rfl) (by kernel_rfl) ?_ (by decide) (by decide) (by decide) (by kernel_rfl) ?_
    · intro c a d v w h; cases d <;> exact h
    intro X00
    simp only [pickOps]
    repeat (go_big_quiet_step (fail))
    refine wpQuiet_nil (fun X0 => ?_)
    clear X00
    refine wpAnyM_done (by kernel_rfl) (fun X0' => ?_) _
    go_wp2_with fail
    rw [Exit.noGoto_ret]
    go_ret
    refine Does.ext ⟨(GW.pt ⟨own1, w1⟩ X2).own, ((w1.patch X2).setCell ⟨b, 17, none⟩ (.int .i64 (S.j + 1))).setCell ⟨b, 12, none⟩ (.int .i64 8)⟩ (by (repeat (first | (with_reducible assumption) | (with_reducible exact Ext.refl _) | (with_reducible exact Ext.more _ _ _ _) | apply Ext.alloc | refine Ext.setCell ?_ (by first | exact Nat.le_refl _ | exact Nat.le_add_right _ _ | assumption) _ | apply Ext.patch | apply Ext.drew | apply Ext.drewN))) rfl MA.out (fun g3 mm => ⟨?_, R3.out.keep mm id⟩)
    rw [if_neg HD.out]
    exact H3.out.keep mm id id
/-- The sentinel tells the new place. -/
theorem copies_forward (g : GW) (t b tm bm bk : Nat) (S : HaulS) (m : MemS) (s : Nat) (h : HaulAt g t b S) (hm : MemAt g tm bm m) (hc : 0 ≤ m.count ∧ m.count ≤ 1099511627776) (hck : S.c.check = 0) (hs : S.frm = 1 - (s : Int)) (hs2 : s < 2) (hto : 0 ≤ S.dst ∧ S.dst < S.c.spine) (hsp : 0 ≤ spA S.c s S.dst ∧ spA S.c s S.dst ≤ 1000000) (hh : 0 ≤ S.head ∧ S.head < S.c.frags) (hin : inB (S.head * 8 + 4) m.l.length = true) (hk : 0 ≤ S.k ∧ S.k ≤ 100000) (hd : 0 ≤ S.d ∧ S.d ≤ 100000) (hmv : 0 ≤ S.moved ∧ S.moved ≤ 100000) (ht : t ≠ tm) (ht1 : t + 1 ≠ tm) (hpc : S.pc = 10) :
    Calls Tryz.prog 201 #[.pointer (some ⟨b, 0, none⟩), .pointer (some ⟨bm, 0, none⟩), .pointer (some ⟨bk, 0, none⟩)] g.w (Does (.bool true) g (fun x => x = t ∨ x = tm) (fun g' => HaulAt g' t b (HaulS.next { S with moved := S.moved + 1 }) ∧ MemAt g' tm bm (m.tick.lay (S.head * 8 + 4) (floatOfInt .f64 (spA S.c s S.dst), 0)))) := by
  have k0 := h.blk.cell (i := 0) rfl
  have k1 := h.blk.cell (i := 1) rfl
  have k2 := h.blk.cell (i := 2) rfl
  have k3 := h.blk.cell (i := 3) rfl
  have k4 := h.blk.cell (i := 4) rfl
  have k5 := h.blk.cell (i := 5) rfl
  have k6 := h.blk.cell (i := 6) rfl
  have k7 := h.blk.cell (i := 7) rfl
  have k8 := h.blk.cell (i := 8) rfl
  have c9 := h.blk.cell (i := 9) rfl
  rw [hs] at c9
  have c0 := h.blk.cell (i := 12) rfl
  have c14 := h.blk.cell (i := 14) rfl
  have hl := h.blk.lt
  rw [hpc] at c0
  have HT := Lib.hid (And.intro ht ht1)
  have HSP := Lib.hid (fun X => show Calls Tryz.prog 211 #[S.c.val, .int .i64 s, .int .i64 S.dst] (g.w.patch X) (Gives (.tuple #[.int .i64 (spA S.c s S.dst), .int .i64 0]) (g.w.patch X)) from by
    rw [← cAt_spine hck hs2 hto]
    exact spine_any S.c s S.dst (g.w.patch X) (h.cnf.ok.ext ⟨X, rfl⟩) hs2)
  unfold Cnf.val at HSP
  have HOW := Lib.hid (fun g' (h' : HaulAt g' t b S) => haul_owner g' t b S h' hck hh)
  have HWH := Lib.hid (fun w => show Calls Tryz.prog 191 #[.int .i64 (spA S.c s S.dst)] w (Gives (.complex .f64 (floatOfInt .f64 (spA S.c s S.dst)) 0) w) from by
    have h1 := whole_any (spA S.c s S.dst) w
    rw [wWhole_fits ⟨by omega, by omega⟩] at h1
    exact h1)
  have HWR := Lib.hid (fun g' (hm' : MemAt g' tm bm m) => show Calls Tryz.prog 188 #[.pointer (some ⟨bm, 0, none⟩), .int .i64 (S.head * 8 + 4), .complex .f64 (floatOfInt .f64 (spA S.c s S.dst)) 0] g'.w (Does (.int .i64 0) g' (fun x => x = tm) (fun g' => MemAt g' tm bm (m.tick.lay (S.head * 8 + 4) (floatOfInt .f64 (spA S.c s S.dst), 0)))) from by
    have h1 := mem_write g' tm bm (S.head * 8 + 4) (floatOfInt .f64 (spA S.c s S.dst)) 0 m hm' hc
    rw [hin] at h1
    exact h1)
  have H := Lib.hid h
  have HM := Lib.hid hm
  have HKD := Lib.hid (And.intro hk hd)
  obtain ⟨hmv0, hmv1⟩ := hmv
  generalize floatOfInt .f64 (spA S.c s S.dst) = P at *
  generalize spA S.c s S.dst = a at *
  generalize S.head * 8 + 4 = ow at *
  have e2 : IntKind.i64.wrap (1 - (1 - (s : Int))) = s := by rw [IntWalk.i64_in _ (by omega)]; omega
  clear h hm hc hck hs hto hsp hh hin hk hd ht ht1 hpc
  rcases (show s = 0 ∨ s = 1 by omega) with rfl | rfl
  all_goals
    go_enter Tryz.func201, Tryz.ntmps201
    go_wp2_with fail
    refine wp_scope_fwd 5 rfl ?_
    go_wp2_with fail
    go_step3
    refine ⟨rfl, ?_⟩
    go_wp2_with fail
    refine wp_region_mixed [true, true, true, true, true, true, true, true, true, true, true, true, true, true, true, true, true, true] 0 18 (by kernel_rfl) (by kernel_rfl) (by kernel_rfl) ?_ (by decide) (by decide) (by decide) (by kernel_rfl) ?_
    · intro c a d v w h; cases d <;> exact h
    intro X00
    simp only [pickOps]
    repeat (go_big_quiet_step (exact Calls.added (HSP.out _)))
    refine wpQuiet_nil (fun X0 => ?_)
    clear X00
    refine wpAnyM_done (by kernel_rfl) (fun X0' => ?_) _
    obtain ⟨Y, hY⟩ := (show Ext g.w ((g.w.patch X0).patch X0') from Ext.trans ⟨X0, rfl⟩ ⟨X0', rfl⟩)
    rw [hY]
    clear hY k0 k1 k2 k3 k4 k5 k6 k7 k8 c9 c14 c0 hl
    have M1 := Lib.hid (Mod.pt (Mod.refl (fun _ => False) g) Y)
    have H1 := Lib.hid (H.out.keep M1.out id id)
    have R1 := Lib.hid (HM.out.keep M1.out id)
    go_wp2_with fail
    refine (HOW.out (g.pt Y) H1.out).mono ?_
    rintro e w1 ⟨rfl, hE⟩
    have M2 := Lib.hid (Mod.ext (T := fun _ => False) (g := g.pt Y) (show Ext (g.w.patch Y) w1 from hE) 0)
    have H2 := Lib.hid (H1.out.keep M2.out id id)
    have R2 := Lib.hid (R1.out.keep M2.out id)
    clear hE
    go_wp2_with fail
    refine (HWH.out _).mono ?_
    rintro e w2 ⟨rfl, hE⟩
    have M3 := Lib.hid (Mod.ext (T := fun _ => False) (g := (g.pt Y).to 0 w1) (show Ext w1 w2 from hE) 0)
    have H3 := Lib.hid (H2.out.keep M3.out id id)
    have R3 := Lib.hid (R2.out.keep M3.out id)
    clear hE
    go_wp2_with fail
    refine (HWR.out _ R3.out).mono ?_
    rintro e w3 ⟨rfl, own3, m3, r3⟩
    have M4 := Lib.hid m3
    have R4 := Lib.hid r3
    have H4 := Lib.hid (H3.out.keep M4.out HT.out.1 HT.out.2)
    clear m3 r3
    have c20 := H4.out.blk.cell (i := 20) rfl
    have f20 := H4.out.blk.live 20
    have hl := H4.out.blk.lt
    simp only at c20 f20 hl
    have e3 := IntWalk.i64_in (S.moved + 1) (by omega)
    have H5 := Lib.hid (H4.out.st 20 (.int .i64 (S.moved + 1)) { S with moved := S.moved + 1 } rfl rfl)
    have M5 := Lib.hid (show Mod (fun x => x = t) ⟨own3, w3⟩ ⟨own3, w3.setCell ⟨b, 20, none⟩ (.int .i64 (S.moved + 1))⟩ from Mod.st (g := ⟨own3, w3⟩) Mod.self H4.out.blk.own)
    have R5 := Lib.hid (R4.out.keep M5.out (fun e => HT.out.1 e.symm))
    go_wp2_with fail
    refine (haul_next ⟨own3, w3.setCell ⟨b, 20, none⟩ (.int .i64 (S.moved + 1))⟩ t b { S with moved := S.moved + 1 } H5.out HKD.out.1 HKD.out.2).mono ?_
    rintro e w4 ⟨rfl, own4, m4, r4⟩
    have M6 := Lib.hid m4
    have R6 := Lib.hid r4
    clear m4 r4
    go_wp2_with fail
    rw [Exit.noGoto_ret]
    go_ret
    exact ⟨rfl, own4, (((M1.out.trans M2.out).trans M3.out).mono (fun _ => False.elim)).trans ((M4.out.mono (fun x hx => Or.inr hx)).trans ((M5.out.trans M6.out).mono (fun x hx => Or.inl hx))), R6.out, R5.out.keep M6.out (fun e => HT.out.1 e.symm)⟩
end Go.Proofs.YtnebimabokgofaaGreat
/-
  haul: a slot is read. The whole step.
-/
namespace Go.Proofs.YtnebimabokgofaaGreat
open Go Go.RowKit
set_option linter.unusedVariables false
set_option linter.unnecessarySimpa false
set_option linter.unusedSimpArgs false
set_option maxHeartbeats 1500000
set_option maxRecDepth 100000
theorem copies_read (g : GW) (t b tm bm bk : Nat) (S : HaulS) (m : MemS) (s : Nat) (p q : Nat) (h : HaulAt g t b S) (hm : MemAt g tm bm m) (hc : 0 ≤ m.count ∧ m.count ≤ 1099511627776) (hck : S.c.check = 0) (hs : S.frm = s) (hs2 : s < 2) (hk : 0 ≤ S.k ∧ S.k ≤ 100000) (hj : 0 ≤ S.j ∧ S.j ≤ 90000) (hkj : S.k + 2 + S.j < S.c.spine) (hin : inB (spA S.c s (S.k + 2 + S.j)) m.l.length = true) (hw : m.peek (spA S.c s (S.k + 2 + S.j)) = (p, q)) (ht : t ≠ tm) (ht1 : t + 1 ≠ tm) (hpc : S.pc = 8) :
    Calls Tryz.prog 201 #[.pointer (some ⟨b, 0, none⟩), .pointer (some ⟨bm, 0, none⟩), .pointer (some ⟨bk, 0, none⟩)] g.w (Does (.bool true) g (fun x => x = t ∨ x = tm) (fun g' => HaulAt g' t b { S with wp := p, wq := q, pc := 9 } ∧ MemAt g' tm bm m.tick)) := by
  have c0 := h.blk.cell (i := 12) rfl
  have c13 := h.blk.cell (i := 13) rfl
  have c17 := h.blk.cell (i := 17) rfl
  have hl := h.blk.lt
  rw [hpc] at c0
  have HT := Lib.hid (And.intro ht ht1)
  obtain ⟨hk0, hk1⟩ := hk
  obtain ⟨hj0, hj1⟩ := hj
  have e1 := IntWalk.i64_in (S.k + 2) (by omega)
  have e2 := IntWalk.i64_in (S.k + 2 + S.j) (by omega)
  have HRD := Lib.hid (fun X => haul_read (g.pt X) t b tm bm S m s (S.k + 2 + S.j) (h.keep (Mod.pt (Mod.refl (fun _ => False) g) X) id id) (hm.pt X) hc hck hs hs2 ⟨by omega, hkj⟩ hin p q hw ht ht1)
  clear h hm hc hck hs hin hw ht ht1 hpc hkj
  go_enter Tryz.func201, Tryz.ntmps201
  go_wp2_with fail
  refine wp_scope_fwd 3 rfl ?_
  go_wp2_with fail
  go_step3
  refine ⟨rfl, ?_⟩
  go_wp2_with fail
  refine wp_region_split_any [0] [false, true, true, true, true, true, true, true, true, true, true, true, true] 13 ?sp_ox1 7 ?sp1x1 ?sp2x1 ?spEx1 ?sp3x1 ?sp4x1 ?sp5x1 ?sp6x1 ?sp7x1 ?sp8x1 ?sp9x1 ?sp10x1 ?sp11x1 ?sp12x1
  case sp10x1 => exact rfl
  case sp1x1 => kernel_rfl
  case sp2x1 => kernel_rfl
  case spEx1 => kernel_rfl
  case sp3x1 => kernel_rfl
  case sp4x1 => (intro c a d v w h; cases d <;> exact h)
  case sp5x1 => decide
  case sp6x1 => decide
  case sp7x1 => decide
  case sp8x1 => kernel_rfl
  case sp9x1 => kernel_rfl
  case sp11x1 => exact rfl
  intro X00
  simp only [pickOps, movesAct, moveOf, List.getElem?_toArray, List.getElem?_cons_zero, List.getElem?_cons_succ]
  (try go_simp)
  repeat (go_big_quiet_step (fail))
  refine wpQuiet_nil (fun X0 K Q' hK => ?_)
  clear X00
  (try go_simp)
  refine (HRD.out _).mono ?_
  rintro e w1 ⟨rfl, own1, m1, r1, r2⟩
  have M1 := Lib.hid ((Mod.pt (Mod.refl (fun x => x = tm) _) _).trans m1)
  have R1 := Lib.hid r1
  have H1 := Lib.hid r2
  clear m1 r1 r2 c0 c13 c17 hl
  have c18 := H1.out.blk.cell (i := 18) rfl
  have f18 := H1.out.blk.live 18
  have c12 := H1.out.blk.cell (i := 12) rfl
  have f12 := H1.out.blk.live 12
  have hl := H1.out.blk.lt
  simp only at c18 f18 c12 f12 hl
  (try go_simp)
  refine hK _ _ ?_
  clear hK K Q'
  refine wpAny_pure_step (v := .tuple #[.complex .f64 p q, .bool true]) 14 _ rfl ?sp2 ?sp3 ?sp4 ?sp5 rfl (fun w => rfl) ?_
  case sp2 => kernel_rfl
  case sp3 => kernel_rfl
  case sp4 => kernel_rfl
  case sp5 => (intro c a d v w h; cases d <;> exact h)
  (try go_simp)
  refine wpAny_pure_step (v := .complex .f64 p q) 15 _ rfl ?sp2 ?sp3 ?sp4 ?sp5 rfl (fun w => rfl) ?_
  case sp2 => kernel_rfl
  case sp3 => kernel_rfl
  case sp4 => kernel_rfl
  case sp5 => (intro c a d v w h; cases d <;> exact h)
  (try go_simp)
  refine wpAny_pure_step (v := .bool true) 16 _ rfl ?sp2 ?sp3 ?sp4 ?sp5 rfl (fun w => rfl) ?_
  case sp2 => kernel_rfl
  case sp3 => kernel_rfl
  case sp4 => kernel_rfl
  case sp5 => (intro c a d v w h; cases d <;> exact h)
  (try go_simp)
  refine wpAny_pure_step (v := .pointer (some ⟨b, 0, none⟩)) 17 _ rfl ?sp2 ?sp3 ?sp4 ?sp5 rfl (fun w => rfl) ?_
  case sp2 => kernel_rfl
  case sp3 => kernel_rfl
  case sp4 => kernel_rfl
  case sp5 => (intro c a d v w h; cases d <;> exact h)
  (try go_simp)
  refine wpAny_pure_step (v := .pointer (some ⟨b, 18, none⟩)) 18 _ rfl ?sp2 ?sp3 ?sp4 ?sp5 rfl (fun w => rfl) ?_
  case sp2 => kernel_rfl
  case sp3 => kernel_rfl
  case sp4 => kernel_rfl
  case sp5 => (intro c a d v w h; cases d <;> exact h)
  (try go_simp)
  refine wpAny_loud_step 19 _ (by kernel_rfl) rfl rfl (fun K Q' hK => ?_)
  (try go_simp)
  refine hK _ _ ?_
  clear hK K Q'
  refine wpAny_pure_step (v := .bool true) 20 _ rfl ?sp2 ?sp3 ?sp4 ?sp5 rfl (fun w => rfl) ?_
  case sp2 => kernel_rfl
  case sp3 => kernel_rfl
  case sp4 => kernel_rfl
  case sp5 => (intro c a d v w h; cases d <;> exact h)
  (try go_simp)
  refine wpAny_done (by kernel_rfl) ?_ _
  have M2 := Lib.hid (show Mod (fun x => x = t) ⟨own1, w1⟩ ⟨own1, w1.setCell ⟨b, 18, none⟩ (.complex .f64 p q)⟩ from Mod.st (g := ⟨own1, w1⟩) Mod.self H1.out.blk.own)
  have H2 := Lib.hid (show HaulAt ⟨own1, (w1.setCell ⟨b, 18, none⟩ (.complex .f64 p q)).setCell ⟨b, 12, none⟩ (.int .i64 9)⟩ t b { S with wp := p, wq := q, pc := 9 } from (H1.out.st 18 (.complex .f64 p q) { S with wp := p, wq := q } rfl rfl).st 12 (.int .i64 9) { S with wp := p, wq := q, pc := 9 } rfl rfl)
  have M3 := Lib.hid (show Mod (fun x => x = t) ⟨own1, w1⟩ ⟨own1, (w1.setCell ⟨b, 18, none⟩ (.complex .f64 p q)).setCell ⟨b, 12, none⟩ (.int .i64 9)⟩ from Mod.st M2.out H1.out.blk.own)
  go_wp2_with fail
  rw [Exit.noGoto_ret]
  go_ret
  exact ⟨rfl, own1, (M1.out.mono (fun x hx => Or.inr hx)).trans (M3.out.mono (fun x hx => Or.inl hx)), H2.out, R1.out.keep M3.out (fun e => HT.out.1 e.symm)⟩
end Go.Proofs.YtnebimabokgofaaGreat

