/-
  Merged: XTraceW, XTraceX.
-/
import Derived.Test.YthdijbkcjmeilaaTraceS
import Derived.Test.YthdijbkcjmeilaaPileP
import Derived.Test.YthdijbkcjmeilaaMoves
import Derived.Test.YthdijbkcjmeilaaScope2
/-
  trace: walks.
-/
namespace Go.Proofs.Ythdijbkcjmeilaa
open Go Go.RowKit
set_option linter.unusedVariables false
set_option linter.unnecessarySimpa false
set_option linter.unusedSimpArgs false
set_option maxHeartbeats 4000000
set_option maxRecDepth 100000
theorem Mod.ofExtT {w w' : World} (h : Ext w w') (own : Nat → Nat) : ∃ own', Mod (fun _ => False) ⟨own, w⟩ ⟨own', w'⟩ := ⟨_, Mod.ext (g := ⟨own, w⟩) h 0⟩
/-- What holds while it goes on behind its head. -/
structure TraceS.Bd (S : TraceS) : Prop where
  j : 0 ≤ S.j ∧ S.j ≤ 1000
  n : 0 ≤ S.n ∧ S.n ≤ 512
  base : 0 ≤ S.base ∧ S.base ≤ 100000
  chk : S.c.check = 0
  may : S.shp.may = true
theorem TraceS.Bd.j' {S : TraceS} (h : S.Bd) : 0 ≤ S.j ∧ S.j ≤ 1000000 := by have := h.j; omega
theorem TraceS.Bd.base' {S : TraceS} (h : S.Bd) : 0 ≤ S.base ∧ S.base ≤ 1099511627776 := by have := h.base; omega
/-- The words but the first. -/
theorem TraceIs.tail {g : GW} {t b : Nat} {S : TraceS} {P : TrPl} {x : Int} {l : List Int} {bq oq : Nat} (h : TraceIs g t b S P) (hw : S.words = x :: l) (hA : P.wA = some ⟨bq, oq, none⟩) :
    TraceIs ⟨g.own, g.w.setCell ⟨b, 16, none⟩ (.slice (if P.wc = 1 then some ⟨bq, oq, none⟩ else some ⟨bq, oq + 1, none⟩) l.length (P.wc - 1))⟩ t b { S with words := l } ⟨P.sA, P.sc, if P.wc = 1 then some ⟨bq, oq, none⟩ else some ⟨bq, oq + 1, none⟩, P.wc - 1⟩ := by
  have m2 : Mod (fun x => x = t) g ⟨g.own, g.w.setCell ⟨b, 16, none⟩ (.slice (if P.wc = 1 then some ⟨bq, oq, none⟩ else some ⟨bq, oq + 1, none⟩) l.length (P.wc - 1))⟩ := Mod.st Mod.self h.blk.own
  have hl := h.wlen
  rw [hw] at hl
  simp only [List.length_cons] at hl
  refine ⟨h.blk.set 16 (.slice (if P.wc = 1 then some ⟨bq, oq, none⟩ else some ⟨bq, oq + 1, none⟩) l.length (P.wc - 1)), h.cnf.keep m2 (by omega), h.shp.keep m2 (by omega), ?_, ⟨by show l.length ≤ P.wc - 1; omega, by show P.wc - 1 ≤ _; omega⟩⟩
  have hs := h.words
  rw [hw, hA] at hs
  refine Seg.keep (S := fun x => x = t) (g := g) ?_ m2 (by omega)
  by_cases hc : P.wc = 1
  · have : l = [] := by cases l with
      | nil => rfl
      | cons y l => simp at hl; omega
    rw [this]
    exact Seg.nil _ _ _
  · rw [if_neg hc]
    refine ⟨?_, fun a ha hv => ?_⟩
    · have := hs.cells.sub 1
      simpa [Addr.add] using this
    · injection ha with ha
      subst ha
      exact hs.own ⟨bq, oq, none⟩ rfl (by simp)
/-- Behind a read that hands back nothing, or a word: the field. -/
theorem walks_field (g : GW) (t b tm bm bs : Nat) (S : TraceS) (P : TrPl) (m : MemS) (x : Int) (l : List Int) (h : TraceIs g t b S P) (hm : MemAt g tm bm m) (hc : 0 ≤ m.count ∧ m.count ≤ 1099511627776) (ht : t ≠ tm) (ht1 : t + 1 ≠ tm) (hpc : S.pc = 1) (hw : S.words = x :: l) (hB : S.Bd) (ok : Bool) (S' : TraceS) (T : TabS) (p : PileS) (k : Int) (hf : TrW.field ⟨S, m, T, p, k⟩ = (⟨S', S.rdM m S.frag x, T, p, k⟩, ok)) :
    Calls Try.prog 89 #[.pointer (some ⟨b, 0, none⟩), .pointer (some ⟨bm, 0, none⟩), .pointer (some ⟨bs, 0, none⟩)] g.w (Does (.bool ok) g (fun x => x = t ∨ x = tm) (fun g' => TraceAt g' t b S' ∧ MemAt g' tm bm (S.rdM m S.frag x))) := by
  have c11 := h.blk.cell (i := 11) rfl
  have hl := h.blk.lt
  rw [hpc] at c11
  have HT := Lib.hid (And.intro ht ht1)
  have HB := Lib.hid hB
  have c14 := h.blk.cell (i := 14) rfl
  have c16 := h.blk.cell (i := 16) rfl
  have HRD := Lib.hid (fun X => trace_read (g.pt X) t b tm bm S m S.frag x ⟨P, h.keep (T := fun _ => False) (Mod.pt (Mod.refl _ g) X) id id⟩ (hm.pt X) hc)
  have hWS := h.words
  rw [hw] at hWS c16
  obtain ⟨bq, oq, hA, hbq, hcq⟩ := hWS.cells.cases (by simp)
  have z0 := hcq 0 (.int .i64 x) rfl
  rw [Nat.add_zero] at z0
  rw [hA] at c16
  simp only [List.length_cons] at c16
  have H := Lib.hid h
  have HW := Lib.hid hw
  have HA := Lib.hid hA
  have hwl := h.wlen
  rw [hw] at hwl
  simp only [List.length_cons] at hwl
  obtain ⟨hwl1, hwl2⟩ := hwl
  clear h hm hc hpc hw hB ht ht1 hWS hcq hA
  unfold TrW.field at hf
  simp only [HW.out, List.headD_cons, List.tail_cons] at hf
  generalize hr : S.rd m S.frag x = r at *
  generalize S.rdM m S.frag x = m' at *
  clear hr
  rcases r with _ | v
  · simp only [Prod.mk.injEq, TrW.mk.injEq, and_true] at hf
    obtain ⟨⟨rfl, -⟩, rfl⟩ := hf
    unfold trdV at HRD
    simp only [Option.getD_none, Option.isSome_none] at HRD
    go_enter Try.func89, Try.ntmps89
    go_wp2_with fail
    refine wp_scope_fwd 3 rfl ?_
    go_wp2_with fail
    refine wp_region_split [true, true, true, true, true, true, true, true, true, true, true, true] 12 ?sp_o [false, false, false, false, false, false, false, false, false, false, false, false, false, true, true, true, true, true] ?sp1 ?sp2 ?sp3 ?sp4 ?sp5 ?sp6 ?sp7 ?sp8 ?sp9 ?sp10 ?sp11 ?sp12 ?sp13 ?sp14 ?sp15
    case sp11 => exact rfl
    case sp1 => kernel_rfl
    case sp2 => kernel_rfl
    case sp3 => kernel_rfl
    case sp4 => (intro c a d v w h; cases d <;> exact h)
    case sp5 => decide
    case sp6 => decide
    case sp7 => decide
    case sp8 => decide
    case sp9 => kernel_rfl
    case sp10 => kernel_rfl
    case sp12 => exact rfl
    case sp13 => kernel_rfl
    case sp14 => kernel_rfl
    intro X00
    simp only [pickOps]
    repeat (go_big_quiet_step (fail))
    refine wpQuiet_nil ?_
    intro X0 K Q' hK
    clear X00
    (try go_simp)
    refine (HRD.out _).mono ?_
    rintro e w1 ⟨rfl, own1, m1, r1⟩
    have M1 := Lib.hid ((Mod.pt (Mod.refl (fun x => x = tm) _) _).trans m1)
    have R1 := Lib.hid r1
    clear m1 r1 c11 c14 c16 hl z0 hbq
    (try go_simp)
    refine hK _ _ (fun X00 => ?_)
    clear hK K Q'
    (try simp only [pickOps])
    repeat (go_big_quiet_step (fail))
    refine wpQuiet_nil (fun X2 => ?_)
    clear X00
    go_wp2_with fail
    rw [Exit.jump_ret]
    go_ret
    exact Does.ext ⟨own1, w1⟩ (by (repeat (first | (with_reducible assumption) | (with_reducible exact Ext.refl _) | (with_reducible exact Ext.more _ _ _ _) | apply Ext.alloc | refine Ext.setCell ?_ (by first | exact Nat.le_refl _ | exact Nat.le_add_right _ _ | assumption) _ | apply Ext.patch | apply Ext.drew | apply Ext.drewN))) rfl (M1.out.mono (fun x hx => Or.inr hx)) (fun g2 m => ⟨⟨P, (H.out.keep M1.out HT.out.1 HT.out.2).keep m id id⟩, R1.out.keep m id⟩)
  · unfold trdV at HRD
    simp only [Option.getD_some, Option.isSome_some] at HRD
    have HIS := Lib.hid (fun w => is_any v w)
    obtain ⟨v1, v2⟩ := v
    simp only at HRD HIS hf
    cases hi : wIs (v1, v2)
    · rw [hi] at HIS hf
      simp only [if_true, Prod.mk.injEq, TrW.mk.injEq, and_true] at hf
      obtain ⟨⟨rfl, -⟩, rfl⟩ := hf
      clear hi
      go_enter Try.func89, Try.ntmps89
      go_wp2_with fail
      refine wp_scope_fwd 3 rfl ?_
      go_wp2_with fail
      refine wp_region_split [true, true, true, true, true, true, true, true, true, true, true, true] 12 ?sp_ox1 [false, false, false, false, false, false, false, false, false, false, false, false, false, true, true, true, true, true] ?sp1x1 ?sp2x1 ?sp3x1 ?sp4x1 ?sp5x1 ?sp6x1 ?sp7x1 ?sp8x1 ?sp9x1 ?sp10x1 ?sp11x1 ?sp12x1 ?sp13x1 ?sp14x1 ?sp15x1
      case sp11x1 => exact rfl
      case sp1x1 => kernel_rfl
      case sp2x1 => kernel_rfl
      case sp3x1 => kernel_rfl
      case sp4x1 => (intro c a d v w h; cases d <;> exact h)
      case sp5x1 => decide
      case sp6x1 => decide
      case sp7x1 => decide
      case sp8x1 => decide
      case sp9x1 => kernel_rfl
      case sp10x1 => kernel_rfl
      case sp12x1 => exact rfl
      case sp13x1 => kernel_rfl
      case sp14x1 => kernel_rfl
      intro X00
      simp only [pickOps]
      repeat (go_big_quiet_step (fail))
      refine wpQuiet_nil ?_
      intro X0 K Q' hK
      clear X00
      (try go_simp)
      refine (HRD.out _).mono ?_
      rintro e w1 ⟨rfl, own1, m1, r1⟩
      have M1 := Lib.hid ((Mod.pt (Mod.refl (fun x => x = tm) _) _).trans m1)
      have R1 := Lib.hid r1
      clear m1 r1 c11 c14 c16 hl z0 hbq
      (try go_simp)
      refine hK _ _ (fun X00 => ?_)
      clear hK K Q'
      (try simp only [pickOps])
      repeat (go_big_quiet_step (fail))
      refine wpQuiet_nil (fun X2 => ?_)
      clear X00
      go_wp2_with fail
      refine (HIS.out _).mono ?_
      rintro e w2 ⟨rfl, hE⟩
      have HE2 := Lib.hid (show Ext w1 w2 from Ext.trans ⟨_, rfl⟩ (show Ext _ w2 from hE))
      clear hE
      go_wp2_with fail
      rw [Exit.jump_ret]
      go_ret
      exact Does.ext ⟨own1, w1⟩ (HE2.out.trans (by (repeat (first | (with_reducible assumption) | (with_reducible exact Ext.refl _) | (with_reducible exact Ext.more _ _ _ _) | apply Ext.alloc | refine Ext.setCell ?_ (by first | exact Nat.le_refl _ | exact Nat.le_add_right _ _ | assumption) _ | apply Ext.patch | apply Ext.drew | apply Ext.drewN)))) rfl (M1.out.mono (fun x hx => Or.inr hx)) (fun g2 m => ⟨⟨P, (H.out.keep M1.out HT.out.1 HT.out.2).keep m id id⟩, R1.out.keep m id⟩)
    · rw [hi] at HIS hf
      have HIX := Lib.hid (fun w => index_any_w (v1, v2) w)
      unfold optV at HIX
      simp only [Bool.true_eq_false, if_false] at hf HIX
      clear hi
      rcases hix : wIndex (v1, v2) with _ | i
      · rw [hix] at hf HIX
        simp only [Option.isSome_none, Bool.false_eq_true, if_false, Prod.mk.injEq, TrW.mk.injEq, and_true] at hf
        obtain ⟨⟨rfl, -⟩, rfl⟩ := hf
        simp only [Option.getD_none, Option.isSome_none] at HIX
        clear hix
        go_enter Try.func89, Try.ntmps89
        go_wp2_with fail
        refine wp_scope_fwd 3 rfl ?_
        go_wp2_with fail
        refine wp_region_split [true, true, true, true, true, true, true, true, true, true, true, true] 12 ?sp_ox2 [false, false, false, false, false, false, false, false, false, false, false, false, false, true, true, true, true, true] ?sp1x2 ?sp2x2 ?sp3x2 ?sp4x2 ?sp5x2 ?sp6x2 ?sp7x2 ?sp8x2 ?sp9x2 ?sp10x2 ?sp11x2 ?sp12x2 ?sp13x2 ?sp14x2 ?sp15x2
        case sp11x2 => exact rfl
        case sp1x2 => kernel_rfl
        case sp2x2 => kernel_rfl
        case sp3x2 => kernel_rfl
        case sp4x2 => (intro c a d v w h; cases d <;> exact h)
        case sp5x2 => decide
        case sp6x2 => decide
        case sp7x2 => decide
        case sp8x2 => decide
        case sp9x2 => kernel_rfl
        case sp10x2 => kernel_rfl
        case sp12x2 => exact rfl
        case sp13x2 => kernel_rfl
        case sp14x2 => kernel_rfl
        intro X00
        simp only [pickOps]
        repeat (go_big_quiet_step (fail))
        refine wpQuiet_nil ?_
        intro X0 K Q' hK
        clear X00
        (try go_simp)
        refine (HRD.out _).mono ?_
        rintro e w1 ⟨rfl, own1, m1, r1⟩
        have M1 := Lib.hid ((Mod.pt (Mod.refl (fun x => x = tm) _) _).trans m1)
        have R1 := Lib.hid r1
        clear m1 r1 c11 c14 c16 hl z0 hbq
        (try go_simp)
        refine hK _ _ (fun X00 => ?_)
        clear hK K Q'
        (try simp only [pickOps])
        repeat (go_big_quiet_step (fail))
        refine wpQuiet_nil (fun X2 => ?_)
        clear X00
        go_wp2_with fail
        refine (HIS.out _).mono ?_
        rintro e w2 ⟨rfl, hE⟩
        have HE2 := Lib.hid (show Ext w1 w2 from Ext.trans ⟨_, rfl⟩ (show Ext _ w2 from hE))
        obtain ⟨own3, m2⟩ := Mod.ofExtT HE2.out own1
        have M3 := Lib.hid ((M1.out.mono (S := fun x => x = t ∨ x = tm) (fun x hx => Or.inr hx)).trans (m2.mono (fun _ => False.elim)))
        have H3 := Lib.hid ((H.out.keep M1.out HT.out.1 HT.out.2).keep m2 id id)
        have R3 := Lib.hid (R1.out.keep m2 id)
        clear hE m2 M1 R1 HE2
        have HO3 := Lib.hid H3.out.blk.own
        have c16 := H3.out.blk.cell (i := 16) rfl
        have f16 := H3.out.blk.live 16
        have hl := H3.out.blk.lt
        rw [HW.out, HA.out] at c16
        simp only [List.length_cons] at c16 hl f16
        have e1 : l.length + 1 - 1 = l.length := by omega
        have HTL := Lib.hid (H3.out.tail HW.out HA.out)
        obtain ⟨wA2, wc2, HTL, hcase⟩ : ∃ wA2 wc2, Hid (TraceIs ⟨own3, w2.setCell ⟨b, 16, none⟩ (.slice wA2 l.length wc2)⟩ t b { S with words := l } ⟨P.sA, P.sc, wA2, wc2⟩) ∧ ((P.wc = 1 ∧ wA2 = some ⟨bq, oq, none⟩ ∧ wc2 = 0) ∨ (P.wc ≠ 1 ∧ wA2 = some ⟨bq, oq + 1, none⟩ ∧ wc2 = P.wc - 1)) := by
          by_cases hwc : P.wc = 1
          · have h1 := HTL.out
            rw [if_pos hwc, hwc] at h1
            exact ⟨_, _, Lib.hid h1, Or.inl ⟨hwc, rfl, rfl⟩⟩
          · have h1 := HTL.out
            rw [if_neg hwc] at h1
            exact ⟨_, _, Lib.hid h1, Or.inr ⟨hwc, rfl, rfl⟩⟩
        rcases hcase with ⟨hwc, rfl, rfl⟩ | ⟨hwc, rfl, rfl⟩
        all_goals
          go_wp2_with fail
          refine (HIX.out _).mono ?_
          rintro e w4 ⟨rfl, hE⟩
          obtain ⟨own5, m4⟩ := Mod.ofExtT (show Ext _ w4 from hE) own3
          have M5 := Lib.hid (M3.out.trans ((Mod.st (T := fun x => x = t ∨ x = tm) Mod.self (Or.inl HO3.out)).trans (m4.mono (fun _ => False.elim))))
          have H5 := Lib.hid (HTL.out.keep m4 id id)
          have R5 := Lib.hid ((R3.out.keep (Mod.st (T := fun x => x = t) Mod.self HO3.out) (fun e => HT.out.1 e.symm)).keep m4 id)
          clear hE m4 c16 f16 hl M3 H3 R3
          have HO5 := Lib.hid H5.out.blk.own
          have f17 := H5.out.blk.live 17
          have f11 := H5.out.blk.live 11
          have c17 := H5.out.blk.cell (i := 17) rfl
          have c11 := H5.out.blk.cell (i := 11) rfl
          have hl := H5.out.blk.lt
          simp only at f17 f11 c17 c11 hl
          have H6 := Lib.hid (H5.out.st 17 (.int .i64 0) { S with words := l, next := 0 } rfl rfl rfl rfl rfl)
          have m6 : Mod (fun x => x = t) (⟨own5, w4⟩ : GW) ⟨own5, w4.setCell ⟨b, 17, none⟩ (.int .i64 0)⟩ := Mod.st Mod.self HO5.out
          have M6 := Lib.hid (M5.out.trans (m6.mono (fun x hx => Or.inl hx)))
          have R6 := Lib.hid (R5.out.keep m6 (fun e => HT.out.1 e.symm))
          clear m6
          go_wp2_with fail
          go_step3
          refine ⟨rfl, ?_⟩
          go_wp2_with fail
          refine (trace_goes _ t b _ _ H6.out HB.out.base' HB.out.j').mono ?_
          rintro e w7 ⟨rfl, own7, m7, r7⟩
          have M7 := Lib.hid m7
          have H7 := Lib.hid r7
          clear m7 r7 f17 f11 c17 c11 hl
          have f11 := H7.out.blk.live 11
          have c11 := H7.out.blk.cell (i := 11) rfl
          have hl := H7.out.blk.lt
          simp only at f11 c11 hl
          have H8 := Lib.hid (TraceIs.st H7.out 11 (.int .i64 (TraceS.goesPc { S with words := l, next := 0 })) (TraceS.gone { S with words := l, next := 0 }) rfl rfl rfl rfl rfl)
          have M8 := Lib.hid (M7.out.trans (Mod.st (T := fun x => x = t) (i := 11) (v := .int .i64 (TraceS.goesPc { S with words := l, next := 0 })) Mod.self H7.out.blk.own))
          go_wp2_with fail
          rw [Exit.noGoto_ret]
          go_ret
          exact ⟨rfl, own7, M6.out.trans (M8.out.mono (fun x hx => Or.inl hx)), ⟨_, H8.out⟩, R6.out.keep M8.out (fun e => HT.out.1 e.symm)⟩
      · rw [hix] at hf HIX
        simp only [Option.isSome_some, if_true, Option.getD_some, Prod.mk.injEq, TrW.mk.injEq, and_true] at hf
        obtain ⟨⟨rfl, -⟩, rfl⟩ := hf
        simp only [Option.getD_some, Option.isSome_some] at HIX
        clear hix
        go_enter Try.func89, Try.ntmps89
        go_wp2_with fail
        refine wp_scope_fwd 3 rfl ?_
        go_wp2_with fail
        refine wp_region_split [true, true, true, true, true, true, true, true, true, true, true, true] 12 ?sp_ox3 [false, false, false, false, false, false, false, false, false, false, false, false, false, true, true, true, true, true] ?sp1x3 ?sp2x3 ?sp3x3 ?sp4x3 ?sp5x3 ?sp6x3 ?sp7x3 ?sp8x3 ?sp9x3 ?sp10x3 ?sp11x3 ?sp12x3 ?sp13x3 ?sp14x3 ?sp15x3
        case sp11x3 => exact rfl
        case sp1x3 => kernel_rfl
        case sp2x3 => kernel_rfl
        case sp3x3 => kernel_rfl
        case sp4x3 => (intro c a d v w h; cases d <;> exact h)
        case sp5x3 => decide
        case sp6x3 => decide
        case sp7x3 => decide
        case sp8x3 => decide
        case sp9x3 => kernel_rfl
        case sp10x3 => kernel_rfl
        case sp12x3 => exact rfl
        case sp13x3 => kernel_rfl
        case sp14x3 => kernel_rfl
        intro X00
        simp only [pickOps]
        repeat (go_big_quiet_step (fail))
        refine wpQuiet_nil ?_
        intro X0 K Q' hK
        clear X00
        (try go_simp)
        refine (HRD.out _).mono ?_
        rintro e w1 ⟨rfl, own1, m1, r1⟩
        have M1 := Lib.hid ((Mod.pt (Mod.refl (fun x => x = tm) _) _).trans m1)
        have R1 := Lib.hid r1
        clear m1 r1 c11 c14 c16 hl z0 hbq
        (try go_simp)
        refine hK _ _ (fun X00 => ?_)
        clear hK K Q'
        (try simp only [pickOps])
        repeat (go_big_quiet_step (fail))
        refine wpQuiet_nil (fun X2 => ?_)
        clear X00
        go_wp2_with fail
        refine (HIS.out _).mono ?_
        rintro e w2 ⟨rfl, hE⟩
        have HE2 := Lib.hid (show Ext w1 w2 from Ext.trans ⟨_, rfl⟩ (show Ext _ w2 from hE))
        obtain ⟨own3, m2⟩ := Mod.ofExtT HE2.out own1
        have M3 := Lib.hid ((M1.out.mono (S := fun x => x = t ∨ x = tm) (fun x hx => Or.inr hx)).trans (m2.mono (fun _ => False.elim)))
        have H3 := Lib.hid ((H.out.keep M1.out HT.out.1 HT.out.2).keep m2 id id)
        have R3 := Lib.hid (R1.out.keep m2 id)
        clear hE m2 M1 R1 HE2
        have HO3 := Lib.hid H3.out.blk.own
        have c16 := H3.out.blk.cell (i := 16) rfl
        have f16 := H3.out.blk.live 16
        have hl := H3.out.blk.lt
        rw [HW.out, HA.out] at c16
        simp only [List.length_cons] at c16 hl f16
        have e1 : l.length + 1 - 1 = l.length := by omega
        have HTL := Lib.hid (H3.out.tail HW.out HA.out)
        obtain ⟨wA2, wc2, HTL, hcase⟩ : ∃ wA2 wc2, Hid (TraceIs ⟨own3, w2.setCell ⟨b, 16, none⟩ (.slice wA2 l.length wc2)⟩ t b { S with words := l } ⟨P.sA, P.sc, wA2, wc2⟩) ∧ ((P.wc = 1 ∧ wA2 = some ⟨bq, oq, none⟩ ∧ wc2 = 0) ∨ (P.wc ≠ 1 ∧ wA2 = some ⟨bq, oq + 1, none⟩ ∧ wc2 = P.wc - 1)) := by
          by_cases hwc : P.wc = 1
          · have h1 := HTL.out
            rw [if_pos hwc, hwc] at h1
            exact ⟨_, _, Lib.hid h1, Or.inl ⟨hwc, rfl, rfl⟩⟩
          · have h1 := HTL.out
            rw [if_neg hwc] at h1
            exact ⟨_, _, Lib.hid h1, Or.inr ⟨hwc, rfl, rfl⟩⟩
        rcases hcase with ⟨hwc, rfl, rfl⟩ | ⟨hwc, rfl, rfl⟩
        all_goals
          go_wp2_with fail
          refine (HIX.out _).mono ?_
          rintro e w4 ⟨rfl, hE⟩
          obtain ⟨own5, m4⟩ := Mod.ofExtT (show Ext _ w4 from hE) own3
          have M5 := Lib.hid (M3.out.trans ((Mod.st (T := fun x => x = t ∨ x = tm) Mod.self (Or.inl HO3.out)).trans (m4.mono (fun _ => False.elim))))
          have H5 := Lib.hid (HTL.out.keep m4 id id)
          have R5 := Lib.hid ((R3.out.keep (Mod.st (T := fun x => x = t) Mod.self HO3.out) (fun e => HT.out.1 e.symm)).keep m4 id)
          clear hE m4 c16 f16 hl M3 H3 R3
          have HO5 := Lib.hid H5.out.blk.own
          have f17 := H5.out.blk.live 17
          have f11 := H5.out.blk.live 11
          have c17 := H5.out.blk.cell (i := 17) rfl
          have c11 := H5.out.blk.cell (i := 11) rfl
          have hl := H5.out.blk.lt
          simp only at f17 f11 c17 c11 hl
          have H6 := Lib.hid ((H5.out.st 17 (.int .i64 i) { S with words := l, next := i } rfl rfl rfl rfl rfl).st 11 (.int .i64 2) { S with words := l, next := i, pc := 2 } rfl rfl rfl rfl rfl)
          go_wp2_with fail
          rw [Exit.jump_ret]
          go_ret
          have m6 : Mod (fun x => x = t) (⟨own5, w4⟩ : GW) ⟨own5, (w4.setCell ⟨b, 17, none⟩ (.int .i64 i)).setCell ⟨b, 11, none⟩ (.int .i64 2)⟩ := Mod.st (Mod.st Mod.self HO5.out) HO5.out
          exact ⟨rfl, own5, M5.out.trans (m6.mono (fun x hx => Or.inl hx)), ⟨_, H6.out⟩, R5.out.keep m6 (fun e => HT.out.1 e.symm)⟩
end Go.Proofs.Ythdijbkcjmeilaa
/-
  trace: walks: the grey, the link, the part.
-/
namespace Go
section
variable {P : Program} {a : Act} {w : World} {Q : Exit → Act → World → Prop}
theorem wp_scope_via2t {c r0 r1 : Code} (l0 l1 : Nat) (h0 : findLabel c l0 = some r0) (h1 : findLabel c l1 = some r1) (first : c.wp P (Exit.via P Q [(l0, r0), (l1, r1)]) a w) : (Code.scope c).wp P Q a w :=
  wp_scope_via [(l0, r0), (l1, r1)] (by
    intro p hp
    simp only [List.mem_cons, List.not_mem_nil, or_false] at hp
    rcases hp with rfl | rfl
    · exact h0
    · exact h1) first
end
end Go
namespace Go.Proofs.Ythdijbkcjmeilaa
open Go Go.RowKit
set_option linter.unusedVariables false
set_option linter.unnecessarySimpa false
set_option linter.unusedSimpArgs false
set_option maxHeartbeats 4000000
set_option maxRecDepth 100000
theorem walks_grey (g : GW) (t b bm ts bs bt tt bp tp : Nat) (S : TraceS) (P : TrPl) (T : TabS) (p : PileS) (k : Int) (h : TraceIs g t b S P) (hs : ShdAt g ts bs bt tt bp tp T p k) (hk : 0 ≤ k ∧ k ≤ 1099511627776) (hpc : S.pc = 2) (hB : S.Bd) (h1 : ts ≠ tt) (h2 : ts ≠ tp) (h3 : tt ≠ tp) (h4 : t ≠ ts) (h5 : t ≠ tt) (h6 : t ≠ tp) (h7 : t + 1 ≠ ts) (h8 : t + 1 ≠ tt) (h9 : t + 1 ≠ tp) :
    Calls Try.prog 89 #[.pointer (some ⟨b, 0, none⟩), .pointer (some ⟨bm, 0, none⟩), .pointer (some ⟨bs, 0, none⟩)] g.w (Does (.bool true) g (fun x => x = t ∨ x = ts ∨ x = tt ∨ x = tp) (fun g' => TraceAt g' t b S.gone ∧ ShdAt g' ts bs bt tt bp tp (T.grey S.next S.sense) (p.grey T S.next S.sense) (k + 1))) := by
  have c11 := h.blk.cell (i := 11) rfl
  have c10 := h.blk.cell (i := 10) rfl
  have c17 := h.blk.cell (i := 17) rfl
  have hl := h.blk.lt
  rw [hpc] at c11
  have HB := Lib.hid hB
  have H := Lib.hid h
  have HN := Lib.hid (And.intro h4 (And.intro h5 (And.intro h6 (And.intro h7 (And.intro h8 h9)))))
  have HG := Lib.hid (fun X => shade_grey (g.pt X) ts bs bt tt bp tp T p k S.next S.sense (hs.keep (S := fun _ => False) (Mod.pt (Mod.refl _ g) X) id id id) hk h1 h2 h3)
  clear h hs hk hpc hB h1 h2 h3 h4 h5 h6 h7 h8 h9
  go_enter Try.func89, Try.ntmps89
  go_wp2_with fail
  refine wp_scope_via2t 0 3 rfl rfl ?_
  go_wp2_with fail
  go_step3
  refine via_here ?_
  go_wp2_with fail
  refine wp_region_split [true, true, true, true, true, true, true, true, true] 9 ?sp_ox4 [false, false, false, false, false, false, false, false, false, false] ?sp1x4 ?sp2x4 ?sp3x4 ?sp4x4 ?sp5x4 ?sp6x4 ?sp7x4 ?sp8x4 ?sp9x4 ?sp10x4 ?sp11x4 ?sp12x4 ?sp13x4 ?sp14x4 ?sp15x4
  case sp11x4 => exact rfl
  case sp1x4 => kernel_rfl
  case sp2x4 => kernel_rfl
  case sp3x4 => kernel_rfl
  case sp4x4 => (intro c a d v w h; cases d <;> exact h)
  case sp5x4 => decide
  case sp6x4 => decide
  case sp7x4 => decide
  case sp8x4 => decide
  case sp9x4 => kernel_rfl
  case sp10x4 => kernel_rfl
  case sp12x4 => exact rfl
  case sp13x4 => kernel_rfl
  case sp14x4 => kernel_rfl
  intro X00
  simp only [pickOps]
  repeat (go_big_quiet_step (fail))
  refine wpQuiet_nil ?_
  intro X0 K Q' hK
  clear X00
  (try go_simp)
  refine (HG.out _).mono ?_
  rintro e w1 ⟨rfl, own1, m1, r1⟩
  have M1 := Lib.hid ((Mod.pt (Mod.refl (fun x => x = ts ∨ x = tt ∨ x = tp) _) _).trans m1)
  have R1 := Lib.hid r1
  clear m1 r1 c11 c10 c17 hl
  (try go_simp)
  refine hK _ _ (fun X00 => ?_)
  clear hK K Q'
  (try simp only [pickOps])
  repeat (go_big_quiet_step (fail))
  refine wpQuiet_nil (fun X2 => ?_)
  clear X00
  obtain ⟨own2, m2⟩ := Mod.ofExtT (show Ext w1 (w1.patch X2) from ⟨_, rfl⟩) own1
  have H2 := Lib.hid ((H.out.keep M1.out (fun e => by have := HN.out; omega) (fun e => by have := HN.out; omega)).keep m2 id id)
  have R2 := Lib.hid (R1.out.keep m2 id id id)
  have M2 := Lib.hid (M1.out.trans (m2.mono (fun _ => False.elim)))
  clear m2 M1 R1
  go_wp2_with fail
  go_step3
  refine via_here ?_
  go_wp2_with fail
  refine (trace_goes _ t b _ _ H2.out HB.out.base' HB.out.j').mono ?_
  rintro e w7 ⟨rfl, own7, m7, r7⟩
  have M7 := Lib.hid m7
  have H7 := Lib.hid r7
  clear m7 r7
  have f11 := H7.out.blk.live 11
  have c11 := H7.out.blk.cell (i := 11) rfl
  have hl := H7.out.blk.lt
  simp only at f11 c11 hl
  have H8 := Lib.hid (TraceIs.st H7.out 11 (.int .i64 (TraceS.goesPc S)) (TraceS.gone S) rfl rfl rfl rfl rfl)
  have M8 := Lib.hid (M7.out.trans (Mod.st (T := fun x => x = t) (i := 11) (v := .int .i64 (TraceS.goesPc S)) Mod.self H7.out.blk.own))
  go_wp2_with fail
  rw [Exit.via_ret]
  go_ret
  exact ⟨rfl, own7, (M2.out.mono (fun x hx => Or.inr hx)).trans (M8.out.mono (fun x hx => Or.inl hx)), ⟨_, H8.out⟩, R2.out.keep M8.out (fun e => by have := HN.out; omega) (fun e => by have := HN.out; omega) (fun e => by have := HN.out; omega)⟩
theorem walks_part (g : GW) (t b bm ts bs bt tt bp tp : Nat) (S : TraceS) (P : TrPl) (T : TabS) (p : PileS) (k : Int) (h : TraceIs g t b S P) (hs : ShdAt g ts bs bt tt bp tp T p k) (hk : 0 ≤ k ∧ k ≤ 1099511627776) (hpc : S.pc = 4) (hB : S.Bd) (h1 : ts ≠ tt) (h2 : ts ≠ tp) (h3 : tt ≠ tp) (h4 : t ≠ ts) (h5 : t ≠ tt) (h6 : t ≠ tp) (h7 : t + 1 ≠ ts) (h8 : t + 1 ≠ tt) (h9 : t + 1 ≠ tp) :
    Calls Try.prog 89 #[.pointer (some ⟨b, 0, none⟩), .pointer (some ⟨bm, 0, none⟩), .pointer (some ⟨bs, 0, none⟩)] g.w (Does (.bool true) g (fun x => x = t ∨ x = ts ∨ x = tt ∨ x = tp) (fun g' => TraceAt g' t b (TraceS.gone { S with words := S.refsL }) ∧ ShdAt g' ts bs bt tt bp tp (T.mark S.frag S.sense) p (k + 1))) := by
  have c11 := h.blk.cell (i := 11) rfl
  have c10 := h.blk.cell (i := 10) rfl
  have c14 := h.blk.cell (i := 14) rfl
  have hl := h.blk.lt
  rw [hpc] at c11
  have HB := Lib.hid hB
  have H := Lib.hid h
  have HN := Lib.hid (And.intro h4 (And.intro h5 (And.intro h6 (And.intro h7 (And.intro h8 h9)))))
  have HG := Lib.hid (fun X => shade_part (g.pt X) ts bs bt tt bp tp T p k S.frag S.sense (hs.keep (S := fun _ => False) (Mod.pt (Mod.refl _ g) X) id id id) hk h1 h2 h3)
  clear h hs hk hpc hB h1 h2 h3 h4 h5 h6 h7 h8 h9
  go_enter Try.func89, Try.ntmps89
  go_wp2_with fail
  refine wp_scope_fwd 2 rfl ?_
  go_wp2_with fail
  go_step3
  refine ⟨rfl, ?_⟩
  go_wp2_with fail
  refine wp_region_split [true, true, true, true, true, true, true, true, true] 9 ?sp_ox5 [false, false, false, false, false, false, false, false, false, false] ?sp1x5 ?sp2x5 ?sp3x5 ?sp4x5 ?sp5x5 ?sp6x5 ?sp7x5 ?sp8x5 ?sp9x5 ?sp10x5 ?sp11x5 ?sp12x5 ?sp13x5 ?sp14x5 ?sp15x5
  case sp11x5 => exact rfl
  case sp1x5 => kernel_rfl
  case sp2x5 => kernel_rfl
  case sp3x5 => kernel_rfl
  case sp4x5 => (intro c a d v w h; cases d <;> exact h)
  case sp5x5 => decide
  case sp6x5 => decide
  case sp7x5 => decide
  case sp8x5 => decide
  case sp9x5 => kernel_rfl
  case sp10x5 => kernel_rfl
  case sp12x5 => exact rfl
  case sp13x5 => kernel_rfl
  case sp14x5 => kernel_rfl
  intro X00
  simp only [pickOps]
  repeat (go_big_quiet_step (fail))
  refine wpQuiet_nil ?_
  intro X0 K Q' hK
  clear X00
  (try go_simp)
  refine (HG.out _).mono ?_
  rintro e w1 ⟨rfl, own1, m1, r1⟩
  have M1 := Lib.hid ((Mod.pt (Mod.refl (fun x => x = ts ∨ x = tt) _) _).trans m1)
  have R1 := Lib.hid r1
  clear m1 r1 c11 c10 c14 hl
  (try go_simp)
  refine hK _ _ (fun X00 => ?_)
  clear hK K Q'
  (try simp only [pickOps])
  repeat (go_big_quiet_step (fail))
  refine wpQuiet_nil (fun X2 => ?_)
  clear X00
  obtain ⟨own2, m2⟩ := Mod.ofExtT (show Ext w1 (w1.patch X2) from ⟨_, rfl⟩) own1
  have H2 := Lib.hid ((H.out.keep M1.out (fun e => by have := HN.out; omega) (fun e => by have := HN.out; omega)).keep m2 id id)
  have R2 := Lib.hid (R1.out.keep m2 id id id)
  have M2 := Lib.hid (M1.out.trans (m2.mono (fun _ => False.elim)))
  clear m2 M1 R1
  go_wp2_with fail
  refine (trace_refs _ t b _ _ H2.out HB.out.j' (by have := HB.out.n; omega) HB.out.may).mono ?_
  rintro e w4 ⟨A4, c4, rfl, hE4, hl4, hc4, hn4⟩
  have H5 := Lib.hid (H2.out.wordsSet hE4 hl4 hc4 hn4)
  have m4 : Mod (fun _ => False) (⟨own2, w1.patch X2⟩ : GW) (GW.to ⟨own2, w1.patch X2⟩ (t + 1) w4) := Mod.ext hE4 (t + 1)
  have B4 := Lib.hid (H2.out.blk.keep m4 id)
  have M4 := Lib.hid (M2.out.trans (m4.mono (fun _ => False.elim)))
  have R4 := Lib.hid (R2.out.keep m4 id id id)
  clear hE4 hl4 hc4 hn4 m4
  have c16 := B4.out.cell (i := 16) rfl
  have f16 := B4.out.live 16
  have hl := B4.out.lt
  simp only [GW.to] at c16 f16 hl
  go_wp2_with fail
  go_step3
  go_wp2_with fail
  refine (trace_goes _ t b _ _ H5.out HB.out.base' HB.out.j').mono ?_
  rintro e w7 ⟨rfl, own7, m7, r7⟩
  have M7 := Lib.hid m7
  have H7 := Lib.hid r7
  clear m7 r7
  have f11 := H7.out.blk.live 11
  have c11 := H7.out.blk.cell (i := 11) rfl
  have hl := H7.out.blk.lt
  simp only at f11 c11 hl
  have H8 := Lib.hid (TraceIs.st H7.out 11 (.int .i64 (TraceS.goesPc { S with words := S.refsL })) (TraceS.gone { S with words := S.refsL }) rfl rfl rfl rfl rfl)
  have M8 := Lib.hid (M7.out.trans (Mod.st (T := fun x => x = t) (i := 11) (v := .int .i64 (TraceS.goesPc { S with words := S.refsL })) Mod.self H7.out.blk.own))
  go_wp2_with fail
  rw [Exit.noGoto_ret]
  go_ret
  have M9 := Lib.hid ((Mod.st (T := fun x => x = t) (i := 16) (v := .slice A4 S.refsL.length c4) Mod.self B4.out.own).trans M8.out)
  exact ⟨rfl, own7, (M4.out.mono (fun x hx => by rcases hx with hx | hx <;> simp [hx])).trans (M9.out.mono (fun x hx => Or.inl hx)), ⟨_, H8.out⟩, R4.out.keep M9.out (fun e => by have := HN.out; omega) (fun e => by have := HN.out; omega) (fun e => by have := HN.out; omega)⟩
theorem walks_link (g : GW) (t b tm bm bs : Nat) (S : TraceS) (P : TrPl) (m : MemS) (h : TraceIs g t b S P) (hm : MemAt g tm bm m) (hc : 0 ≤ m.count ∧ m.count ≤ 1099511627776) (ht : t ≠ tm) (ht1 : t + 1 ≠ tm) (hpc : S.pc = 3) (hB : S.Bd) (ok : Bool) (S' : TraceS) (T : TabS) (p : PileS) (k : Int) (hf : TrW.link ⟨S, m, T, p, k⟩ = (⟨S', S.rdM m S.frag 0, T, p, k⟩, ok)) :
    Calls Try.prog 89 #[.pointer (some ⟨b, 0, none⟩), .pointer (some ⟨bm, 0, none⟩), .pointer (some ⟨bs, 0, none⟩)] g.w (Does (.bool ok) g (fun x => x = t ∨ x = tm) (fun g' => TraceAt g' t b S' ∧ MemAt g' tm bm (S.rdM m S.frag 0))) := by
  have c11 := h.blk.cell (i := 11) rfl
  have c14 := h.blk.cell (i := 14) rfl
  have hl := h.blk.lt
  rw [hpc] at c11
  have HT := Lib.hid (And.intro ht ht1)
  have HB := Lib.hid hB
  have H := Lib.hid h
  have HRD := Lib.hid (trace_read g t b tm bm S m S.frag 0 ⟨P, h⟩ hm hc)
  clear h hm hc hpc hB ht ht1
  unfold TrW.link at hf
  simp only at hf
  generalize hr : S.rd m S.frag 0 = r at *
  generalize S.rdM m S.frag 0 = m' at *
  clear hr
  rcases r with _ | v
  · simp only [Prod.mk.injEq, TrW.mk.injEq, and_true] at hf
    obtain ⟨⟨rfl, -⟩, rfl⟩ := hf
    unfold trdV at HRD
    simp only [Option.getD_none, Option.isSome_none] at HRD
    go_enter Try.func89, Try.ntmps89
    go_wp2_with fail
    refine wp_scope_fwd 1 rfl ?_
    go_wp2_with fail
    go_step3
    refine ⟨rfl, ?_⟩
    go_wp2_with fail
    refine HRD.out.mono ?_
    rintro e w1 ⟨rfl, own1, m1, r1⟩
    have M1 := Lib.hid m1
    have R1 := Lib.hid r1
    clear m1 r1 c11 c14 hl
    go_wp2_with fail
    rw [Exit.noGoto_ret]
    go_ret
    exact ⟨rfl, own1, M1.out.mono (fun x hx => Or.inr hx), ⟨P, H.out.keep M1.out HT.out.1 HT.out.2⟩, R1.out⟩
  · unfold trdV at HRD
    simp only [Option.getD_some, Option.isSome_some] at HRD
    have HIX := Lib.hid (fun w => index_any_w v w)
    unfold optV at HIX
    obtain ⟨v1, v2⟩ := v
    simp only at HRD HIX hf
    rcases hix : wIndex (v1, v2) with _ | i
    · rw [hix] at hf HIX
      simp only [Prod.mk.injEq, TrW.mk.injEq, and_true] at hf
      obtain ⟨⟨rfl, -⟩, rfl⟩ := hf
      simp only [Option.getD_none, Option.isSome_none] at HIX
      clear hix
      go_enter Try.func89, Try.ntmps89
      go_wp2_with fail
      refine wp_scope_fwd 1 rfl ?_
      go_wp2_with fail
      go_step3
      refine ⟨rfl, ?_⟩
      go_wp2_with fail
      refine HRD.out.mono ?_
      rintro e w1 ⟨rfl, own1, m1, r1⟩
      have M1 := Lib.hid m1
      have R1 := Lib.hid r1
      clear m1 r1 c11 c14 hl
      go_wp2_with fail
      refine (HIX.out _).mono ?_
      rintro e w2 ⟨rfl, hE⟩
      obtain ⟨own2, m2⟩ := Mod.ofExtT (show Ext w1 w2 from hE) own1
      have M2 := Lib.hid m2
      clear hE m2
      go_wp2_with fail
      rw [Exit.noGoto_ret]
      go_ret
      exact ⟨rfl, own2, (M1.out.mono (fun x hx => Or.inr hx)).trans (M2.out.mono (fun _ => False.elim)), ⟨P, (H.out.keep M1.out HT.out.1 HT.out.2).keep M2.out id id⟩, R1.out.keep M2.out id⟩
    · rw [hix] at hf HIX
      simp only at hf
      simp only [Option.getD_some, Option.isSome_some] at HIX
      clear hix
      have e3 := IntWalk.i64_in (S.j + 1) (by have := HB.out.j; omega)
      by_cases hlt : i < S.c.frags
      · rw [if_pos hlt] at hf
        simp only [Prod.mk.injEq, TrW.mk.injEq, and_true] at hf
        obtain ⟨⟨rfl, -⟩, rfl⟩ := hf
        have d1 : decide (S.c.frags ≤ i) = false := decide_eq_false (by omega)
        clear hlt
        go_enter Try.func89, Try.ntmps89
        go_wp2_with fail
        refine wp_scope_fwd 1 rfl ?_
        go_wp2_with fail
        go_step3
        refine ⟨rfl, ?_⟩
        go_wp2_with fail
        refine HRD.out.mono ?_
        rintro e w1 ⟨rfl, own1, m1, r1⟩
        have M1 := Lib.hid m1
        have R1 := Lib.hid r1
        clear m1 r1 c11 c14 hl
        go_wp2_with fail
        refine (HIX.out _).mono ?_
        rintro e w2 ⟨rfl, hE⟩
        obtain ⟨own2, m2⟩ := Mod.ofExtT (show Ext w1 w2 from hE) own1
        have M2 := Lib.hid ((M1.out.mono (S := fun x => x = t ∨ x = tm) (fun x hx => Or.inr hx)).trans (m2.mono (fun _ => False.elim)))
        have H2 := Lib.hid ((H.out.keep M1.out HT.out.1 HT.out.2).keep m2 id id)
        have R2 := Lib.hid (R1.out.keep m2 id)
        clear hE m2 M1 R1
        have c0 := H2.out.blk.cell (i := 0) rfl
        have c11 := H2.out.blk.cell (i := 11) rfl
        have c14 := H2.out.blk.cell (i := 14) rfl
        have c15 := H2.out.blk.cell (i := 15) rfl
        have f11 := H2.out.blk.live 11
        have f14 := H2.out.blk.live 14
        have f15 := H2.out.blk.live 15
        have hl := H2.out.blk.lt
        simp only at c0 c11 c14 c15 f11 f14 f15 hl
        have H3 := Lib.hid (((H2.out.st 14 (.int .i64 i) { S with frag := i } rfl rfl rfl rfl rfl).st 11 (.int .i64 4) { S with frag := i, pc := 4 } rfl rfl rfl rfl rfl).st 15 (.int .i64 (S.j + 1)) { S with frag := i, pc := 4, j := S.j + 1 } rfl rfl rfl rfl rfl)
        go_wp2_with fail
        rw [Exit.noGoto_ret]
        go_ret
        have m3 : Mod (fun x => x = t) (⟨own2, w2⟩ : GW) ⟨own2, ((w2.setCell ⟨b, 14, none⟩ (.int .i64 i)).setCell ⟨b, 11, none⟩ (.int .i64 4)).setCell ⟨b, 15, none⟩ (.int .i64 (S.j + 1))⟩ := Mod.st (Mod.st (Mod.st Mod.self H2.out.blk.own) H2.out.blk.own) H2.out.blk.own
        exact ⟨rfl, own2, M2.out.trans (m3.mono (fun x hx => Or.inl hx)), ⟨P, H3.out⟩, R2.out.keep m3 (fun e => HT.out.1 e.symm)⟩
      · rw [if_neg hlt] at hf
        simp only [Prod.mk.injEq, TrW.mk.injEq, and_true] at hf
        obtain ⟨⟨rfl, -⟩, rfl⟩ := hf
        have d1 : decide (S.c.frags ≤ i) = true := decide_eq_true (by omega)
        clear hlt
        go_enter Try.func89, Try.ntmps89
        go_wp2_with fail
        refine wp_scope_fwd 1 rfl ?_
        go_wp2_with fail
        go_step3
        refine ⟨rfl, ?_⟩
        go_wp2_with fail
        refine HRD.out.mono ?_
        rintro e w1 ⟨rfl, own1, m1, r1⟩
        have M1 := Lib.hid m1
        have R1 := Lib.hid r1
        clear m1 r1 c11 c14 hl
        go_wp2_with fail
        refine (HIX.out _).mono ?_
        rintro e w2 ⟨rfl, hE⟩
        obtain ⟨own2, m2⟩ := Mod.ofExtT (show Ext w1 w2 from hE) own1
        have M2 := Lib.hid ((M1.out.mono (S := fun x => x = t ∨ x = tm) (fun x hx => Or.inr hx)).trans (m2.mono (fun _ => False.elim)))
        have H2 := Lib.hid ((H.out.keep M1.out HT.out.1 HT.out.2).keep m2 id id)
        have R2 := Lib.hid (R1.out.keep m2 id)
        clear hE m2 M1 R1
        have c0 := H2.out.blk.cell (i := 0) rfl
        have hl := H2.out.blk.lt
        simp only at c0 hl
        go_wp2_with fail
        rw [Exit.noGoto_ret]
        go_ret
        exact ⟨rfl, own2, M2.out, ⟨P, H2.out⟩, R2.out⟩
end Go.Proofs.Ythdijbkcjmeilaa
