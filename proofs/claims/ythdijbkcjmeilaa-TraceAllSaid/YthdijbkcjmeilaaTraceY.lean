/-
  Merged: XTraceY, XTraceZ, XTraceV, XTraceU.
-/
import Derived.Test.YthdijbkcjmeilaaTraceW
/-
  trace: array: the length, the mode.
-/
namespace Go.Proofs.Ythdijbkcjmeilaa
open Go Go.RowKit
set_option linter.unusedVariables false
set_option linter.unnecessarySimpa false
set_option linter.unusedSimpArgs false
set_option maxHeartbeats 4000000
set_option maxRecDepth 100000
theorem array_length (g : GW) (t b tm bm : Nat) (S : TraceS) (P : TrPl) (m : MemS) (h : TraceIs g t b S P) (hm : MemAt g tm bm m) (hc : 0 ≤ m.count ∧ m.count ≤ 1099511627776) (ht : t ≠ tm) (ht1 : t + 1 ≠ tm) (hpc : S.pc = 5) (hB : S.Bd) (ok : Bool) (S' : TraceS) (T : TabS) (p : PileS) (k : Int) (hf : TrW.length ⟨S, m, T, p, k⟩ = (⟨S', S.rdM m S.head 2, T, p, k⟩, ok)) :
    Calls Try.prog 88 #[.pointer (some ⟨b, 0, none⟩), .pointer (some ⟨bm, 0, none⟩)] g.w (Does (.bool ok) g (fun x => x = t ∨ x = tm) (fun g' => TraceAt g' t b S' ∧ MemAt g' tm bm (S.rdM m S.head 2))) := by
  have c9 := h.blk.cell (i := 9) rfl
  have c11 := h.blk.cell (i := 11) rfl
  have hl := h.blk.lt
  rw [hpc] at c11
  have HT := Lib.hid (And.intro ht ht1)
  have HB := Lib.hid hB
  have H := Lib.hid h
  have HRD := Lib.hid (trace_read g t b tm bm S m S.head 2 ⟨P, h⟩ hm hc)
  clear h hm hc hpc hB ht ht1
  unfold TrW.length at hf
  simp only at hf
  generalize hr : S.rd m S.head 2 = r at *
  generalize S.rdM m S.head 2 = m' at *
  clear hr
  rcases r with _ | v
  · simp only [Prod.mk.injEq, TrW.mk.injEq, and_true] at hf
    obtain ⟨⟨rfl, -⟩, rfl⟩ := hf
    unfold trdV at HRD
    simp only [Option.getD_none, Option.isSome_none] at HRD
    go_enter Try.func88, Try.ntmps88
    go_wp2_with fail
    go_step3
    go_wp2_with fail
    refine HRD.out.mono ?_
    rintro e w1 ⟨rfl, own1, m1, r1⟩
    have M1 := Lib.hid m1
    have R1 := Lib.hid r1
    clear m1 r1 c9 c11 hl
    go_wp2_with fail
    rw [Exit.noGoto_ret]
    go_ret
    exact ⟨rfl, own1, M1.out.mono (fun x hx => Or.inr hx), ⟨P, H.out.keep M1.out HT.out.1 HT.out.2⟩, R1.out⟩
  · unfold trdV at HRD
    simp only [Option.getD_some, Option.isSome_some] at HRD
    have HIX := Lib.hid (fun w => nint_any v w)
    unfold optV at HIX
    obtain ⟨v1, v2⟩ := v
    simp only at HRD HIX hf
    rcases hix : wInt (v1, v2) with _ | n
    · rw [hix] at hf HIX
      simp only [Prod.mk.injEq, TrW.mk.injEq, and_true] at hf
      obtain ⟨⟨rfl, -⟩, rfl⟩ := hf
      simp only [Option.getD_none, Option.isSome_none] at HIX
      clear hix
      go_enter Try.func88, Try.ntmps88
      go_wp2_with fail
      go_step3
      go_wp2_with fail
      refine HRD.out.mono ?_
      rintro e w1 ⟨rfl, own1, m1, r1⟩
      have M1 := Lib.hid m1
      have R1 := Lib.hid r1
      clear m1 r1 c9 c11 hl
      go_wp2_with fail
      refine (HIX.out _).mono ?_
      rintro e w2 ⟨rfl, hE⟩
      obtain ⟨own2, m2⟩ := Mod.ofExtT (show Ext w1 w2 from hE) own1
      have M2 := Lib.hid ((M1.out.mono (S := fun x => x = t ∨ x = tm) (fun x hx => Or.inr hx)).trans (m2.mono (fun _ => False.elim)))
      have H2 := Lib.hid ((H.out.keep M1.out HT.out.1 HT.out.2).keep m2 id id)
      have R2 := Lib.hid (R1.out.keep m2 id)
      clear hE m2 M1 R1
      have c18 := H2.out.blk.cell (i := 18) rfl
      have c11 := H2.out.blk.cell (i := 11) rfl
      have f18 := H2.out.blk.live 18
      have f11 := H2.out.blk.live 11
      have hl := H2.out.blk.lt
      simp only at c18 c11 f18 f11 hl
      have H3 := Lib.hid (H2.out.st 18 (.int .i64 0) { S with n := 0 } rfl rfl rfl rfl rfl)
      go_wp2_with fail
      rw [Exit.noGoto_ret]
      go_ret
      have m3 : Mod (fun x => x = t) (⟨own2, w2⟩ : GW) ⟨own2, w2.setCell ⟨b, 18, none⟩ (.int .i64 0)⟩ := Mod.st Mod.self H2.out.blk.own
      exact ⟨rfl, own2, M2.out.trans (m3.mono (fun x hx => Or.inl hx)), ⟨P, H3.out⟩, R2.out.keep m3 (fun e => HT.out.1 e.symm)⟩
    · rw [hix] at hf HIX
      simp only at hf
      simp only [Option.getD_some, Option.isSome_some] at HIX
      clear hix
      have fin : ∀ (own2 : Nat → Nat) (w2 : World), Hid (TraceIs ⟨own2, w2⟩ t b S P) → Hid (MemAt ⟨own2, w2⟩ tm bm m') → Mod (fun x => x = t) (⟨own2, w2⟩ : GW) ⟨own2, w2.setCell ⟨b, 18, none⟩ (.int .i64 n)⟩ ∧ TraceIs ⟨own2, w2.setCell ⟨b, 18, none⟩ (.int .i64 n)⟩ t b { S with n := n } P ∧ MemAt ⟨own2, w2.setCell ⟨b, 18, none⟩ (.int .i64 n)⟩ tm bm m' := fun _ _ H2 R2 => by
        have m3 : Mod (fun x => x = t) (⟨_, _⟩ : GW) ⟨_, _⟩ := Mod.st (i := 18) (v := .int .i64 n) Mod.self H2.out.blk.own
        exact ⟨m3, H2.out.st 18 (.int .i64 n) { S with n := n } rfl rfl rfl rfl rfl, R2.out.keep m3 (fun e => HT.out.1 e.symm)⟩
      have FIN := Lib.hid fin
      clear fin
      by_cases h1 : n < 0
      · rw [if_pos (Or.inl h1)] at hf
        simp only [Prod.mk.injEq, TrW.mk.injEq, and_true] at hf
        obtain ⟨⟨rfl, -⟩, rfl⟩ := hf
        go_enter Try.func88, Try.ntmps88
        go_wp2_with fail
        go_step3
        go_wp2_with fail
        refine HRD.out.mono ?_
        rintro e w1 ⟨rfl, own1, m1, r1⟩
        have M1 := Lib.hid m1
        have R1 := Lib.hid r1
        clear m1 r1 c9 c11 hl
        go_wp2_with fail
        refine (HIX.out _).mono ?_
        rintro e w2 ⟨rfl, hE⟩
        obtain ⟨own2, m2⟩ := Mod.ofExtT (show Ext w1 w2 from hE) own1
        have M2 := Lib.hid ((M1.out.mono (S := fun x => x = t ∨ x = tm) (fun x hx => Or.inr hx)).trans (m2.mono (fun _ => False.elim)))
        have H2 := Lib.hid ((H.out.keep M1.out HT.out.1 HT.out.2).keep m2 id id)
        have R2 := Lib.hid (R1.out.keep m2 id)
        clear hE m2 M1 R1
        have c18 := H2.out.blk.cell (i := 18) rfl
        have c11 := H2.out.blk.cell (i := 11) rfl
        have f18 := H2.out.blk.live 18
        have f11 := H2.out.blk.live 11
        have hl := H2.out.blk.lt
        simp only at c18 c11 f18 f11 hl
        go_wp2_with fail
        rw [Exit.noGoto_ret]
        go_ret
        obtain ⟨q1, q2, q3⟩ := FIN.out _ _ H2 R2
        exact ⟨rfl, own2, M2.out.trans (q1.mono (fun x hx => Or.inl hx)), ⟨P, q2⟩, q3⟩
      by_cases h2 : 512 < n
      · rw [if_pos (Or.inr h2)] at hf
        simp only [Prod.mk.injEq, TrW.mk.injEq, and_true] at hf
        obtain ⟨⟨rfl, -⟩, rfl⟩ := hf
        go_enter Try.func88, Try.ntmps88
        go_wp2_with fail
        go_step3
        go_wp2_with fail
        refine HRD.out.mono ?_
        rintro e w1 ⟨rfl, own1, m1, r1⟩
        have M1 := Lib.hid m1
        have R1 := Lib.hid r1
        clear m1 r1 c9 c11 hl
        go_wp2_with fail
        refine (HIX.out _).mono ?_
        rintro e w2 ⟨rfl, hE⟩
        obtain ⟨own2, m2⟩ := Mod.ofExtT (show Ext w1 w2 from hE) own1
        have M2 := Lib.hid ((M1.out.mono (S := fun x => x = t ∨ x = tm) (fun x hx => Or.inr hx)).trans (m2.mono (fun _ => False.elim)))
        have H2 := Lib.hid ((H.out.keep M1.out HT.out.1 HT.out.2).keep m2 id id)
        have R2 := Lib.hid (R1.out.keep m2 id)
        clear hE m2 M1 R1
        have c18 := H2.out.blk.cell (i := 18) rfl
        have c11 := H2.out.blk.cell (i := 11) rfl
        have f18 := H2.out.blk.live 18
        have f11 := H2.out.blk.live 11
        have hl := H2.out.blk.lt
        simp only at c18 c11 f18 f11 hl
        go_wp2_with fail
        rw [Exit.noGoto_ret]
        go_ret
        obtain ⟨q1, q2, q3⟩ := FIN.out _ _ H2 R2
        exact ⟨rfl, own2, M2.out.trans (q1.mono (fun x hx => Or.inl hx)), ⟨P, q2⟩, q3⟩
      rw [if_neg (by omega)] at hf
      simp only [Prod.mk.injEq, TrW.mk.injEq, and_true] at hf
      obtain ⟨⟨rfl, -⟩, rfl⟩ := hf
      by_cases h3 : n = 0
      · have hz : (n == 0) = true := beq_iff_eq.2 h3
        rw [if_pos h3]
        clear h3
        go_enter Try.func88, Try.ntmps88
        go_wp2_with fail
        go_step3
        go_wp2_with fail
        refine HRD.out.mono ?_
        rintro e w1 ⟨rfl, own1, m1, r1⟩
        have M1 := Lib.hid m1
        have R1 := Lib.hid r1
        clear m1 r1 c9 c11 hl
        go_wp2_with fail
        refine (HIX.out _).mono ?_
        rintro e w2 ⟨rfl, hE⟩
        obtain ⟨own2, m2⟩ := Mod.ofExtT (show Ext w1 w2 from hE) own1
        have M2 := Lib.hid ((M1.out.mono (S := fun x => x = t ∨ x = tm) (fun x hx => Or.inr hx)).trans (m2.mono (fun _ => False.elim)))
        have H2 := Lib.hid ((H.out.keep M1.out HT.out.1 HT.out.2).keep m2 id id)
        have R2 := Lib.hid (R1.out.keep m2 id)
        clear hE m2 M1 R1
        have c18 := H2.out.blk.cell (i := 18) rfl
        have c11 := H2.out.blk.cell (i := 11) rfl
        have f18 := H2.out.blk.live 18
        have f11 := H2.out.blk.live 11
        have hl := H2.out.blk.lt
        simp only at c18 c11 f18 f11 hl
        go_wp2_with fail
        rw [Exit.noGoto_ret]
        go_ret
        obtain ⟨q1, q2, q3⟩ := FIN.out _ _ H2 R2
        have q4 : Mod (fun x => x = t) (⟨own2, w2.setCell ⟨b, 18, none⟩ (.int .i64 n)⟩ : GW) ⟨own2, ((w2.setCell ⟨b, 18, none⟩ (.int .i64 n)).setCell ⟨b, 11, none⟩ (.int .i64 6)).setCell ⟨b, 11, none⟩ (.int .i64 9)⟩ := Mod.st (Mod.st Mod.self q2.blk.own) q2.blk.own
        exact ⟨rfl, own2, M2.out.trans ((q1.trans q4).mono (fun x hx => Or.inl hx)), ⟨P, (q2.st 11 (.int .i64 6) { S with n := n, pc := 6 } rfl rfl rfl rfl rfl).st 11 (.int .i64 9) { S with n := n, pc := 9 } rfl rfl rfl rfl rfl⟩, q3.keep q4 (fun e => HT.out.1 e.symm)⟩
      · have hz : (n == 0) = false := beq_eq_false_iff_ne.2 h3
        rw [if_neg h3]
        clear h3
        go_enter Try.func88, Try.ntmps88
        go_wp2_with fail
        go_step3
        go_wp2_with fail
        refine HRD.out.mono ?_
        rintro e w1 ⟨rfl, own1, m1, r1⟩
        have M1 := Lib.hid m1
        have R1 := Lib.hid r1
        clear m1 r1 c9 c11 hl
        go_wp2_with fail
        refine (HIX.out _).mono ?_
        rintro e w2 ⟨rfl, hE⟩
        obtain ⟨own2, m2⟩ := Mod.ofExtT (show Ext w1 w2 from hE) own1
        have M2 := Lib.hid ((M1.out.mono (S := fun x => x = t ∨ x = tm) (fun x hx => Or.inr hx)).trans (m2.mono (fun _ => False.elim)))
        have H2 := Lib.hid ((H.out.keep M1.out HT.out.1 HT.out.2).keep m2 id id)
        have R2 := Lib.hid (R1.out.keep m2 id)
        clear hE m2 M1 R1
        have c18 := H2.out.blk.cell (i := 18) rfl
        have c11 := H2.out.blk.cell (i := 11) rfl
        have f18 := H2.out.blk.live 18
        have f11 := H2.out.blk.live 11
        have hl := H2.out.blk.lt
        simp only at c18 c11 f18 f11 hl
        go_wp2_with fail
        rw [Exit.noGoto_ret]
        go_ret
        obtain ⟨q1, q2, q3⟩ := FIN.out _ _ H2 R2
        have q4 : Mod (fun x => x = t) (⟨own2, w2.setCell ⟨b, 18, none⟩ (.int .i64 n)⟩ : GW) ⟨own2, (w2.setCell ⟨b, 18, none⟩ (.int .i64 n)).setCell ⟨b, 11, none⟩ (.int .i64 6)⟩ := Mod.st Mod.self q2.blk.own
        exact ⟨rfl, own2, M2.out.trans ((q1.trans q4).mono (fun x hx => Or.inl hx)), ⟨P, q2.st 11 (.int .i64 6) { S with n := n, pc := 6 } rfl rfl rfl rfl rfl⟩, q3.keep q4 (fun e => HT.out.1 e.symm)⟩
theorem array_mode (g : GW) (t b tm bm : Nat) (S : TraceS) (P : TrPl) (m : MemS) (h : TraceIs g t b S P) (hm : MemAt g tm bm m) (hc : 0 ≤ m.count ∧ m.count ≤ 1099511627776) (ht : t ≠ tm) (ht1 : t + 1 ≠ tm) (hpc : S.pc = 6) (hB : S.Bd) (ok : Bool) (S' : TraceS) (T : TabS) (p : PileS) (k : Int) (hf : TrW.mode ⟨S, m, T, p, k⟩ = (⟨S', S.rdM m S.head 3, T, p, k⟩, ok)) :
    Calls Try.prog 88 #[.pointer (some ⟨b, 0, none⟩), .pointer (some ⟨bm, 0, none⟩)] g.w (Does (.bool ok) g (fun x => x = t ∨ x = tm) (fun g' => TraceAt g' t b S' ∧ MemAt g' tm bm (S.rdM m S.head 3))) := by
  have c9 := h.blk.cell (i := 9) rfl
  have c11 := h.blk.cell (i := 11) rfl
  have hl := h.blk.lt
  rw [hpc] at c11
  have HT := Lib.hid (And.intro ht ht1)
  have HB := Lib.hid hB
  have H := Lib.hid h
  have HRD := Lib.hid (trace_read g t b tm bm S m S.head 3 ⟨P, h⟩ hm hc)
  clear h hm hc hpc hB ht ht1
  unfold TrW.mode at hf
  simp only at hf
  generalize hr : S.rd m S.head 3 = r at *
  generalize S.rdM m S.head 3 = m' at *
  clear hr
  rcases r with _ | v
  · simp only [Prod.mk.injEq, TrW.mk.injEq, and_true] at hf
    obtain ⟨⟨rfl, -⟩, rfl⟩ := hf
    unfold trdV at HRD
    simp only [Option.getD_none, Option.isSome_none] at HRD
    go_enter Try.func88, Try.ntmps88
    go_wp2_with fail
    refine wp_scope_fwd 0 rfl ?_
    go_wp2_with fail
    go_step3
    refine ⟨rfl, ?_⟩
    go_wp2_with fail
    refine HRD.out.mono ?_
    rintro e w1 ⟨rfl, own1, m1, r1⟩
    have M1 := Lib.hid m1
    have R1 := Lib.hid r1
    clear m1 r1 c9 c11 hl
    go_wp2_with fail
    rw [Exit.noGoto_ret]
    go_ret
    exact ⟨rfl, own1, M1.out.mono (fun x hx => Or.inr hx), ⟨P, H.out.keep M1.out HT.out.1 HT.out.2⟩, R1.out⟩
  · unfold trdV at HRD
    simp only [Option.getD_some, Option.isSome_some] at HRD
    have HIX := Lib.hid (fun w => nint_any v w)
    have HD := Lib.hid (fun w => data_any S.n w)
    unfold optV at HIX
    obtain ⟨v1, v2⟩ := v
    simp only at HRD HIX hf
    have fin : ∀ (own2 : Nat → Nat) (w2 : World) (n : Int), Hid (TraceIs ⟨own2, w2⟩ t b S P) → Hid (MemAt ⟨own2, w2⟩ tm bm m') → Mod (fun x => x = t) (⟨own2, w2⟩ : GW) ⟨own2, w2.setCell ⟨b, 19, none⟩ (.int .i64 n)⟩ ∧ TraceIs ⟨own2, w2.setCell ⟨b, 19, none⟩ (.int .i64 n)⟩ t b { S with mode := n } P ∧ MemAt ⟨own2, w2.setCell ⟨b, 19, none⟩ (.int .i64 n)⟩ tm bm m' := fun _ _ n H2 R2 => by
      have m3 : Mod (fun x => x = t) (⟨_, _⟩ : GW) ⟨_, _⟩ := Mod.st (i := 19) (v := .int .i64 n) Mod.self H2.out.blk.own
      exact ⟨m3, H2.out.st 19 (.int .i64 n) { S with mode := n } rfl rfl rfl rfl rfl, R2.out.keep m3 (fun e => HT.out.1 e.symm)⟩
    have FIN := Lib.hid fin
    clear fin
    rcases hix : wInt (v1, v2) with _ | n
    · rw [hix] at hf HIX
      simp only [Prod.mk.injEq, TrW.mk.injEq, and_true] at hf
      obtain ⟨⟨rfl, -⟩, rfl⟩ := hf
      simp only [Option.getD_none, Option.isSome_none] at HIX
      clear hix
      go_enter Try.func88, Try.ntmps88
      go_wp2_with fail
      refine wp_scope_fwd 0 rfl ?_
      go_wp2_with fail
      go_step3
      refine ⟨rfl, ?_⟩
      go_wp2_with fail
      refine HRD.out.mono ?_
      rintro e w1 ⟨rfl, own1, m1, r1⟩
      have M1 := Lib.hid m1
      have R1 := Lib.hid r1
      clear m1 r1 c9 c11 hl
      go_wp2_with fail
      refine (HIX.out _).mono ?_
      rintro e w2 ⟨rfl, hE⟩
      obtain ⟨own2, m2⟩ := Mod.ofExtT (show Ext w1 w2 from hE) own1
      have M2 := Lib.hid ((M1.out.mono (S := fun x => x = t ∨ x = tm) (fun x hx => Or.inr hx)).trans (m2.mono (fun _ => False.elim)))
      have H2 := Lib.hid ((H.out.keep M1.out HT.out.1 HT.out.2).keep m2 id id)
      have R2 := Lib.hid (R1.out.keep m2 id)
      clear hE m2 M1 R1
      have c19 := H2.out.blk.cell (i := 19) rfl
      have c11 := H2.out.blk.cell (i := 11) rfl
      have f19 := H2.out.blk.live 19
      have f11 := H2.out.blk.live 11
      have hl := H2.out.blk.lt
      simp only at c19 c11 f19 f11 hl
      go_wp2_with fail
      refine wp_region_mixed [true, true, true, true, true, true, true, true, true, true, true, true, true, true, true, true, true, true, true, true, true, true, true, true, true, true, true, true, true, true] 0 30 (by kernel_rfl) (by kernel_rfl) (by kernel_rfl) ?_ (by decide) (by decide) (by decide) (by kernel_rfl) ?_
      · intro c a d v w h; cases d <;> exact h
      intro X00
      simp only [pickOps]
      repeat (go_big_quiet_step (fail))
      refine wpQuiet_nil (fun X0 => ?_)
      clear X00
      refine wpAnyM_done (by kernel_rfl) (fun X0' => ?_) _
      go_wp2_with fail
      rw [Exit.noGoto_ret]
      go_ret
      obtain ⟨q1, q2, q3⟩ := FIN.out _ _ 0 H2 R2
      exact Does.ext ⟨own2, w2.setCell ⟨b, 19, none⟩ (.int .i64 0)⟩ (by (repeat (first | (with_reducible assumption) | (with_reducible exact Ext.refl _) | (with_reducible exact Ext.more _ _ _ _) | apply Ext.alloc | refine Ext.setCell ?_ (by first | exact Nat.le_refl _ | exact Nat.le_add_right _ _ | assumption) _ | apply Ext.patch | apply Ext.drew | apply Ext.drewN))) rfl (M2.out.trans (q1.mono (fun x hx => Or.inl hx))) (fun g2 m => ⟨⟨P, q2.keep m id id⟩, q3.keep m id⟩)
    · rw [hix] at hf HIX
      simp only at hf
      simp only [Option.getD_some, Option.isSome_some] at HIX
      clear hix
      generalize hy : sData S.n = y at *
      by_cases h1 : n < 0
      · have d1 : decide (n < 0) = true := decide_eq_true h1
        rw [if_pos (Or.inl h1)] at hf
        simp only [Prod.mk.injEq, TrW.mk.injEq, and_true] at hf
        obtain ⟨⟨rfl, -⟩, rfl⟩ := hf
        clear hy
        go_enter Try.func88, Try.ntmps88
        go_wp2_with fail
        refine wp_scope_fwd 0 rfl ?_
        go_wp2_with fail
        go_step3
        refine ⟨rfl, ?_⟩
        go_wp2_with fail
        refine HRD.out.mono ?_
        rintro e w1 ⟨rfl, own1, m1, r1⟩
        have M1 := Lib.hid m1
        have R1 := Lib.hid r1
        clear m1 r1 c9 c11 hl
        go_wp2_with fail
        refine (HIX.out _).mono ?_
        rintro e w2 ⟨rfl, hE⟩
        obtain ⟨own2, m2⟩ := Mod.ofExtT (show Ext w1 w2 from hE) own1
        have M2 := Lib.hid ((M1.out.mono (S := fun x => x = t ∨ x = tm) (fun x hx => Or.inr hx)).trans (m2.mono (fun _ => False.elim)))
        have H2 := Lib.hid ((H.out.keep M1.out HT.out.1 HT.out.2).keep m2 id id)
        have R2 := Lib.hid (R1.out.keep m2 id)
        clear hE m2 M1 R1
        have c19 := H2.out.blk.cell (i := 19) rfl
        have c11 := H2.out.blk.cell (i := 11) rfl
        have f19 := H2.out.blk.live 19
        have f11 := H2.out.blk.live 11
        have hl := H2.out.blk.lt
        simp only at c19 c11 f19 f11 hl
        have c18 := H2.out.blk.cell (i := 18) rfl
        simp only at c18
        go_wp2_with fail
        refine wp_region_mixed [true, true, true, true, true, true, true, true, true, true, true, true, true, true, true, true, true, true, true, true, true, true, true, true, true, true, true, true, true, true] 0 30 (by kernel_rfl) (by kernel_rfl) (by kernel_rfl) ?_ (by decide) (by decide) (by decide) (by kernel_rfl) ?_
        · intro c a d v w h; cases d <;> exact h
        intro X00
        simp only [pickOps]
        repeat (go_big_quiet_step (exact Calls.added (HD.out _)))
        refine wpQuiet_nil (fun X0 => ?_)
        clear X00
        refine wpAnyM_done (by kernel_rfl) (fun X0' => ?_) _
        go_wp2_with fail
        rw [Exit.noGoto_ret]
        go_ret
        obtain ⟨q1, q2, q3⟩ := FIN.out _ _ n H2 R2
        exact Does.ext ⟨own2, w2.setCell ⟨b, 19, none⟩ (.int .i64 n)⟩ (by (repeat (first | (with_reducible assumption) | (with_reducible exact Ext.refl _) | (with_reducible exact Ext.more _ _ _ _) | apply Ext.alloc | refine Ext.setCell ?_ (by first | exact Nat.le_refl _ | exact Nat.le_add_right _ _ | assumption) _ | apply Ext.patch | apply Ext.drew | apply Ext.drewN))) rfl (M2.out.trans (q1.mono (fun x hx => Or.inl hx))) (fun g2 m => ⟨⟨P, q2.keep m id id⟩, q3.keep m id⟩)
      have d1 : decide (n < 0) = false := decide_eq_false h1
      by_cases h2 : 2 < n
      · have d2 : decide (2 < n) = true := decide_eq_true h2
        rw [if_pos (Or.inr (Or.inl h2))] at hf
        simp only [Prod.mk.injEq, TrW.mk.injEq, and_true] at hf
        obtain ⟨⟨rfl, -⟩, rfl⟩ := hf
        clear hy
        go_enter Try.func88, Try.ntmps88
        go_wp2_with fail
        refine wp_scope_fwd 0 rfl ?_
        go_wp2_with fail
        go_step3
        refine ⟨rfl, ?_⟩
        go_wp2_with fail
        refine HRD.out.mono ?_
        rintro e w1 ⟨rfl, own1, m1, r1⟩
        have M1 := Lib.hid m1
        have R1 := Lib.hid r1
        clear m1 r1 c9 c11 hl
        go_wp2_with fail
        refine (HIX.out _).mono ?_
        rintro e w2 ⟨rfl, hE⟩
        obtain ⟨own2, m2⟩ := Mod.ofExtT (show Ext w1 w2 from hE) own1
        have M2 := Lib.hid ((M1.out.mono (S := fun x => x = t ∨ x = tm) (fun x hx => Or.inr hx)).trans (m2.mono (fun _ => False.elim)))
        have H2 := Lib.hid ((H.out.keep M1.out HT.out.1 HT.out.2).keep m2 id id)
        have R2 := Lib.hid (R1.out.keep m2 id)
        clear hE m2 M1 R1
        have c19 := H2.out.blk.cell (i := 19) rfl
        have c11 := H2.out.blk.cell (i := 11) rfl
        have f19 := H2.out.blk.live 19
        have f11 := H2.out.blk.live 11
        have hl := H2.out.blk.lt
        simp only at c19 c11 f19 f11 hl
        have c18 := H2.out.blk.cell (i := 18) rfl
        simp only at c18
        go_wp2_with fail
        refine wp_region_mixed [true, true, true, true, true, true, true, true, true, true, true, true, true, true, true, true, true, true, true, true, true, true, true, true, true, true, true, true, true, true] 0 30 (by kernel_rfl) (by kernel_rfl) (by kernel_rfl) ?_ (by decide) (by decide) (by decide) (by kernel_rfl) ?_
        · intro c a d v w h; cases d <;> exact h
        intro X00
        simp only [pickOps]
        repeat (go_big_quiet_step (exact Calls.added (HD.out _)))
        refine wpQuiet_nil (fun X0 => ?_)
        clear X00
        refine wpAnyM_done (by kernel_rfl) (fun X0' => ?_) _
        go_wp2_with fail
        rw [Exit.noGoto_ret]
        go_ret
        obtain ⟨q1, q2, q3⟩ := FIN.out _ _ n H2 R2
        exact Does.ext ⟨own2, w2.setCell ⟨b, 19, none⟩ (.int .i64 n)⟩ (by (repeat (first | (with_reducible assumption) | (with_reducible exact Ext.refl _) | (with_reducible exact Ext.more _ _ _ _) | apply Ext.alloc | refine Ext.setCell ?_ (by first | exact Nat.le_refl _ | exact Nat.le_add_right _ _ | assumption) _ | apply Ext.patch | apply Ext.drew | apply Ext.drewN))) rfl (M2.out.trans (q1.mono (fun x hx => Or.inl hx))) (fun g2 m => ⟨⟨P, q2.keep m id id⟩, q3.keep m id⟩)
      have d2 : decide (2 < n) = false := decide_eq_false h2
      obtain ⟨b1, hb1⟩ : ∃ b1 : Bool, decide (n = 0) = b1 := ⟨_, rfl⟩
      obtain ⟨b2, hb2⟩ : ∃ b2 : Bool, decide (y ≤ 4) = b2 := ⟨_, rfl⟩
      have hb1' : (n == 0) = b1 := by rw [← hb1, Bool.eq_iff_iff]; simp
      rw [hb1, hb2] at hf
      cases b1 <;> cases b2
      · rw [if_neg (by rintro (h | h | h) <;> first | exact h1 h | exact h2 h | exact h rfl), if_neg (of_decide_eq_false hb1)] at hf
        simp only [Prod.mk.injEq, TrW.mk.injEq, and_true] at hf
        obtain ⟨⟨rfl, -⟩, rfl⟩ := hf
        clear hy hb1
        go_enter Try.func88, Try.ntmps88
        go_wp2_with fail
        refine wp_scope_fwd 0 rfl ?_
        go_wp2_with fail
        go_step3
        refine ⟨rfl, ?_⟩
        go_wp2_with fail
        refine HRD.out.mono ?_
        rintro e w1 ⟨rfl, own1, m1, r1⟩
        have M1 := Lib.hid m1
        have R1 := Lib.hid r1
        clear m1 r1 c9 c11 hl
        go_wp2_with fail
        refine (HIX.out _).mono ?_
        rintro e w2 ⟨rfl, hE⟩
        obtain ⟨own2, m2⟩ := Mod.ofExtT (show Ext w1 w2 from hE) own1
        have M2 := Lib.hid ((M1.out.mono (S := fun x => x = t ∨ x = tm) (fun x hx => Or.inr hx)).trans (m2.mono (fun _ => False.elim)))
        have H2 := Lib.hid ((H.out.keep M1.out HT.out.1 HT.out.2).keep m2 id id)
        have R2 := Lib.hid (R1.out.keep m2 id)
        clear hE m2 M1 R1
        have c19 := H2.out.blk.cell (i := 19) rfl
        have c11 := H2.out.blk.cell (i := 11) rfl
        have f19 := H2.out.blk.live 19
        have f11 := H2.out.blk.live 11
        have hl := H2.out.blk.lt
        simp only at c19 c11 f19 f11 hl
        have c18 := H2.out.blk.cell (i := 18) rfl
        simp only at c18
        go_wp2_with fail
        refine wp_region_mixed [true, true, true, true, true, true, true, true, true, true, true, true, true, true, true, true, true, true, true, true, true, true, true, true, true, true, true, true, true, true] 0 30 (by kernel_rfl) (by kernel_rfl) (by kernel_rfl) ?_ (by decide) (by decide) (by decide) (by kernel_rfl) ?_
        · intro c a d v w h; cases d <;> exact h
        intro X00
        simp only [pickOps]
        repeat (go_big_quiet_step (exact Calls.added (HD.out _)))
        refine wpQuiet_nil (fun X0 => ?_)
        clear X00
        refine wpAnyM_done (by kernel_rfl) (fun X0' => ?_) _
        go_wp2_with fail
        rw [Exit.noGoto_ret]
        go_ret
        obtain ⟨q1, q2, q3⟩ := FIN.out _ _ n H2 R2
        have q4 : Mod (fun x => x = t) (⟨own2, w2.setCell ⟨b, 19, none⟩ (.int .i64 n)⟩ : GW) ⟨own2, (w2.setCell ⟨b, 19, none⟩ (.int .i64 n)).setCell ⟨b, 11, none⟩ (.int .i64 7)⟩ := Mod.st Mod.self q2.blk.own
        exact Does.ext ⟨own2, (w2.setCell ⟨b, 19, none⟩ (.int .i64 n)).setCell ⟨b, 11, none⟩ (.int .i64 7)⟩ (by (repeat (first | (with_reducible assumption) | (with_reducible exact Ext.refl _) | (with_reducible exact Ext.more _ _ _ _) | apply Ext.alloc | refine Ext.setCell ?_ (by first | exact Nat.le_refl _ | exact Nat.le_add_right _ _ | assumption) _ | apply Ext.patch | apply Ext.drew | apply Ext.drewN))) rfl (M2.out.trans ((q1.trans q4).mono (fun x hx => Or.inl hx))) (fun g2 m => ⟨⟨P, (q2.st 11 (.int .i64 7) { S with mode := n, pc := 7 } rfl rfl rfl rfl rfl).keep m id id⟩, (q3.keep q4 (fun e => HT.out.1 e.symm)).keep m id⟩)
      · rw [if_pos (Or.inr (Or.inr (by decide)))] at hf
        simp only [Prod.mk.injEq, TrW.mk.injEq, and_true] at hf
        obtain ⟨⟨rfl, -⟩, rfl⟩ := hf
        clear hy hb1
        go_enter Try.func88, Try.ntmps88
        go_wp2_with fail
        refine wp_scope_fwd 0 rfl ?_
        go_wp2_with fail
        go_step3
        refine ⟨rfl, ?_⟩
        go_wp2_with fail
        refine HRD.out.mono ?_
        rintro e w1 ⟨rfl, own1, m1, r1⟩
        have M1 := Lib.hid m1
        have R1 := Lib.hid r1
        clear m1 r1 c9 c11 hl
        go_wp2_with fail
        refine (HIX.out _).mono ?_
        rintro e w2 ⟨rfl, hE⟩
        obtain ⟨own2, m2⟩ := Mod.ofExtT (show Ext w1 w2 from hE) own1
        have M2 := Lib.hid ((M1.out.mono (S := fun x => x = t ∨ x = tm) (fun x hx => Or.inr hx)).trans (m2.mono (fun _ => False.elim)))
        have H2 := Lib.hid ((H.out.keep M1.out HT.out.1 HT.out.2).keep m2 id id)
        have R2 := Lib.hid (R1.out.keep m2 id)
        clear hE m2 M1 R1
        have c19 := H2.out.blk.cell (i := 19) rfl
        have c11 := H2.out.blk.cell (i := 11) rfl
        have f19 := H2.out.blk.live 19
        have f11 := H2.out.blk.live 11
        have hl := H2.out.blk.lt
        simp only at c19 c11 f19 f11 hl
        have c18 := H2.out.blk.cell (i := 18) rfl
        simp only at c18
        go_wp2_with fail
        refine wp_region_mixed [true, true, true, true, true, true, true, true, true, true, true, true, true, true, true, true, true, true, true, true, true, true, true, true, true, true, true, true, true, true] 0 30 (by kernel_rfl) (by kernel_rfl) (by kernel_rfl) ?_ (by decide) (by decide) (by decide) (by kernel_rfl) ?_
        · intro c a d v w h; cases d <;> exact h
        intro X00
        simp only [pickOps]
        repeat (go_big_quiet_step (exact Calls.added (HD.out _)))
        refine wpQuiet_nil (fun X0 => ?_)
        clear X00
        refine wpAnyM_done (by kernel_rfl) (fun X0' => ?_) _
        go_wp2_with fail
        rw [Exit.noGoto_ret]
        go_ret
        obtain ⟨q1, q2, q3⟩ := FIN.out _ _ n H2 R2
        exact Does.ext ⟨own2, w2.setCell ⟨b, 19, none⟩ (.int .i64 n)⟩ (by (repeat (first | (with_reducible assumption) | (with_reducible exact Ext.refl _) | (with_reducible exact Ext.more _ _ _ _) | apply Ext.alloc | refine Ext.setCell ?_ (by first | exact Nat.le_refl _ | exact Nat.le_add_right _ _ | assumption) _ | apply Ext.patch | apply Ext.drew | apply Ext.drewN))) rfl (M2.out.trans (q1.mono (fun x hx => Or.inl hx))) (fun g2 m => ⟨⟨P, q2.keep m id id⟩, q3.keep m id⟩)
      · rw [if_pos (Or.inr (Or.inr (by decide)))] at hf
        simp only [Prod.mk.injEq, TrW.mk.injEq, and_true] at hf
        obtain ⟨⟨rfl, -⟩, rfl⟩ := hf
        clear hy hb1
        go_enter Try.func88, Try.ntmps88
        go_wp2_with fail
        refine wp_scope_fwd 0 rfl ?_
        go_wp2_with fail
        go_step3
        refine ⟨rfl, ?_⟩
        go_wp2_with fail
        refine HRD.out.mono ?_
        rintro e w1 ⟨rfl, own1, m1, r1⟩
        have M1 := Lib.hid m1
        have R1 := Lib.hid r1
        clear m1 r1 c9 c11 hl
        go_wp2_with fail
        refine (HIX.out _).mono ?_
        rintro e w2 ⟨rfl, hE⟩
        obtain ⟨own2, m2⟩ := Mod.ofExtT (show Ext w1 w2 from hE) own1
        have M2 := Lib.hid ((M1.out.mono (S := fun x => x = t ∨ x = tm) (fun x hx => Or.inr hx)).trans (m2.mono (fun _ => False.elim)))
        have H2 := Lib.hid ((H.out.keep M1.out HT.out.1 HT.out.2).keep m2 id id)
        have R2 := Lib.hid (R1.out.keep m2 id)
        clear hE m2 M1 R1
        have c19 := H2.out.blk.cell (i := 19) rfl
        have c11 := H2.out.blk.cell (i := 11) rfl
        have f19 := H2.out.blk.live 19
        have f11 := H2.out.blk.live 11
        have hl := H2.out.blk.lt
        simp only at c19 c11 f19 f11 hl
        have c18 := H2.out.blk.cell (i := 18) rfl
        simp only at c18
        go_wp2_with fail
        refine wp_region_mixed [true, true, true, true, true, true, true, true, true, true, true, true, true, true, true, true, true, true, true, true, true, true, true, true, true, true, true, true, true, true] 0 30 (by kernel_rfl) (by kernel_rfl) (by kernel_rfl) ?_ (by decide) (by decide) (by decide) (by kernel_rfl) ?_
        · intro c a d v w h; cases d <;> exact h
        intro X00
        simp only [pickOps]
        repeat (go_big_quiet_step (exact Calls.added (HD.out _)))
        refine wpQuiet_nil (fun X0 => ?_)
        clear X00
        refine wpAnyM_done (by kernel_rfl) (fun X0' => ?_) _
        go_wp2_with fail
        rw [Exit.noGoto_ret]
        go_ret
        obtain ⟨q1, q2, q3⟩ := FIN.out _ _ n H2 R2
        exact Does.ext ⟨own2, w2.setCell ⟨b, 19, none⟩ (.int .i64 n)⟩ (by (repeat (first | (with_reducible assumption) | (with_reducible exact Ext.refl _) | (with_reducible exact Ext.more _ _ _ _) | apply Ext.alloc | refine Ext.setCell ?_ (by first | exact Nat.le_refl _ | exact Nat.le_add_right _ _ | assumption) _ | apply Ext.patch | apply Ext.drew | apply Ext.drewN))) rfl (M2.out.trans (q1.mono (fun x hx => Or.inl hx))) (fun g2 m => ⟨⟨P, q2.keep m id id⟩, q3.keep m id⟩)
      · rw [if_neg (by rintro (h | h | h) <;> first | exact h1 h | exact h2 h | exact h rfl), if_pos (of_decide_eq_true hb1)] at hf
        simp only [Prod.mk.injEq, TrW.mk.injEq, and_true] at hf
        obtain ⟨⟨rfl, -⟩, rfl⟩ := hf
        obtain rfl : n = 0 := of_decide_eq_true hb1
        clear hy hb1 hb1'
        go_enter Try.func88, Try.ntmps88
        go_wp2_with fail
        refine wp_scope_via2t 0 3 rfl rfl ?_
        go_wp2_with fail
        go_step3
        refine via_here ?_
        go_wp2_with fail
        refine HRD.out.mono ?_
        rintro e w1 ⟨rfl, own1, m1, r1⟩
        have M1 := Lib.hid m1
        have R1 := Lib.hid r1
        clear m1 r1 c9 c11 hl
        go_wp2_with fail
        refine (HIX.out _).mono ?_
        rintro e w2 ⟨rfl, hE⟩
        obtain ⟨own2, m2⟩ := Mod.ofExtT (show Ext w1 w2 from hE) own1
        have M2 := Lib.hid ((M1.out.mono (S := fun x => x = t ∨ x = tm) (fun x hx => Or.inr hx)).trans (m2.mono (fun _ => False.elim)))
        have H2 := Lib.hid ((H.out.keep M1.out HT.out.1 HT.out.2).keep m2 id id)
        have R2 := Lib.hid (R1.out.keep m2 id)
        clear hE m2 M1 R1
        have c19 := H2.out.blk.cell (i := 19) rfl
        have c11 := H2.out.blk.cell (i := 11) rfl
        have f19 := H2.out.blk.live 19
        have f11 := H2.out.blk.live 11
        have hl := H2.out.blk.lt
        simp only at c19 c11 f19 f11 hl
        have c18 := H2.out.blk.cell (i := 18) rfl
        simp only at c18
        go_wp2_with fail
        refine wp_region_mixed [true, true, true, true, true, true, true, true, true, true, true, true, true, true, true, true, true, true, true, true, true, true, true, true, true, true, true, true, true, true] 0 30 (by kernel_rfl) (by kernel_rfl) (by kernel_rfl) ?_ (by decide) (by decide) (by decide) (by kernel_rfl) ?_
        · intro c a d v w h; cases d <;> exact h
        intro X00
        simp only [pickOps]
        repeat (go_big_quiet_step (exact Calls.added (HD.out _)))
        refine wpQuiet_nil (fun X0 => ?_)
        clear X00
        refine wpAnyM_done (by kernel_rfl) (fun X0' => ?_) _
        obtain ⟨own3, m3⟩ := Mod.ofExtT (show Ext (w2.setCell ⟨b, 19, none⟩ (.int .i64 0)) (((w2.setCell ⟨b, 19, none⟩ (.int .i64 0)).patch X0).patch X0') from by (repeat (first | (with_reducible assumption) | (with_reducible exact Ext.refl _) | (with_reducible exact Ext.more _ _ _ _) | apply Ext.alloc | refine Ext.setCell ?_ (by first | exact Nat.le_refl _ | exact Nat.le_add_right _ _ | assumption) _ | apply Ext.patch | apply Ext.drew | apply Ext.drewN))) own2
        obtain ⟨q1, q2, q3⟩ := FIN.out _ _ 0 H2 R2
        have M3 := Lib.hid (M2.out.trans ((q1.mono (S := fun x => x = t ∨ x = tm) (fun x hx => Or.inl hx)).trans (m3.mono (fun _ => False.elim))))
        have H3 := Lib.hid (q2.keep m3 id id)
        have R3 := Lib.hid (q3.keep m3 id)
        generalize ((w2.setCell ⟨b, 19, none⟩ (.int .i64 0)).patch X0).patch X0' = w3 at *
        clear m3 q1 q2 q3 c18 c19 c11 f19 f11 hl H2 R2 M2
        have c19 := H3.out.blk.cell (i := 19) rfl
        have c11 := H3.out.blk.cell (i := 11) rfl
        have f11 := H3.out.blk.live 11
        have hl := H3.out.blk.lt
        simp only at c19 c11 f11 hl
        have H4 := Lib.hid (H3.out.st 11 (.int .i64 7) { S with mode := 0, pc := 7 } rfl rfl rfl rfl rfl)
        go_wp2_with fail
        go_step3
        refine via_here ?_
        go_wp2_with fail
        refine (trace_enters _ t b _ _ H4.out HB.out.base' (by have := HB.out.j'; show 0 ≤ S.j ∧ S.j ≤ _; omega)).mono ?_
        rintro e w5 ⟨rfl, own5, m5, r5⟩
        have M5 := Lib.hid m5
        have H5 := Lib.hid r5
        clear m5 r5 c19 c11 f11 hl
        have hen : TraceS.enters { S with mode := 0, pc := 7 } = { S with mode := 0, pc := 7 } := if_neg (by show ¬ (0 : Int) = 2; decide)
        have hpc : TraceS.entersPc { S with mode := 0, pc := 7 } = 8 := if_neg (by show ¬ (0 : Int) = 2; decide)
        rw [hen] at H5
        rw [hpc]
        clear hen hpc
        have c11 := H5.out.blk.cell (i := 11) rfl
        have f11 := H5.out.blk.live 11
        have hl := H5.out.blk.lt
        simp only at c11 f11 hl
        go_wp2_with fail
        rw [Exit.via_ret]
        go_ret
        have m6 : Mod (fun x => x = t) (⟨own3, w3⟩ : GW) ⟨own5, w5.setCell ⟨b, 11, none⟩ (.int .i64 8)⟩ := (Mod.st (i := 11) (v := .int .i64 7) Mod.self H3.out.blk.own).trans (M5.out.trans (Mod.st Mod.self H5.out.blk.own))
        exact ⟨rfl, own5, M3.out.trans (m6.mono (fun x hx => Or.inl hx)), ⟨P, H5.out.st 11 (.int .i64 8) { S with mode := 0, pc := 8 } rfl rfl rfl rfl rfl⟩, R3.out.keep m6 (fun e => HT.out.1 e.symm)⟩
end Go.Proofs.Ythdijbkcjmeilaa
/-
  trace: array: the base, a slot.
-/
namespace Go.Proofs.Ythdijbkcjmeilaa
open Go Go.RowKit
set_option linter.unusedVariables false
set_option linter.unnecessarySimpa false
set_option linter.unusedSimpArgs false
set_option maxHeartbeats 4000000
set_option maxRecDepth 100000
theorem cWords_le {c : Cnf} (h : c.check = 0) : 0 ≤ cWords c ∧ cWords c ≤ 13000 := by
  have := Cnf.ranged (Cnf.check_zero h).1
  unfold cWords
  rw [if_pos h]
  omega
theorem array_base (g : GW) (t b tm bm : Nat) (S : TraceS) (P : TrPl) (m : MemS) (h : TraceIs g t b S P) (hm : MemAt g tm bm m) (hc : 0 ≤ m.count ∧ m.count ≤ 1099511627776) (ht : t ≠ tm) (ht1 : t + 1 ≠ tm) (hpc : S.pc = 7) (hmo : S.mode = 1 ∨ S.mode = 2) (hB : S.Bd) (ok : Bool) (S' : TraceS) (T : TabS) (p : PileS) (k : Int) (hf : TrW.base ⟨S, m, T, p, k⟩ = (⟨S', S.rdM m S.head 4, T, p, k⟩, ok)) :
    Calls Try.prog 88 #[.pointer (some ⟨b, 0, none⟩), .pointer (some ⟨bm, 0, none⟩)] g.w (Does (.bool ok) g (fun x => x = t ∨ x = tm) (fun g' => TraceAt g' t b S' ∧ MemAt g' tm bm (S.rdM m S.head 4))) := by
  have c9 := h.blk.cell (i := 9) rfl
  have c11 := h.blk.cell (i := 11) rfl
  have c19 := h.blk.cell (i := 19) rfl
  have hl := h.blk.lt
  rw [hpc] at c11
  have HT := Lib.hid (And.intro ht ht1)
  have HB := Lib.hid hB
  have H := Lib.hid h
  have HRD := Lib.hid (trace_read g t b tm bm S m S.head 4 ⟨P, h⟩ hm hc)
  unfold TrW.base at hf
  simp only at hf
  generalize hr : S.rd m S.head 4 = r at *
  generalize S.rdM m S.head 4 = m' at *
  clear hr h hm hc hpc hB ht ht1
  rcases r with _ | v
  · simp only [Prod.mk.injEq, TrW.mk.injEq, and_true] at hf
    obtain ⟨⟨rfl, -⟩, rfl⟩ := hf
    unfold trdV at HRD
    simp only [Option.getD_none, Option.isSome_none] at HRD
    clear hmo
    go_enter Try.func88, Try.ntmps88
    go_wp2_with fail
    refine wp_scope_fwd 1 rfl ?_
    go_wp2_with fail
    go_step3
    refine ⟨rfl, ?_⟩
    go_wp2_with fail
    refine HRD.out.mono ?_
    rintro e w1 ⟨rfl, own1, m1, r1⟩
    have M1 := Lib.hid m1
    have R1 := Lib.hid r1
    clear m1 r1 c9 c11 c19 hl
    go_wp2_with fail
    rw [Exit.noGoto_ret]
    go_ret
    exact ⟨rfl, own1, M1.out.mono (fun x hx => Or.inr hx), ⟨P, H.out.keep M1.out HT.out.1 HT.out.2⟩, R1.out⟩
  · unfold trdV at HRD
    simp only [Option.getD_some, Option.isSome_some] at HRD
    rcases hmo with hmo | hmo
    · have HMO := Lib.hid hmo
      have HIX := Lib.hid (fun w => nint_any v w)
      have HWS := Lib.hid (fun w' (hok : S.c.Ok w') => words_any S.c w' hok)
      unfold Cnf.val at HWS
      unfold optV at HIX
      obtain ⟨v1, v2⟩ := v
      simp only at HRD HIX hf
      rw [if_pos hmo] at hf
      clear hmo
      have fin : ∀ (own2 : Nat → Nat) (w2 : World) (n : Int), Hid (TraceIs ⟨own2, w2⟩ t b S P) → Hid (MemAt ⟨own2, w2⟩ tm bm m') → Mod (fun x => x = t) (⟨own2, w2⟩ : GW) ⟨own2, w2.setCell ⟨b, 20, none⟩ (.int .i64 n)⟩ ∧ TraceIs ⟨own2, w2.setCell ⟨b, 20, none⟩ (.int .i64 n)⟩ t b { S with base := n } P ∧ MemAt ⟨own2, w2.setCell ⟨b, 20, none⟩ (.int .i64 n)⟩ tm bm m' := fun _ _ n H2 R2 => by
        have m3 : Mod (fun x => x = t) (⟨_, _⟩ : GW) ⟨_, _⟩ := Mod.st (i := 20) (v := .int .i64 n) Mod.self H2.out.blk.own
        exact ⟨m3, H2.out.st 20 (.int .i64 n) { S with base := n } rfl rfl rfl rfl rfl, R2.out.keep m3 (fun e => HT.out.1 e.symm)⟩
      have FIN := Lib.hid fin
      clear fin
      rcases hix : wInt (v1, v2) with _ | n
      · rw [hix] at hf HIX
        simp only [Prod.mk.injEq, TrW.mk.injEq, and_true] at hf
        obtain ⟨⟨rfl, -⟩, rfl⟩ := hf
        simp only [Option.getD_none, Option.isSome_none] at HIX
        clear hix
        as_aux_lemma =>
          go_enter Try.func88, Try.ntmps88
          go_wp2_with fail
          refine wp_scope_fwd 1 rfl ?_
          go_wp2_with fail
          go_step3
          refine ⟨rfl, ?_⟩
          go_wp2_with fail
          refine HRD.out.mono ?_
          rintro e w1 ⟨rfl, own1, m1, r1⟩
          have M1 := Lib.hid m1
          have R1 := Lib.hid r1
          have H1 := Lib.hid (H.out.keep M1.out HT.out.1 HT.out.2)
          clear m1 r1 c9 c11 c19 hl
          have c19 := H1.out.blk.cell (i := 19) rfl
          have hl := H1.out.blk.lt
          simp only at c19 hl
          rw [HMO.out] at c19
          go_wp2_with fail
          refine (HIX.out _).mono ?_
          rintro e w2 ⟨rfl, hE⟩
          obtain ⟨own2, m2⟩ := Mod.ofExtT (show Ext w1 w2 from hE) own1
          have M2 := Lib.hid ((M1.out.mono (S := fun x => x = t ∨ x = tm) (fun x hx => Or.inr hx)).trans (m2.mono (fun _ => False.elim)))
          have H2 := Lib.hid (H1.out.keep m2 id id)
          have R2 := Lib.hid (R1.out.keep m2 id)
          clear hE m2 M1 R1 H1 c19 hl
          have c20 := H2.out.blk.cell (i := 20) rfl
          have f20 := H2.out.blk.live 20
          have c18 := H2.out.blk.cell (i := 18) rfl
          have k0 := H2.out.blk.cell (i := 0) rfl
          have k1 := H2.out.blk.cell (i := 1) rfl
          have k2 := H2.out.blk.cell (i := 2) rfl
          have k3 := H2.out.blk.cell (i := 3) rfl
          have k4 := H2.out.blk.cell (i := 4) rfl
          have k5 := H2.out.blk.cell (i := 5) rfl
          have k6 := H2.out.blk.cell (i := 6) rfl
          have k7 := H2.out.blk.cell (i := 7) rfl
          have k8 := H2.out.blk.cell (i := 8) rfl
          have hl := H2.out.blk.lt
          simp only at c20 f20 c18 k0 k1 k2 k3 k4 k5 k6 k7 k8 hl
          go_wp2_with fail
          refine wp_region_mixed [true, true, true, true, true, true, true, true, true, true, true, true, true, true, true, true, true, true, true, true, true] 0 21 (by kernel_rfl) (by kernel_rfl) (by kernel_rfl) ?_ (by decide) (by decide) (by decide) (by kernel_rfl) ?_
          · intro c a d v w h; cases d <;> exact h
          intro X00
          simp only [pickOps]
          repeat (go_big_quiet_step (fail))
          refine wpQuiet_nil (fun X0 => ?_)
          clear X00
          refine wpAnyM_done (by kernel_rfl) (fun X0' => ?_) _
          go_wp2_with fail
          rw [Exit.noGoto_ret]
          go_ret
          obtain ⟨q1, q2, q3⟩ := FIN.out _ _ 0 H2 R2
          exact Does.ext ⟨own2, w2.setCell ⟨b, 20, none⟩ (.int .i64 0)⟩ (by (repeat (first | (with_reducible assumption) | (with_reducible exact Ext.refl _) | (with_reducible exact Ext.more _ _ _ _) | apply Ext.alloc | refine Ext.setCell ?_ (by first | exact Nat.le_refl _ | exact Nat.le_add_right _ _ | assumption) _ | apply Ext.patch | apply Ext.drew | apply Ext.drewN))) rfl (M2.out.trans (q1.mono (fun x hx => Or.inl hx))) (fun g2 m => ⟨⟨P, q2.keep m id id⟩, q3.keep m id⟩)
      · rw [hix] at hf HIX
        simp only at hf
        simp only [Option.getD_some, Option.isSome_some] at HIX
        clear hix
        by_cases h1 : n < 0
        · have d1 : decide (n < 0) = true := decide_eq_true h1
          rw [if_pos (Or.inl h1)] at hf
          simp only [Prod.mk.injEq, TrW.mk.injEq, and_true] at hf
          obtain ⟨⟨rfl, -⟩, rfl⟩ := hf
          as_aux_lemma =>
            go_enter Try.func88, Try.ntmps88
            go_wp2_with fail
            refine wp_scope_fwd 1 rfl ?_
            go_wp2_with fail
            go_step3
            refine ⟨rfl, ?_⟩
            go_wp2_with fail
            refine HRD.out.mono ?_
            rintro e w1 ⟨rfl, own1, m1, r1⟩
            have M1 := Lib.hid m1
            have R1 := Lib.hid r1
            have H1 := Lib.hid (H.out.keep M1.out HT.out.1 HT.out.2)
            clear m1 r1 c9 c11 c19 hl
            have c19 := H1.out.blk.cell (i := 19) rfl
            have hl := H1.out.blk.lt
            simp only at c19 hl
            rw [HMO.out] at c19
            go_wp2_with fail
            refine (HIX.out _).mono ?_
            rintro e w2 ⟨rfl, hE⟩
            obtain ⟨own2, m2⟩ := Mod.ofExtT (show Ext w1 w2 from hE) own1
            have M2 := Lib.hid ((M1.out.mono (S := fun x => x = t ∨ x = tm) (fun x hx => Or.inr hx)).trans (m2.mono (fun _ => False.elim)))
            have H2 := Lib.hid (H1.out.keep m2 id id)
            have R2 := Lib.hid (R1.out.keep m2 id)
            clear hE m2 M1 R1 H1 c19 hl
            have c20 := H2.out.blk.cell (i := 20) rfl
            have f20 := H2.out.blk.live 20
            have c18 := H2.out.blk.cell (i := 18) rfl
            have k0 := H2.out.blk.cell (i := 0) rfl
            have k1 := H2.out.blk.cell (i := 1) rfl
            have k2 := H2.out.blk.cell (i := 2) rfl
            have k3 := H2.out.blk.cell (i := 3) rfl
            have k4 := H2.out.blk.cell (i := 4) rfl
            have k5 := H2.out.blk.cell (i := 5) rfl
            have k6 := H2.out.blk.cell (i := 6) rfl
            have k7 := H2.out.blk.cell (i := 7) rfl
            have k8 := H2.out.blk.cell (i := 8) rfl
            have hl := H2.out.blk.lt
            simp only at c20 f20 c18 k0 k1 k2 k3 k4 k5 k6 k7 k8 hl
            go_wp2_with fail
            refine wp_region_mixed [true, true, true, true, true, true, true, true, true, true, true, true, true, true, true, true, true, true, true, true, true] 0 21 (by kernel_rfl) (by kernel_rfl) (by kernel_rfl) ?_ (by decide) (by decide) (by decide) (by kernel_rfl) ?_
            · intro c a d v w h; cases d <;> exact h
            intro X00
            simp only [pickOps]
            repeat (go_big_quiet_step (fail))
            refine wpQuiet_nil (fun X0 => ?_)
            clear X00
            refine wpAnyM_done (by kernel_rfl) (fun X0' => ?_) _
            go_wp2_with fail
            rw [Exit.noGoto_ret]
            go_ret
            obtain ⟨q1, q2, q3⟩ := FIN.out _ _ n H2 R2
            exact Does.ext ⟨own2, w2.setCell ⟨b, 20, none⟩ (.int .i64 n)⟩ (by (repeat (first | (with_reducible assumption) | (with_reducible exact Ext.refl _) | (with_reducible exact Ext.more _ _ _ _) | apply Ext.alloc | refine Ext.setCell ?_ (by first | exact Nat.le_refl _ | exact Nat.le_add_right _ _ | assumption) _ | apply Ext.patch | apply Ext.drew | apply Ext.drewN))) rfl (M2.out.trans (q1.mono (fun x hx => Or.inl hx))) (fun g2 m => ⟨⟨P, q2.keep m id id⟩, q3.keep m id⟩)
        have d1 : decide (n < 0) = false := decide_eq_false h1
        have HCW := Lib.hid (cWords_le HB.out.chk)
        by_cases h2 : cWords S.c ≤ n
        · have d2 : decide (cWords S.c ≤ n) = true := decide_eq_true h2
          rw [if_pos (Or.inr h2)] at hf
          simp only [Prod.mk.injEq, TrW.mk.injEq, and_true] at hf
          obtain ⟨⟨rfl, -⟩, rfl⟩ := hf
          as_aux_lemma =>
            go_enter Try.func88, Try.ntmps88
            go_wp2_with fail
            refine wp_scope_fwd 1 rfl ?_
            go_wp2_with fail
            go_step3
            refine ⟨rfl, ?_⟩
            go_wp2_with fail
            refine HRD.out.mono ?_
            rintro e w1 ⟨rfl, own1, m1, r1⟩
            have M1 := Lib.hid m1
            have R1 := Lib.hid r1
            have H1 := Lib.hid (H.out.keep M1.out HT.out.1 HT.out.2)
            clear m1 r1 c9 c11 c19 hl
            have c19 := H1.out.blk.cell (i := 19) rfl
            have hl := H1.out.blk.lt
            simp only at c19 hl
            rw [HMO.out] at c19
            go_wp2_with fail
            refine (HIX.out _).mono ?_
            rintro e w2 ⟨rfl, hE⟩
            obtain ⟨own2, m2⟩ := Mod.ofExtT (show Ext w1 w2 from hE) own1
            have M2 := Lib.hid ((M1.out.mono (S := fun x => x = t ∨ x = tm) (fun x hx => Or.inr hx)).trans (m2.mono (fun _ => False.elim)))
            have H2 := Lib.hid (H1.out.keep m2 id id)
            have R2 := Lib.hid (R1.out.keep m2 id)
            clear hE m2 M1 R1 H1 c19 hl
            have c20 := H2.out.blk.cell (i := 20) rfl
            have f20 := H2.out.blk.live 20
            have c18 := H2.out.blk.cell (i := 18) rfl
            have k0 := H2.out.blk.cell (i := 0) rfl
            have k1 := H2.out.blk.cell (i := 1) rfl
            have k2 := H2.out.blk.cell (i := 2) rfl
            have k3 := H2.out.blk.cell (i := 3) rfl
            have k4 := H2.out.blk.cell (i := 4) rfl
            have k5 := H2.out.blk.cell (i := 5) rfl
            have k6 := H2.out.blk.cell (i := 6) rfl
            have k7 := H2.out.blk.cell (i := 7) rfl
            have k8 := H2.out.blk.cell (i := 8) rfl
            have hl := H2.out.blk.lt
            simp only at c20 f20 c18 k0 k1 k2 k3 k4 k5 k6 k7 k8 hl
            go_wp2_with fail
            refine wp_region_mixed [true, true, true, true, true, true, true, true, true, true, true, true, true, true, true, true, true, true, true, true, true] 0 21 (by kernel_rfl) (by kernel_rfl) (by kernel_rfl) ?_ (by decide) (by decide) (by decide) (by kernel_rfl) ?_
            · intro c a d v w h; cases d <;> exact h
            intro X00
            simp only [pickOps]
            repeat (go_big_quiet_step (exact Calls.added (HWS.out _ ((FIN.out _ _ n H2 R2).2.1.cnf.ok.ext ⟨_, rfl⟩))))
            refine wpQuiet_nil (fun X0 => ?_)
            clear X00
            refine wpAnyM_done (by kernel_rfl) (fun X0' => ?_) _
            go_wp2_with fail
            rw [Exit.noGoto_ret]
            go_ret
            obtain ⟨q1, q2, q3⟩ := FIN.out _ _ n H2 R2
            exact Does.ext ⟨own2, w2.setCell ⟨b, 20, none⟩ (.int .i64 n)⟩ (by (repeat (first | (with_reducible assumption) | (with_reducible exact Ext.refl _) | (with_reducible exact Ext.more _ _ _ _) | apply Ext.alloc | refine Ext.setCell ?_ (by first | exact Nat.le_refl _ | exact Nat.le_add_right _ _ | assumption) _ | apply Ext.patch | apply Ext.drew | apply Ext.drewN))) rfl (M2.out.trans (q1.mono (fun x hx => Or.inl hx))) (fun g2 m => ⟨⟨P, q2.keep m id id⟩, q3.keep m id⟩)
        have d2 : decide (cWords S.c ≤ n) = false := decide_eq_false h2
        rw [if_neg (by omega)] at hf
        simp only [Prod.mk.injEq, TrW.mk.injEq, and_true] at hf
        obtain ⟨⟨rfl, -⟩, rfl⟩ := hf
        as_aux_lemma =>
          go_enter Try.func88, Try.ntmps88
          go_wp2_with fail
          refine wp_scope_fwd 1 rfl ?_
          go_wp2_with fail
          go_step3
          refine ⟨rfl, ?_⟩
          go_wp2_with fail
          refine HRD.out.mono ?_
          rintro e w1 ⟨rfl, own1, m1, r1⟩
          have M1 := Lib.hid m1
          have R1 := Lib.hid r1
          have H1 := Lib.hid (H.out.keep M1.out HT.out.1 HT.out.2)
          clear m1 r1 c9 c11 c19 hl
          have c19 := H1.out.blk.cell (i := 19) rfl
          have hl := H1.out.blk.lt
          simp only at c19 hl
          rw [HMO.out] at c19
          go_wp2_with fail
          refine (HIX.out _).mono ?_
          rintro e w2 ⟨rfl, hE⟩
          obtain ⟨own2, m2⟩ := Mod.ofExtT (show Ext w1 w2 from hE) own1
          have M2 := Lib.hid ((M1.out.mono (S := fun x => x = t ∨ x = tm) (fun x hx => Or.inr hx)).trans (m2.mono (fun _ => False.elim)))
          have H2 := Lib.hid (H1.out.keep m2 id id)
          have R2 := Lib.hid (R1.out.keep m2 id)
          clear hE m2 M1 R1 H1 c19 hl
          have c20 := H2.out.blk.cell (i := 20) rfl
          have f20 := H2.out.blk.live 20
          have c18 := H2.out.blk.cell (i := 18) rfl
          have k0 := H2.out.blk.cell (i := 0) rfl
          have k1 := H2.out.blk.cell (i := 1) rfl
          have k2 := H2.out.blk.cell (i := 2) rfl
          have k3 := H2.out.blk.cell (i := 3) rfl
          have k4 := H2.out.blk.cell (i := 4) rfl
          have k5 := H2.out.blk.cell (i := 5) rfl
          have k6 := H2.out.blk.cell (i := 6) rfl
          have k7 := H2.out.blk.cell (i := 7) rfl
          have k8 := H2.out.blk.cell (i := 8) rfl
          have hl := H2.out.blk.lt
          simp only at c20 f20 c18 k0 k1 k2 k3 k4 k5 k6 k7 k8 hl
          go_wp2_with fail
          refine wp_region_mixed [true, true, true, true, true, true, true, true, true, true, true, true, true, true, true, true, true, true, true, true, true] 0 21 (by kernel_rfl) (by kernel_rfl) (by kernel_rfl) ?_ (by decide) (by decide) (by decide) (by kernel_rfl) ?_
          · intro c a d v w h; cases d <;> exact h
          intro X00
          simp only [pickOps]
          repeat (go_big_quiet_step (exact Calls.added (HWS.out _ ((FIN.out _ _ n H2 R2).2.1.cnf.ok.ext ⟨_, rfl⟩))))
          refine wpQuiet_nil (fun X0 => ?_)
          clear X00
          refine wpAnyM_done (by kernel_rfl) (fun X0' => ?_) _
          obtain ⟨w3, hw3⟩ : ∃ w3, w3 = ((w2.setCell ⟨b, 20, none⟩ (.int .i64 n)).patch X0).patch X0' := ⟨_, rfl⟩
          obtain ⟨own3, m3⟩ := Mod.ofExtT (show Ext (w2.setCell ⟨b, 20, none⟩ (.int .i64 n)) w3 from hw3 ▸ (by (repeat (first | (with_reducible assumption) | (with_reducible exact Ext.refl _) | (with_reducible exact Ext.more _ _ _ _) | apply Ext.alloc | refine Ext.setCell ?_ (by first | exact Nat.le_refl _ | exact Nat.le_add_right _ _ | assumption) _ | apply Ext.patch | apply Ext.drew | apply Ext.drewN)))) own2
          obtain ⟨q1, q2, q3⟩ := FIN.out _ _ n H2 R2
          have M3 := Lib.hid (M2.out.trans ((q1.mono (S := fun x => x = t ∨ x = tm) (fun x hx => Or.inl hx)).trans (m3.mono (fun _ => False.elim))))
          have H3 := Lib.hid (q2.keep m3 id id)
          have R3 := Lib.hid (q3.keep m3 id)
          rw [← hw3]
          clear m3 q1 q2 q3 c18 c20 f20 hl H2 R2 M2 hw3 k0 k1 k2 k3 k4 k5 k6 k7 k8
          go_wp2_with fail
          go_step3
          go_wp2_with fail
          refine (trace_enters _ t b _ _ H3.out (by have := HCW.out; show 0 ≤ n ∧ n ≤ _; omega) (by have := HB.out.j'; show 0 ≤ S.j ∧ S.j ≤ _; omega)).mono ?_
          rintro e w5 ⟨rfl, own5, m5, r5⟩
          have M5 := Lib.hid m5
          have H5 := Lib.hid r5
          clear m5 r5
          have hen : TraceS.enters { S with base := n } = { S with base := n } := if_neg (by show ¬ S.mode = 2; rw [HMO.out]; decide)
          have hpc : TraceS.entersPc { S with base := n } = 8 := if_neg (by show ¬ S.mode = 2; rw [HMO.out]; decide)
          rw [hen] at H5
          rw [hpc]
          clear hen hpc
          have c11 := H5.out.blk.cell (i := 11) rfl
          have f11 := H5.out.blk.live 11
          have hl := H5.out.blk.lt
          simp only at c11 f11 hl
          go_wp2_with fail
          rw [Exit.noGoto_ret]
          go_ret
          have m6 : Mod (fun x => x = t) (⟨own3, w3⟩ : GW) ⟨own5, w5.setCell ⟨b, 11, none⟩ (.int .i64 8)⟩ := M5.out.trans (Mod.st Mod.self H5.out.blk.own)
          exact ⟨rfl, own5, M3.out.trans (m6.mono (fun x hx => Or.inl hx)), ⟨P, H5.out.st 11 (.int .i64 8) { S with base := n, pc := 8 } rfl rfl rfl rfl rfl⟩, R3.out.keep m6 (fun e => HT.out.1 e.symm)⟩
    · have HMO := Lib.hid hmo
      have HIX := Lib.hid (fun w => index_any_w v w)
      have HD := Lib.hid (fun w => data_any S.n w)
      have hsd := sData_bd S.n
      unfold optV at HIX
      obtain ⟨v1, v2⟩ := v
      simp only at HRD HIX hf
      rw [if_neg (by rw [hmo]; decide)] at hf
      clear hmo
      have fin : ∀ (own2 : Nat → Nat) (w2 : World) (n : Int), Hid (TraceIs ⟨own2, w2⟩ t b S P) → Hid (MemAt ⟨own2, w2⟩ tm bm m') → Mod (fun x => x = t) (⟨own2, w2⟩ : GW) ⟨own2, w2.setCell ⟨b, 20, none⟩ (.int .i64 n)⟩ ∧ TraceIs ⟨own2, w2.setCell ⟨b, 20, none⟩ (.int .i64 n)⟩ t b { S with base := n } P ∧ MemAt ⟨own2, w2.setCell ⟨b, 20, none⟩ (.int .i64 n)⟩ tm bm m' := fun _ _ n H2 R2 => by
        have m3 : Mod (fun x => x = t) (⟨_, _⟩ : GW) ⟨_, _⟩ := Mod.st (i := 20) (v := .int .i64 n) Mod.self H2.out.blk.own
        exact ⟨m3, H2.out.st 20 (.int .i64 n) { S with base := n } rfl rfl rfl rfl rfl, R2.out.keep m3 (fun e => HT.out.1 e.symm)⟩
      have FIN := Lib.hid fin
      clear fin
      rcases hix : wIndex (v1, v2) with _ | n
      · rw [hix] at hf HIX
        simp only [Prod.mk.injEq, TrW.mk.injEq, and_true] at hf
        obtain ⟨⟨rfl, -⟩, rfl⟩ := hf
        simp only [Option.getD_none, Option.isSome_none] at HIX
        clear hix
        as_aux_lemma =>
          go_enter Try.func88, Try.ntmps88
          go_wp2_with fail
          refine wp_scope_fwd 1 rfl ?_
          go_wp2_with fail
          go_step3
          refine ⟨rfl, ?_⟩
          go_wp2_with fail
          refine HRD.out.mono ?_
          rintro e w1 ⟨rfl, own1, m1, r1⟩
          have M1 := Lib.hid m1
          have R1 := Lib.hid r1
          have H1 := Lib.hid (H.out.keep M1.out HT.out.1 HT.out.2)
          clear m1 r1 c9 c11 c19 hl
          have c19 := H1.out.blk.cell (i := 19) rfl
          have hl := H1.out.blk.lt
          simp only at c19 hl
          rw [HMO.out] at c19
          go_wp2_with fail
          refine (HIX.out _).mono ?_
          rintro e w2 ⟨rfl, hE⟩
          obtain ⟨own2, m2⟩ := Mod.ofExtT (show Ext w1 w2 from hE) own1
          have M2 := Lib.hid ((M1.out.mono (S := fun x => x = t ∨ x = tm) (fun x hx => Or.inr hx)).trans (m2.mono (fun _ => False.elim)))
          have H2 := Lib.hid (H1.out.keep m2 id id)
          have R2 := Lib.hid (R1.out.keep m2 id)
          clear hE m2 M1 R1 H1 c19 hl
          have c20 := H2.out.blk.cell (i := 20) rfl
          have f20 := H2.out.blk.live 20
          have c18 := H2.out.blk.cell (i := 18) rfl
          have k0 := H2.out.blk.cell (i := 0) rfl
          have k1 := H2.out.blk.cell (i := 1) rfl
          have k2 := H2.out.blk.cell (i := 2) rfl
          have k3 := H2.out.blk.cell (i := 3) rfl
          have k4 := H2.out.blk.cell (i := 4) rfl
          have k5 := H2.out.blk.cell (i := 5) rfl
          have k6 := H2.out.blk.cell (i := 6) rfl
          have k7 := H2.out.blk.cell (i := 7) rfl
          have k8 := H2.out.blk.cell (i := 8) rfl
          have hl := H2.out.blk.lt
          simp only at c20 f20 c18 k0 k1 k2 k3 k4 k5 k6 k7 k8 hl
          go_wp2_with fail
          refine wp_region_mixed [true, true, true, true, true, true, true, true, true, true, true, true, true, true, true, true, true, true, true, true] 0 20 (by kernel_rfl) (by kernel_rfl) (by kernel_rfl) ?_ (by decide) (by decide) (by decide) (by kernel_rfl) ?_
          · intro c a d v w h; cases d <;> exact h
          intro X00
          simp only [pickOps]
          repeat (go_big_quiet_step (fail))
          refine wpQuiet_nil (fun X0 => ?_)
          clear X00
          refine wpAnyM_done (by kernel_rfl) (fun X0' => ?_) _
          go_wp2_with fail
          rw [Exit.noGoto_ret]
          go_ret
          obtain ⟨q1, q2, q3⟩ := FIN.out _ _ 0 H2 R2
          exact Does.ext ⟨own2, w2.setCell ⟨b, 20, none⟩ (.int .i64 0)⟩ (by (repeat (first | (with_reducible assumption) | (with_reducible exact Ext.refl _) | (with_reducible exact Ext.more _ _ _ _) | apply Ext.alloc | refine Ext.setCell ?_ (by first | exact Nat.le_refl _ | exact Nat.le_add_right _ _ | assumption) _ | apply Ext.patch | apply Ext.drew | apply Ext.drewN))) rfl (M2.out.trans (q1.mono (fun x hx => Or.inl hx))) (fun g2 m => ⟨⟨P, q2.keep m id id⟩, q3.keep m id⟩)
      · have hib := (wIndex_some hix).1
        rw [hix] at hf HIX
        simp only at hf
        simp only [Option.getD_some, Option.isSome_some] at HIX
        clear hix
        generalize sData S.n = y at *
        have e1 := IntWalk.i64_in (n + y) (by omega)
        have HIB := Lib.hid hib
        by_cases h2 : S.c.frags < n + y
        · have d2 : decide (S.c.frags < n + y) = true := decide_eq_true h2
          rw [if_pos h2] at hf
          simp only [Prod.mk.injEq, TrW.mk.injEq, and_true] at hf
          obtain ⟨⟨rfl, -⟩, rfl⟩ := hf
          as_aux_lemma =>
            go_enter Try.func88, Try.ntmps88
            go_wp2_with fail
            refine wp_scope_fwd 1 rfl ?_
            go_wp2_with fail
            go_step3
            refine ⟨rfl, ?_⟩
            go_wp2_with fail
            refine HRD.out.mono ?_
            rintro e w1 ⟨rfl, own1, m1, r1⟩
            have M1 := Lib.hid m1
            have R1 := Lib.hid r1
            have H1 := Lib.hid (H.out.keep M1.out HT.out.1 HT.out.2)
            clear m1 r1 c9 c11 c19 hl
            have c19 := H1.out.blk.cell (i := 19) rfl
            have hl := H1.out.blk.lt
            simp only at c19 hl
            rw [HMO.out] at c19
            go_wp2_with fail
            refine (HIX.out _).mono ?_
            rintro e w2 ⟨rfl, hE⟩
            obtain ⟨own2, m2⟩ := Mod.ofExtT (show Ext w1 w2 from hE) own1
            have M2 := Lib.hid ((M1.out.mono (S := fun x => x = t ∨ x = tm) (fun x hx => Or.inr hx)).trans (m2.mono (fun _ => False.elim)))
            have H2 := Lib.hid (H1.out.keep m2 id id)
            have R2 := Lib.hid (R1.out.keep m2 id)
            clear hE m2 M1 R1 H1 c19 hl
            have c20 := H2.out.blk.cell (i := 20) rfl
            have f20 := H2.out.blk.live 20
            have c18 := H2.out.blk.cell (i := 18) rfl
            have k0 := H2.out.blk.cell (i := 0) rfl
            have k1 := H2.out.blk.cell (i := 1) rfl
            have k2 := H2.out.blk.cell (i := 2) rfl
            have k3 := H2.out.blk.cell (i := 3) rfl
            have k4 := H2.out.blk.cell (i := 4) rfl
            have k5 := H2.out.blk.cell (i := 5) rfl
            have k6 := H2.out.blk.cell (i := 6) rfl
            have k7 := H2.out.blk.cell (i := 7) rfl
            have k8 := H2.out.blk.cell (i := 8) rfl
            have hl := H2.out.blk.lt
            simp only at c20 f20 c18 k0 k1 k2 k3 k4 k5 k6 k7 k8 hl
            go_wp2_with fail
            refine wp_region_mixed [true, true, true, true, true, true, true, true, true, true, true, true, true, true, true, true, true, true, true, true] 0 20 (by kernel_rfl) (by kernel_rfl) (by kernel_rfl) ?_ (by decide) (by decide) (by decide) (by kernel_rfl) ?_
            · intro c a d v w h; cases d <;> exact h
            intro X00
            simp only [pickOps]
            repeat (go_big_quiet_step (exact Calls.added (HD.out _)))
            refine wpQuiet_nil (fun X0 => ?_)
            clear X00
            refine wpAnyM_done (by kernel_rfl) (fun X0' => ?_) _
            go_wp2_with fail
            rw [Exit.noGoto_ret]
            go_ret
            obtain ⟨q1, q2, q3⟩ := FIN.out _ _ n H2 R2
            exact Does.ext ⟨own2, w2.setCell ⟨b, 20, none⟩ (.int .i64 n)⟩ (by (repeat (first | (with_reducible assumption) | (with_reducible exact Ext.refl _) | (with_reducible exact Ext.more _ _ _ _) | apply Ext.alloc | refine Ext.setCell ?_ (by first | exact Nat.le_refl _ | exact Nat.le_add_right _ _ | assumption) _ | apply Ext.patch | apply Ext.drew | apply Ext.drewN))) rfl (M2.out.trans (q1.mono (fun x hx => Or.inl hx))) (fun g2 m => ⟨⟨P, q2.keep m id id⟩, q3.keep m id⟩)
        have d2 : decide (S.c.frags < n + y) = false := decide_eq_false h2
        rw [if_neg h2] at hf
        simp only [Prod.mk.injEq, TrW.mk.injEq, and_true] at hf
        obtain ⟨⟨rfl, -⟩, rfl⟩ := hf
        as_aux_lemma =>
          go_enter Try.func88, Try.ntmps88
          go_wp2_with fail
          refine wp_scope_fwd 1 rfl ?_
          go_wp2_with fail
          go_step3
          refine ⟨rfl, ?_⟩
          go_wp2_with fail
          refine HRD.out.mono ?_
          rintro e w1 ⟨rfl, own1, m1, r1⟩
          have M1 := Lib.hid m1
          have R1 := Lib.hid r1
          have H1 := Lib.hid (H.out.keep M1.out HT.out.1 HT.out.2)
          clear m1 r1 c9 c11 c19 hl
          have c19 := H1.out.blk.cell (i := 19) rfl
          have hl := H1.out.blk.lt
          simp only at c19 hl
          rw [HMO.out] at c19
          go_wp2_with fail
          refine (HIX.out _).mono ?_
          rintro e w2 ⟨rfl, hE⟩
          obtain ⟨own2, m2⟩ := Mod.ofExtT (show Ext w1 w2 from hE) own1
          have M2 := Lib.hid ((M1.out.mono (S := fun x => x = t ∨ x = tm) (fun x hx => Or.inr hx)).trans (m2.mono (fun _ => False.elim)))
          have H2 := Lib.hid (H1.out.keep m2 id id)
          have R2 := Lib.hid (R1.out.keep m2 id)
          clear hE m2 M1 R1 H1 c19 hl
          have c20 := H2.out.blk.cell (i := 20) rfl
          have f20 := H2.out.blk.live 20
          have c18 := H2.out.blk.cell (i := 18) rfl
          have k0 := H2.out.blk.cell (i := 0) rfl
          have k1 := H2.out.blk.cell (i := 1) rfl
          have k2 := H2.out.blk.cell (i := 2) rfl
          have k3 := H2.out.blk.cell (i := 3) rfl
          have k4 := H2.out.blk.cell (i := 4) rfl
          have k5 := H2.out.blk.cell (i := 5) rfl
          have k6 := H2.out.blk.cell (i := 6) rfl
          have k7 := H2.out.blk.cell (i := 7) rfl
          have k8 := H2.out.blk.cell (i := 8) rfl
          have hl := H2.out.blk.lt
          simp only at c20 f20 c18 k0 k1 k2 k3 k4 k5 k6 k7 k8 hl
          go_wp2_with fail
          refine wp_region_mixed [true, true, true, true, true, true, true, true, true, true, true, true, true, true, true, true, true, true, true, true] 0 20 (by kernel_rfl) (by kernel_rfl) (by kernel_rfl) ?_ (by decide) (by decide) (by decide) (by kernel_rfl) ?_
          · intro c a d v w h; cases d <;> exact h
          intro X00
          simp only [pickOps]
          repeat (go_big_quiet_step (exact Calls.added (HD.out _)))
          refine wpQuiet_nil (fun X0 => ?_)
          clear X00
          refine wpAnyM_done (by kernel_rfl) (fun X0' => ?_) _
          obtain ⟨w3, hw3⟩ : ∃ w3, w3 = ((w2.setCell ⟨b, 20, none⟩ (.int .i64 n)).patch X0).patch X0' := ⟨_, rfl⟩
          obtain ⟨own3, m3⟩ := Mod.ofExtT (show Ext (w2.setCell ⟨b, 20, none⟩ (.int .i64 n)) w3 from hw3 ▸ (by (repeat (first | (with_reducible assumption) | (with_reducible exact Ext.refl _) | (with_reducible exact Ext.more _ _ _ _) | apply Ext.alloc | refine Ext.setCell ?_ (by first | exact Nat.le_refl _ | exact Nat.le_add_right _ _ | assumption) _ | apply Ext.patch | apply Ext.drew | apply Ext.drewN)))) own2
          obtain ⟨q1, q2, q3⟩ := FIN.out _ _ n H2 R2
          have M3 := Lib.hid (M2.out.trans ((q1.mono (S := fun x => x = t ∨ x = tm) (fun x hx => Or.inl hx)).trans (m3.mono (fun _ => False.elim))))
          have H3 := Lib.hid (q2.keep m3 id id)
          have R3 := Lib.hid (q3.keep m3 id)
          rw [← hw3]
          clear m3 q1 q2 q3 c18 c20 f20 hl H2 R2 M2 hw3 k0 k1 k2 k3 k4 k5 k6 k7 k8
          go_wp2_with fail
          go_step3
          go_wp2_with fail
          refine (trace_enters _ t b _ _ H3.out (by have := HIB.out; show 0 ≤ n ∧ n ≤ _; omega) (by have := HB.out.j'; show 0 ≤ S.j ∧ S.j ≤ _; omega)).mono ?_
          rintro e w5 ⟨rfl, own5, m5, r5⟩
          have M5 := Lib.hid m5
          have H5 := Lib.hid r5
          clear m5 r5
          have hen : TraceS.enters { S with base := n } = { S with base := n, frag := n + S.j } := if_pos (by show S.mode = 2; exact HMO.out)
          have hpc : TraceS.entersPc { S with base := n } = 4 := if_pos (by show S.mode = 2; exact HMO.out)
          rw [hen] at H5
          rw [hpc]
          clear hen hpc
          have c11 := H5.out.blk.cell (i := 11) rfl
          have f11 := H5.out.blk.live 11
          have hl := H5.out.blk.lt
          simp only at c11 f11 hl
          go_wp2_with fail
          rw [Exit.noGoto_ret]
          go_ret
          have m6 : Mod (fun x => x = t) (⟨own3, w3⟩ : GW) ⟨own5, w5.setCell ⟨b, 11, none⟩ (.int .i64 4)⟩ := M5.out.trans (Mod.st Mod.self H5.out.blk.own)
          exact ⟨rfl, own5, M3.out.trans (m6.mono (fun x hx => Or.inl hx)), ⟨P, H5.out.st 11 (.int .i64 4) { S with base := n, frag := n + S.j, pc := 4 } rfl rfl rfl rfl rfl⟩, R3.out.keep m6 (fun e => HT.out.1 e.symm)⟩
end Go.Proofs.Ythdijbkcjmeilaa
/-
  trace: array: a slot; does, Step.
-/
namespace Go.Proofs.Ythdijbkcjmeilaa
open Go Go.RowKit
set_option linter.unusedVariables false
set_option linter.unnecessarySimpa false
set_option linter.unusedSimpArgs false
set_option maxHeartbeats 4000000
set_option maxRecDepth 100000
theorem array_slot (g : GW) (t b tm bm : Nat) (S : TraceS) (P : TrPl) (m : MemS) (h : TraceIs g t b S P) (hm : MemAt g tm bm m) (hc : 0 ≤ m.count ∧ m.count ≤ 1099511627776) (ht : t ≠ tm) (ht1 : t + 1 ≠ tm) (hpc : S.pc = 8) (hB : S.Bd) (ok : Bool) (S' : TraceS) (m' : MemS) (T : TabS) (p : PileS) (k : Int) (hf : TrW.slot ⟨S, m, T, p, k⟩ = (⟨S', m', T, p, k⟩, ok)) :
    Calls Try.prog 88 #[.pointer (some ⟨b, 0, none⟩), .pointer (some ⟨bm, 0, none⟩)] g.w (Does (.bool ok) g (fun x => x = t ∨ x = tm) (fun g' => TraceAt g' t b S' ∧ MemAt g' tm bm m')) := by
  have c9 := h.blk.cell (i := 9) rfl
  have c11 := h.blk.cell (i := 11) rfl
  have c15 := h.blk.cell (i := 15) rfl
  have c19 := h.blk.cell (i := 19) rfl
  have c20 := h.blk.cell (i := 20) rfl
  have hl := h.blk.lt
  rw [hpc] at c11
  have HT := Lib.hid (And.intro ht ht1)
  have H := Lib.hid h
  have e1 := IntWalk.i64_in (4 + S.j) (by have := hB.j; omega)
  have e2 := IntWalk.i64_in (S.base + 2) (by have := hB.base; omega)
  have e3 := IntWalk.i64_in (S.base + 2 + S.j) (by have := hB.j; have := hB.base; omega)
  unfold TrW.slot at hf
  by_cases hmo : S.mode = 0
  · have HRD := Lib.hid (fun X => trace_read (g.pt X) t b tm bm S m S.head (4 + S.j) ⟨P, h.keep (T := fun _ => False) (Mod.pt (Mod.refl _ g) X) id id⟩ (hm.pt X) hc)
    unfold TrW.slotRd TrW.slotM at hf
    simp only at hf
    rw [if_pos hmo, if_pos hmo] at hf
    generalize hr : S.rd m S.head (4 + S.j) = r at *
    generalize S.rdM m S.head (4 + S.j) = m2 at *
    have hz : (S.mode == 0) = true := beq_iff_eq.2 hmo
    rw [hmo] at c19
    clear hr h hm hc hpc hB ht ht1 hmo hz
    rcases r with _ | v
    · simp only [Prod.mk.injEq, TrW.mk.injEq, and_true] at hf
      obtain ⟨⟨rfl, rfl⟩, rfl⟩ := hf
      unfold trdV at HRD
      simp only [Option.getD_none, Option.isSome_none] at HRD
      as_aux_lemma =>
        go_enter Try.func88, Try.ntmps88
        go_wp2_with fail
        refine wp_scope_fwd 2 rfl ?_
        go_wp2_with fail
        go_step3
        refine ⟨rfl, ?_⟩
        go_wp2_with fail
        refine wp_region_split [true, true, true, true, true, true, true, true, true, true, true] 11 ?sp_o [false, false, false, false, false, false, false, false, false, false, false, false, true, true, true, true, true] ?sp1 ?sp2 ?sp3 ?sp4 ?sp5 ?sp6 ?sp7 ?sp8 ?sp9 ?sp10 ?sp11 ?sp12 ?sp13 ?sp14 ?sp15
        case sp11 => exact rfl
        case sp1 => kernel_rfl
        case sp2 => kernel_rfl
        case sp3 => kernel_rfl
        case sp4 => (intro c a d v w h; cases d <;> exact h)
        case sp5 => decide
        case sp6 => decide
        case sp7 => decide
        case sp8 => decide
        case sp9 => kernel_rfl
        case sp10 => kernel_rfl
        case sp12 => exact rfl
        case sp13 => kernel_rfl
        case sp14 => kernel_rfl
        intro X00
        simp only [pickOps]
        repeat (go_big_quiet_step (fail))
        refine wpQuiet_nil ?_
        intro X0 K Q' hK
        clear X00
        (try go_simp)
        refine (HRD.out _).mono ?_
        rintro e w1 ⟨rfl, own1, m1, r1⟩
        have M1 := Lib.hid ((Mod.pt (Mod.refl (fun x => x = tm) _) _).trans m1)
        have R1 := Lib.hid r1
        clear m1 r1 c9 c11 c15 c19 c20 hl
        (try go_simp)
        refine hK _ _ (fun X00 => ?_)
        clear hK K Q'
        (try simp only [pickOps])
        repeat (go_big_quiet_step (fail))
        refine wpQuiet_nil (fun X2 => ?_)
        clear X00
        obtain ⟨own2, m2⟩ := Mod.ofExtT (show Ext w1 (w1.patch X2) from ⟨_, rfl⟩) own1
        have M2 := Lib.hid ((M1.out.mono (S := fun x => x = t ∨ x = tm) (fun x hx => Or.inr hx)).trans (m2.mono (fun _ => False.elim)))
        have H2 := Lib.hid ((H.out.keep M1.out HT.out.1 HT.out.2).keep m2 id id)
        have R2 := Lib.hid (R1.out.keep m2 id)
        clear m2 M1 R1
        go_wp2_with fail
        rw [Exit.noGoto_ret]
        go_ret
        exact ⟨rfl, own2, M2.out, ⟨P, H2.out⟩, R2.out⟩
    · unfold trdV at HRD
      simp only [Option.getD_some, Option.isSome_some] at HRD
      have HIX := Lib.hid (fun w => index_any_w v w)
      unfold optV at HIX
      obtain ⟨v1, v2⟩ := v
      simp only at HRD HIX hf
      rcases hix : wIndex (v1, v2) with _ | i
      · rw [hix] at hf HIX
        simp only [Option.getD_none, Option.isSome_none, Bool.false_and, Prod.mk.injEq, TrW.mk.injEq, and_true] at hf HIX
        obtain ⟨⟨rfl, rfl⟩, rfl⟩ := hf
        clear hix
        as_aux_lemma =>
          go_enter Try.func88, Try.ntmps88
          go_wp2_with fail
          refine wp_scope_fwd 2 rfl ?_
          go_wp2_with fail
          go_step3
          refine ⟨rfl, ?_⟩
          go_wp2_with fail
          refine wp_region_split [true, true, true, true, true, true, true, true, true, true, true] 11 ?sp_ox1 [false, false, false, false, false, false, false, false, false, false, false, false, true, true, true, true, true] ?sp1x1 ?sp2x1 ?sp3x1 ?sp4x1 ?sp5x1 ?sp6x1 ?sp7x1 ?sp8x1 ?sp9x1 ?sp10x1 ?sp11x1 ?sp12x1 ?sp13x1 ?sp14x1 ?sp15x1
          case sp11x1 => exact rfl
          case sp1x1 => kernel_rfl
          case sp2x1 => kernel_rfl
          case sp3x1 => kernel_rfl
          case sp4x1 => (intro c a d v w h; cases d <;> exact h)
          case sp5x1 => decide
          case sp6x1 => decide
          case sp7x1 => decide
          case sp8x1 => decide
          case sp9x1 => kernel_rfl
          case sp10x1 => kernel_rfl
          case sp12x1 => exact rfl
          case sp13x1 => kernel_rfl
          case sp14x1 => kernel_rfl
          intro X00
          simp only [pickOps]
          repeat (go_big_quiet_step (fail))
          refine wpQuiet_nil ?_
          intro X0 K Q' hK
          clear X00
          (try go_simp)
          refine (HRD.out _).mono ?_
          rintro e w1 ⟨rfl, own1, m1, r1⟩
          have M1 := Lib.hid ((Mod.pt (Mod.refl (fun x => x = tm) _) _).trans m1)
          have R1 := Lib.hid r1
          clear m1 r1 c9 c11 c15 c19 c20 hl
          (try go_simp)
          refine hK _ _ (fun X00 => ?_)
          clear hK K Q'
          (try simp only [pickOps])
          repeat (go_big_quiet_step (fail))
          refine wpQuiet_nil (fun X2 => ?_)
          clear X00
          obtain ⟨own2, m2⟩ := Mod.ofExtT (show Ext w1 (w1.patch X2) from ⟨_, rfl⟩) own1
          have M2 := Lib.hid ((M1.out.mono (S := fun x => x = t ∨ x = tm) (fun x hx => Or.inr hx)).trans (m2.mono (fun _ => False.elim)))
          have H2 := Lib.hid ((H.out.keep M1.out HT.out.1 HT.out.2).keep m2 id id)
          have R2 := Lib.hid (R1.out.keep m2 id)
          clear m2 M1 R1
          go_wp2_with fail
          refine (HIX.out _).mono ?_
          rintro e w4 ⟨rfl, hE⟩
          obtain ⟨own4, m4⟩ := Mod.ofExtT (show Ext (w1.patch X2) w4 from hE) own2
          have M4 := Lib.hid (M2.out.trans (m4.mono (fun _ => False.elim)))
          have H4 := Lib.hid (H2.out.keep m4 id id)
          have R4 := Lib.hid (R2.out.keep m4 id)
          clear hE m4 M2 R2 H2
          have c14 := H4.out.blk.cell (i := 14) rfl
          have f14 := H4.out.blk.live 14
          have c11 := H4.out.blk.cell (i := 11) rfl
          have f11 := H4.out.blk.live 11
          have k0 := H4.out.blk.cell (i := 0) rfl
          have hl := H4.out.blk.lt
          simp only at c14 f14 c11 f11 k0 hl
          have H5 := Lib.hid ((H4.out.st 14 (.int .i64 0) { S with frag := 0 } rfl rfl rfl rfl rfl).st 11 (.int .i64 4) { S with frag := 0, pc := 4 } rfl rfl rfl rfl rfl)
          have m5 : Mod (fun x => x = t) (⟨own4, w4⟩ : GW) ⟨own4, (w4.setCell ⟨b, 14, none⟩ (.int .i64 0)).setCell ⟨b, 11, none⟩ (.int .i64 4)⟩ := Mod.st (Mod.st Mod.self H4.out.blk.own) H4.out.blk.own
          go_wp2_with fail
          refine wp_region_mixed [true, true, true, true, true, true, true, true, true, true, true, true, true, true] 0 14 (by kernel_rfl) (by kernel_rfl) (by kernel_rfl) ?_ (by decide) (by decide) (by decide) (by kernel_rfl) ?_
          · intro c a d v w h; cases d <;> exact h
          intro X00
          simp only [pickOps]
          repeat (go_big_quiet_step (fail))
          refine wpQuiet_nil (fun X0 => ?_)
          clear X00
          refine wpAnyM_done (by kernel_rfl) (fun X0' => ?_) _
          go_wp2_with fail
          rw [Exit.noGoto_ret]
          go_ret
          exact Does.ext ⟨own4, (w4.setCell ⟨b, 14, none⟩ (.int .i64 0)).setCell ⟨b, 11, none⟩ (.int .i64 4)⟩ (by (repeat (first | (with_reducible assumption) | (with_reducible exact Ext.refl _) | (with_reducible exact Ext.more _ _ _ _) | apply Ext.alloc | refine Ext.setCell ?_ (by first | exact Nat.le_refl _ | exact Nat.le_add_right _ _ | assumption) _ | apply Ext.patch | apply Ext.drew | apply Ext.drewN))) rfl (M4.out.trans (m5.mono (fun x hx => Or.inl hx))) (fun g2 m => ⟨⟨P, H5.out.keep m id id⟩, (R4.out.keep m5 (fun e => HT.out.1 e.symm)).keep m id⟩)
      · rw [hix] at hf HIX
        simp only [Option.getD_some, Option.isSome_some, Bool.true_and, Prod.mk.injEq, TrW.mk.injEq, and_true] at hf HIX
        obtain ⟨⟨rfl, rfl⟩, hok⟩ := hf
        clear hix
        as_aux_lemma =>
          subst hok
          go_enter Try.func88, Try.ntmps88
          go_wp2_with fail
          refine wp_scope_fwd 2 rfl ?_
          go_wp2_with fail
          go_step3
          refine ⟨rfl, ?_⟩
          go_wp2_with fail
          refine wp_region_split [true, true, true, true, true, true, true, true, true, true, true] 11 ?sp_ox2 [false, false, false, false, false, false, false, false, false, false, false, false, true, true, true, true, true] ?sp1x2 ?sp2x2 ?sp3x2 ?sp4x2 ?sp5x2 ?sp6x2 ?sp7x2 ?sp8x2 ?sp9x2 ?sp10x2 ?sp11x2 ?sp12x2 ?sp13x2 ?sp14x2 ?sp15x2
          case sp11x2 => exact rfl
          case sp1x2 => kernel_rfl
          case sp2x2 => kernel_rfl
          case sp3x2 => kernel_rfl
          case sp4x2 => (intro c a d v w h; cases d <;> exact h)
          case sp5x2 => decide
          case sp6x2 => decide
          case sp7x2 => decide
          case sp8x2 => decide
          case sp9x2 => kernel_rfl
          case sp10x2 => kernel_rfl
          case sp12x2 => exact rfl
          case sp13x2 => kernel_rfl
          case sp14x2 => kernel_rfl
          intro X00
          simp only [pickOps]
          repeat (go_big_quiet_step (fail))
          refine wpQuiet_nil ?_
          intro X0 K Q' hK
          clear X00
          (try go_simp)
          refine (HRD.out _).mono ?_
          rintro e w1 ⟨rfl, own1, m1, r1⟩
          have M1 := Lib.hid ((Mod.pt (Mod.refl (fun x => x = tm) _) _).trans m1)
          have R1 := Lib.hid r1
          clear m1 r1 c9 c11 c15 c19 c20 hl
          (try go_simp)
          refine hK _ _ (fun X00 => ?_)
          clear hK K Q'
          (try simp only [pickOps])
          repeat (go_big_quiet_step (fail))
          refine wpQuiet_nil (fun X2 => ?_)
          clear X00
          obtain ⟨own2, m2⟩ := Mod.ofExtT (show Ext w1 (w1.patch X2) from ⟨_, rfl⟩) own1
          have M2 := Lib.hid ((M1.out.mono (S := fun x => x = t ∨ x = tm) (fun x hx => Or.inr hx)).trans (m2.mono (fun _ => False.elim)))
          have H2 := Lib.hid ((H.out.keep M1.out HT.out.1 HT.out.2).keep m2 id id)
          have R2 := Lib.hid (R1.out.keep m2 id)
          clear m2 M1 R1
          go_wp2_with fail
          refine (HIX.out _).mono ?_
          rintro e w4 ⟨rfl, hE⟩
          obtain ⟨own4, m4⟩ := Mod.ofExtT (show Ext (w1.patch X2) w4 from hE) own2
          have M4 := Lib.hid (M2.out.trans (m4.mono (fun _ => False.elim)))
          have H4 := Lib.hid (H2.out.keep m4 id id)
          have R4 := Lib.hid (R2.out.keep m4 id)
          clear hE m4 M2 R2 H2
          have c14 := H4.out.blk.cell (i := 14) rfl
          have f14 := H4.out.blk.live 14
          have c11 := H4.out.blk.cell (i := 11) rfl
          have f11 := H4.out.blk.live 11
          have k0 := H4.out.blk.cell (i := 0) rfl
          have hl := H4.out.blk.lt
          simp only at c14 f14 c11 f11 k0 hl
          have H5 := Lib.hid ((H4.out.st 14 (.int .i64 i) { S with frag := i } rfl rfl rfl rfl rfl).st 11 (.int .i64 4) { S with frag := i, pc := 4 } rfl rfl rfl rfl rfl)
          have m5 : Mod (fun x => x = t) (⟨own4, w4⟩ : GW) ⟨own4, (w4.setCell ⟨b, 14, none⟩ (.int .i64 i)).setCell ⟨b, 11, none⟩ (.int .i64 4)⟩ := Mod.st (Mod.st Mod.self H4.out.blk.own) H4.out.blk.own
          go_wp2_with fail
          refine wp_region_mixed [true, true, true, true, true, true, true, true, true, true, true, true, true, true] 0 14 (by kernel_rfl) (by kernel_rfl) (by kernel_rfl) ?_ (by decide) (by decide) (by decide) (by kernel_rfl) ?_
          · intro c a d v w h; cases d <;> exact h
          intro X00
          simp only [pickOps]
          repeat (go_big_quiet_step (fail))
          refine wpQuiet_nil (fun X0 => ?_)
          clear X00
          refine wpAnyM_done (by kernel_rfl) (fun X0' => ?_) _
          go_wp2_with fail
          rw [Exit.noGoto_ret]
          go_ret
          exact Does.ext ⟨own4, (w4.setCell ⟨b, 14, none⟩ (.int .i64 i)).setCell ⟨b, 11, none⟩ (.int .i64 4)⟩ (by (repeat (first | (with_reducible assumption) | (with_reducible exact Ext.refl _) | (with_reducible exact Ext.more _ _ _ _) | apply Ext.alloc | refine Ext.setCell ?_ (by first | exact Nat.le_refl _ | exact Nat.le_add_right _ _ | assumption) _ | apply Ext.patch | apply Ext.drew | apply Ext.drewN))) rfl (M4.out.trans (m5.mono (fun x hx => Or.inl hx))) (fun g2 m => ⟨⟨P, H5.out.keep m id id⟩, (R4.out.keep m5 (fun e => HT.out.1 e.symm)).keep m id⟩)
  · have HRD := Lib.hid (fun X => mem_read (g.pt X) tm bm (S.base + 2 + S.j) m (hm.pt X) hc)
    unfold TrW.slotRd TrW.slotM at hf
    simp only at hf
    rw [if_neg hmo, if_neg hmo] at hf
    have hz : (S.mode == 0) = false := beq_eq_false_iff_ne.2 hmo
    cases hin : inB (S.base + 2 + S.j) m.l.length
    · rw [hin] at hf HRD
      simp only [Bool.false_eq_true, if_false, Prod.mk.injEq, TrW.mk.injEq, and_true] at hf HRD
      obtain ⟨⟨rfl, rfl⟩, rfl⟩ := hf
      generalize m.peek (S.base + 2 + S.j) = v at *
      obtain ⟨v1, v2⟩ := v
      simp only at HRD
      clear h hm hc hpc hB ht ht1 hmo hin
      as_aux_lemma =>
        go_enter Try.func88, Try.ntmps88
        go_wp2_with fail
        refine wp_scope_fwd 2 rfl ?_
        go_wp2_with fail
        go_step3
        refine ⟨rfl, ?_⟩
        go_wp2_with fail
        refine wp_region_split [true, true, true, true, true, true, true, true, true, true, true] 11 ?sp_ox3 [false, false, false, false, false, false, false, false, false, false, false, false, true, true, true, true, true] ?sp1x3 ?sp2x3 ?sp3x3 ?sp4x3 ?sp5x3 ?sp6x3 ?sp7x3 ?sp8x3 ?sp9x3 ?sp10x3 ?sp11x3 ?sp12x3 ?sp13x3 ?sp14x3 ?sp15x3
        case sp11x3 => exact rfl
        case sp1x3 => kernel_rfl
        case sp2x3 => kernel_rfl
        case sp3x3 => kernel_rfl
        case sp4x3 => (intro c a d v w h; cases d <;> exact h)
        case sp5x3 => decide
        case sp6x3 => decide
        case sp7x3 => decide
        case sp8x3 => decide
        case sp9x3 => kernel_rfl
        case sp10x3 => kernel_rfl
        case sp12x3 => exact rfl
        case sp13x3 => kernel_rfl
        case sp14x3 => kernel_rfl
        intro X00
        simp only [pickOps]
        repeat (go_big_quiet_step (fail))
        refine wpQuiet_nil ?_
        intro X0 K Q' hK
        clear X00
        (try go_simp)
        refine (HRD.out _).mono ?_
        rintro e w1 ⟨rfl, own1, m1, r1⟩
        have M1 := Lib.hid ((Mod.pt (Mod.refl (fun x => x = tm) _) _).trans m1)
        have R1 := Lib.hid r1
        clear m1 r1 c9 c11 c15 c19 c20 hl
        (try go_simp)
        refine hK _ _ (fun X00 => ?_)
        clear hK K Q'
        (try simp only [pickOps])
        repeat (go_big_quiet_step (fail))
        refine wpQuiet_nil (fun X2 => ?_)
        clear X00
        obtain ⟨own2, m2⟩ := Mod.ofExtT (show Ext w1 (w1.patch X2) from ⟨_, rfl⟩) own1
        have M2 := Lib.hid ((M1.out.mono (S := fun x => x = t ∨ x = tm) (fun x hx => Or.inr hx)).trans (m2.mono (fun _ => False.elim)))
        have H2 := Lib.hid ((H.out.keep M1.out HT.out.1 HT.out.2).keep m2 id id)
        have R2 := Lib.hid (R1.out.keep m2 id)
        clear m2 M1 R1
        go_wp2_with fail
        rw [Exit.noGoto_ret]
        go_ret
        exact ⟨rfl, own2, M2.out, ⟨P, H2.out⟩, R2.out⟩
    · rw [hin] at hf HRD
      simp only [if_true] at hf HRD
      generalize m.peek (S.base + 2 + S.j) = v at *
      have HIX := Lib.hid (fun w => index_any_w v w)
      unfold optV at HIX
      obtain ⟨v1, v2⟩ := v
      simp only at HRD HIX hf
      clear h hm hc hpc hB ht ht1 hmo hin
      rcases hix : wIndex (v1, v2) with _ | i
      · rw [hix] at hf HIX
        simp only [Option.getD_none, Option.isSome_none, Bool.false_and, Prod.mk.injEq, TrW.mk.injEq, and_true] at hf HIX
        obtain ⟨⟨rfl, rfl⟩, rfl⟩ := hf
        clear hix
        as_aux_lemma =>
          go_enter Try.func88, Try.ntmps88
          go_wp2_with fail
          refine wp_scope_fwd 2 rfl ?_
          go_wp2_with fail
          go_step3
          refine ⟨rfl, ?_⟩
          go_wp2_with fail
          refine wp_region_split [true, true, true, true, true, true, true, true, true, true, true] 11 ?sp_ox4 [false, false, false, false, false, false, false, false, false, false, false, false, true, true, true, true, true] ?sp1x4 ?sp2x4 ?sp3x4 ?sp4x4 ?sp5x4 ?sp6x4 ?sp7x4 ?sp8x4 ?sp9x4 ?sp10x4 ?sp11x4 ?sp12x4 ?sp13x4 ?sp14x4 ?sp15x4
          case sp11x4 => exact rfl
          case sp1x4 => kernel_rfl
          case sp2x4 => kernel_rfl
          case sp3x4 => kernel_rfl
          case sp4x4 => (intro c a d v w h; cases d <;> exact h)
          case sp5x4 => decide
          case sp6x4 => decide
          case sp7x4 => decide
          case sp8x4 => decide
          case sp9x4 => kernel_rfl
          case sp10x4 => kernel_rfl
          case sp12x4 => exact rfl
          case sp13x4 => kernel_rfl
          case sp14x4 => kernel_rfl
          intro X00
          simp only [pickOps]
          repeat (go_big_quiet_step (fail))
          refine wpQuiet_nil ?_
          intro X0 K Q' hK
          clear X00
          (try go_simp)
          refine (HRD.out _).mono ?_
          rintro e w1 ⟨rfl, own1, m1, r1⟩
          have M1 := Lib.hid ((Mod.pt (Mod.refl (fun x => x = tm) _) _).trans m1)
          have R1 := Lib.hid r1
          clear m1 r1 c9 c11 c15 c19 c20 hl
          (try go_simp)
          refine hK _ _ (fun X00 => ?_)
          clear hK K Q'
          (try simp only [pickOps])
          repeat (go_big_quiet_step (fail))
          refine wpQuiet_nil (fun X2 => ?_)
          clear X00
          obtain ⟨own2, m2⟩ := Mod.ofExtT (show Ext w1 (w1.patch X2) from ⟨_, rfl⟩) own1
          have M2 := Lib.hid ((M1.out.mono (S := fun x => x = t ∨ x = tm) (fun x hx => Or.inr hx)).trans (m2.mono (fun _ => False.elim)))
          have H2 := Lib.hid ((H.out.keep M1.out HT.out.1 HT.out.2).keep m2 id id)
          have R2 := Lib.hid (R1.out.keep m2 id)
          clear m2 M1 R1
          go_wp2_with fail
          refine (HIX.out _).mono ?_
          rintro e w4 ⟨rfl, hE⟩
          obtain ⟨own4, m4⟩ := Mod.ofExtT (show Ext (w1.patch X2) w4 from hE) own2
          have M4 := Lib.hid (M2.out.trans (m4.mono (fun _ => False.elim)))
          have H4 := Lib.hid (H2.out.keep m4 id id)
          have R4 := Lib.hid (R2.out.keep m4 id)
          clear hE m4 M2 R2 H2
          have c14 := H4.out.blk.cell (i := 14) rfl
          have f14 := H4.out.blk.live 14
          have c11 := H4.out.blk.cell (i := 11) rfl
          have f11 := H4.out.blk.live 11
          have k0 := H4.out.blk.cell (i := 0) rfl
          have hl := H4.out.blk.lt
          simp only at c14 f14 c11 f11 k0 hl
          have H5 := Lib.hid ((H4.out.st 14 (.int .i64 0) { S with frag := 0 } rfl rfl rfl rfl rfl).st 11 (.int .i64 4) { S with frag := 0, pc := 4 } rfl rfl rfl rfl rfl)
          have m5 : Mod (fun x => x = t) (⟨own4, w4⟩ : GW) ⟨own4, (w4.setCell ⟨b, 14, none⟩ (.int .i64 0)).setCell ⟨b, 11, none⟩ (.int .i64 4)⟩ := Mod.st (Mod.st Mod.self H4.out.blk.own) H4.out.blk.own
          go_wp2_with fail
          refine wp_region_mixed [true, true, true, true, true, true, true, true, true, true, true, true, true, true] 0 14 (by kernel_rfl) (by kernel_rfl) (by kernel_rfl) ?_ (by decide) (by decide) (by decide) (by kernel_rfl) ?_
          · intro c a d v w h; cases d <;> exact h
          intro X00
          simp only [pickOps]
          repeat (go_big_quiet_step (fail))
          refine wpQuiet_nil (fun X0 => ?_)
          clear X00
          refine wpAnyM_done (by kernel_rfl) (fun X0' => ?_) _
          go_wp2_with fail
          rw [Exit.noGoto_ret]
          go_ret
          exact Does.ext ⟨own4, (w4.setCell ⟨b, 14, none⟩ (.int .i64 0)).setCell ⟨b, 11, none⟩ (.int .i64 4)⟩ (by (repeat (first | (with_reducible assumption) | (with_reducible exact Ext.refl _) | (with_reducible exact Ext.more _ _ _ _) | apply Ext.alloc | refine Ext.setCell ?_ (by first | exact Nat.le_refl _ | exact Nat.le_add_right _ _ | assumption) _ | apply Ext.patch | apply Ext.drew | apply Ext.drewN))) rfl (M4.out.trans (m5.mono (fun x hx => Or.inl hx))) (fun g2 m => ⟨⟨P, H5.out.keep m id id⟩, (R4.out.keep m5 (fun e => HT.out.1 e.symm)).keep m id⟩)
      · rw [hix] at hf HIX
        simp only [Option.getD_some, Option.isSome_some, Bool.true_and, Prod.mk.injEq, TrW.mk.injEq, and_true] at hf HIX
        obtain ⟨⟨rfl, rfl⟩, hok⟩ := hf
        clear hix
        as_aux_lemma =>
          subst hok
          go_enter Try.func88, Try.ntmps88
          go_wp2_with fail
          refine wp_scope_fwd 2 rfl ?_
          go_wp2_with fail
          go_step3
          refine ⟨rfl, ?_⟩
          go_wp2_with fail
          refine wp_region_split [true, true, true, true, true, true, true, true, true, true, true] 11 ?sp_ox5 [false, false, false, false, false, false, false, false, false, false, false, false, true, true, true, true, true] ?sp1x5 ?sp2x5 ?sp3x5 ?sp4x5 ?sp5x5 ?sp6x5 ?sp7x5 ?sp8x5 ?sp9x5 ?sp10x5 ?sp11x5 ?sp12x5 ?sp13x5 ?sp14x5 ?sp15x5
          case sp11x5 => exact rfl
          case sp1x5 => kernel_rfl
          case sp2x5 => kernel_rfl
          case sp3x5 => kernel_rfl
          case sp4x5 => (intro c a d v w h; cases d <;> exact h)
          case sp5x5 => decide
          case sp6x5 => decide
          case sp7x5 => decide
          case sp8x5 => decide
          case sp9x5 => kernel_rfl
          case sp10x5 => kernel_rfl
          case sp12x5 => exact rfl
          case sp13x5 => kernel_rfl
          case sp14x5 => kernel_rfl
          intro X00
          simp only [pickOps]
          repeat (go_big_quiet_step (fail))
          refine wpQuiet_nil ?_
          intro X0 K Q' hK
          clear X00
          (try go_simp)
          refine (HRD.out _).mono ?_
          rintro e w1 ⟨rfl, own1, m1, r1⟩
          have M1 := Lib.hid ((Mod.pt (Mod.refl (fun x => x = tm) _) _).trans m1)
          have R1 := Lib.hid r1
          clear m1 r1 c9 c11 c15 c19 c20 hl
          (try go_simp)
          refine hK _ _ (fun X00 => ?_)
          clear hK K Q'
          (try simp only [pickOps])
          repeat (go_big_quiet_step (fail))
          refine wpQuiet_nil (fun X2 => ?_)
          clear X00
          obtain ⟨own2, m2⟩ := Mod.ofExtT (show Ext w1 (w1.patch X2) from ⟨_, rfl⟩) own1
          have M2 := Lib.hid ((M1.out.mono (S := fun x => x = t ∨ x = tm) (fun x hx => Or.inr hx)).trans (m2.mono (fun _ => False.elim)))
          have H2 := Lib.hid ((H.out.keep M1.out HT.out.1 HT.out.2).keep m2 id id)
          have R2 := Lib.hid (R1.out.keep m2 id)
          clear m2 M1 R1
          go_wp2_with fail
          refine (HIX.out _).mono ?_
          rintro e w4 ⟨rfl, hE⟩
          obtain ⟨own4, m4⟩ := Mod.ofExtT (show Ext (w1.patch X2) w4 from hE) own2
          have M4 := Lib.hid (M2.out.trans (m4.mono (fun _ => False.elim)))
          have H4 := Lib.hid (H2.out.keep m4 id id)
          have R4 := Lib.hid (R2.out.keep m4 id)
          clear hE m4 M2 R2 H2
          have c14 := H4.out.blk.cell (i := 14) rfl
          have f14 := H4.out.blk.live 14
          have c11 := H4.out.blk.cell (i := 11) rfl
          have f11 := H4.out.blk.live 11
          have k0 := H4.out.blk.cell (i := 0) rfl
          have hl := H4.out.blk.lt
          simp only at c14 f14 c11 f11 k0 hl
          have H5 := Lib.hid ((H4.out.st 14 (.int .i64 i) { S with frag := i } rfl rfl rfl rfl rfl).st 11 (.int .i64 4) { S with frag := i, pc := 4 } rfl rfl rfl rfl rfl)
          have m5 : Mod (fun x => x = t) (⟨own4, w4⟩ : GW) ⟨own4, (w4.setCell ⟨b, 14, none⟩ (.int .i64 i)).setCell ⟨b, 11, none⟩ (.int .i64 4)⟩ := Mod.st (Mod.st Mod.self H4.out.blk.own) H4.out.blk.own
          go_wp2_with fail
          refine wp_region_mixed [true, true, true, true, true, true, true, true, true, true, true, true, true, true] 0 14 (by kernel_rfl) (by kernel_rfl) (by kernel_rfl) ?_ (by decide) (by decide) (by decide) (by kernel_rfl) ?_
          · intro c a d v w h; cases d <;> exact h
          intro X00
          simp only [pickOps]
          repeat (go_big_quiet_step (fail))
          refine wpQuiet_nil (fun X0 => ?_)
          clear X00
          refine wpAnyM_done (by kernel_rfl) (fun X0' => ?_) _
          go_wp2_with fail
          rw [Exit.noGoto_ret]
          go_ret
          exact Does.ext ⟨own4, (w4.setCell ⟨b, 14, none⟩ (.int .i64 i)).setCell ⟨b, 11, none⟩ (.int .i64 4)⟩ (by (repeat (first | (with_reducible assumption) | (with_reducible exact Ext.refl _) | (with_reducible exact Ext.more _ _ _ _) | apply Ext.alloc | refine Ext.setCell ?_ (by first | exact Nat.le_refl _ | exact Nat.le_add_right _ _ | assumption) _ | apply Ext.patch | apply Ext.drew | apply Ext.drewN))) rfl (M4.out.trans (m5.mono (fun x hx => Or.inl hx))) (fun g2 m => ⟨⟨P, H5.out.keep m id id⟩, (R4.out.keep m5 (fun e => HT.out.1 e.symm)).keep m id⟩)
end Go.Proofs.Ythdijbkcjmeilaa
/-
  trace: does, Step: any state.
-/
namespace Go.Proofs.Ythdijbkcjmeilaa
open Go Go.RowKit
set_option linter.unusedVariables false
set_option linter.unnecessarySimpa false
set_option linter.unusedSimpArgs false
set_option maxHeartbeats 4000000
set_option maxRecDepth 100000
theorem Does.impT {v : Value} {g : GW} {T T' : Nat → Prop} {R R' : GW → Prop} {e : Ending} {w' : World} (h : Does v g T R e w') (ht : ∀ x, T x → T' x) (hr : ∀ g', Mod T g g' → R g' → R' g') : Does v g T' R' e w' := by
  obtain ⟨rfl, own, m, r⟩ := h
  exact ⟨rfl, own, m.mono ht, hr _ m r⟩
theorem trace_first (g : GW) (t b : Nat) (S : TraceS) (P : TrPl) (v : Nat × Nat) (h : TraceIs g t b S P) (hck : S.c.check = 0) (hj : 0 ≤ S.j ∧ S.j ≤ 1000000) (hn : 0 ≤ S.n ∧ S.n ≤ 1000000) (hb : 0 ≤ S.base ∧ S.base ≤ 1099511627776) :
    Calls Try.prog 87 #[.pointer (some ⟨b, 0, none⟩), .complex .f64 v.1 v.2] g.w (Does (.bool (S.first v).2) g (fun x => x = t) (fun g' => TraceAt g' t b (S.first v).1)) := by
  unfold TraceS.first
  rcases hv : wTell v with _ | ⟨kd, md⟩
  · exact (first_none g t b S P v h hv).mono (fun e w' h => Does.impT h (fun _ hx => hx) (fun _ _ r => ⟨P, r⟩))
  · rcases hk : S.c.shapeAt kd with _ | ⟨arr, refs⟩
    · simp only [hk]
      exact (first_kind g t b S P v kd md h hv hk).mono (fun e w' h => Does.impT h (fun _ hx => hx) (fun _ _ r => ⟨P, r⟩))
    · simp only [hk]
      by_cases hm : 1 < md ∨ (arr = true ∧ 0 < md)
      · rw [if_pos hm]
        exact (first_mode g t b S P v kd md arr refs h hv hk hm).mono (fun e w' h => Does.impT h (fun _ hx => hx) (fun _ _ r => ⟨P, r⟩))
      · rw [if_neg hm]
        cases arr
        · rw [if_neg (by decide)]
          exact first_object g t b S P v kd md refs h hv hk (by omega) hck hj hn hb
        · rw [if_pos rfl]
          exact first_array g t b S P v kd md refs h hv hk (by
            have h0 : ¬ (true = true ∧ 0 < md) := fun e => hm (Or.inr e)
            simp at h0
            exact h0) hck
theorem does_head (g : GW) (t b tm bm bs : Nat) (S : TraceS) (m : MemS) (h : TraceAt g t b S) (hm : MemAt g tm bm m) (hc : 0 ≤ m.count ∧ m.count ≤ 1099511627776) (ht : t ≠ tm) (ht1 : t + 1 ≠ tm) (hpc : S.pc = 0) (hj : 0 ≤ S.j ∧ S.j ≤ 1000000) (hn : 0 ≤ S.n ∧ S.n ≤ 1000000) (hb : 0 ≤ S.base ∧ S.base ≤ 1099511627776) (T : TabS) (p : PileS) (k : Int) :
    Calls Try.prog 68 #[.pointer (some ⟨b, 0, none⟩), .pointer (some ⟨bm, 0, none⟩), .pointer (some ⟨bs, 0, none⟩)] g.w (Does (.bool (TrW.head ⟨S, m, T, p, k⟩).2) g (fun x => x = t ∨ x = tm) (fun g' => TraceAt g' t b (TrW.head ⟨S, m, T, p, k⟩).1.s ∧ MemAt g' tm bm (S.rdM m S.head 1))) := by
  obtain ⟨P, h⟩ := h
  have c9 := h.blk.cell (i := 9) rfl
  have c11 := h.blk.cell (i := 11) rfl
  have hl := h.blk.lt
  rw [hpc] at c11
  have HT := Lib.hid (And.intro ht ht1)
  have HB := Lib.hid (And.intro hj (And.intro hn hb))
  have H := Lib.hid h
  have HRD := Lib.hid (trace_read g t b tm bm S m S.head 1 ⟨P, h⟩ hm hc)
  have hck : (S.rd m S.head 1).isSome = true → S.c.check = 0 := fun e => by
    unfold TraceS.rd at e
    split at e
    · rename_i h1
      simp only [Bool.and_eq_true] at h1
      have := of_decide_eq_true h1.1
      exact this.1
    · cases e
  have HCK := Lib.hid hck
  clear hj hn hb ht ht1 hpc h hm hc hck
  unfold TrW.head
  simp only
  generalize hr : S.rd m S.head 1 = r at *
  generalize S.rdM m S.head 1 = m' at *
  clear hr
  rcases r with _ | v
  · unfold trdV at HRD
    simp only [Option.getD_none, Option.isSome_none] at HRD ⊢
    go_enter Try.func68, Try.ntmps68
    go_wp2_with fail
    refine HRD.out.mono ?_
    rintro e w1 ⟨rfl, own1, m1, r1⟩
    have M1 := Lib.hid m1
    have R1 := Lib.hid r1
    clear m1 r1
    go_wp2_with fail
    go_ret
    exact ⟨rfl, own1, M1.out.mono (fun x hx => Or.inr hx), ⟨P, H.out.keep M1.out HT.out.1 HT.out.2⟩, R1.out⟩
  · unfold trdV at HRD
    simp only [Option.getD_some, Option.isSome_some] at HRD HCK ⊢
    have HCK0 := Lib.hid (HCK.out trivial)
    have HF := Lib.hid (fun g' (h' : TraceIs g' t b S P) => trace_first g' t b S P v h' HCK0.out HB.out.1 HB.out.2.1 HB.out.2.2)
    generalize S.first v = q at *
    obtain ⟨v1, v2⟩ := v
    obtain ⟨S', ok⟩ := q
    simp only at HRD HF ⊢
    clear HCK
    go_enter Try.func68, Try.ntmps68
    go_wp2_with fail
    refine HRD.out.mono ?_
    rintro e w1 ⟨rfl, own1, m1, r1⟩
    have M1 := Lib.hid m1
    have R1 := Lib.hid r1
    have H1 := Lib.hid (H.out.keep M1.out HT.out.1 HT.out.2)
    clear m1 r1
    go_wp2_with fail
    refine (HF.out _ H1.out).mono ?_
    rintro e w2 ⟨rfl, own2, m2, r2⟩
    have M2 := Lib.hid m2
    have R2 := Lib.hid r2
    clear m2 r2
    cases ok
    all_goals
      go_wp2_with fail
      go_ret
      exact ⟨rfl, own2, (M1.out.mono (fun x hx => Or.inr hx)).trans (M2.out.mono (fun x hx => Or.inl hx)), R2.out, R1.out.keep M2.out (fun e => HT.out.1 e.symm)⟩
theorem does_walks (g : GW) (t b bm bs : Nat) (S : TraceS) (h : TraceAt g t b S) (hpc : S.pc ≠ 0) (hpc5 : S.pc < 5) (v : Bool) (T : Nat → Prop) (R : GW → Prop)
    (hC : Calls Try.prog 89 #[.pointer (some ⟨b, 0, none⟩), .pointer (some ⟨bm, 0, none⟩), .pointer (some ⟨bs, 0, none⟩)] g.w (Does (.bool v) g T R)) :
    Calls Try.prog 68 #[.pointer (some ⟨b, 0, none⟩), .pointer (some ⟨bm, 0, none⟩), .pointer (some ⟨bs, 0, none⟩)] g.w (Does (.bool v) g T R) := by
  obtain ⟨P, h⟩ := h
  have c11 := h.blk.cell (i := 11) rfl
  have hl := h.blk.lt
  have hz : (S.pc == 0) = false := beq_eq_false_iff_ne.2 hpc
  have d1 : decide (5 ≤ S.pc) = false := decide_eq_false (by omega)
  have HC := Lib.hid hC
  clear h hC hpc hpc5
  go_enter Try.func68, Try.ntmps68
  go_wp2_with fail
  refine HC.out.mono ?_
  rintro e w2 ⟨rfl, own2, m2, r2⟩
  have M2 := Lib.hid m2
  have R2 := Lib.hid r2
  clear m2 r2
  go_wp2_with fail
  go_ret
  exact ⟨rfl, own2, M2.out, R2.out⟩
theorem does_array (g : GW) (t b bm bs : Nat) (S : TraceS) (h : TraceAt g t b S) (hpc5 : 5 ≤ S.pc) (v : Bool) (T : Nat → Prop) (R : GW → Prop)
    (hC : Calls Try.prog 88 #[.pointer (some ⟨b, 0, none⟩), .pointer (some ⟨bm, 0, none⟩)] g.w (Does (.bool v) g T R)) :
    Calls Try.prog 68 #[.pointer (some ⟨b, 0, none⟩), .pointer (some ⟨bm, 0, none⟩), .pointer (some ⟨bs, 0, none⟩)] g.w (Does (.bool v) g T R) := by
  obtain ⟨P, h⟩ := h
  have c11 := h.blk.cell (i := 11) rfl
  have hl := h.blk.lt
  have hz : (S.pc == 0) = false := beq_eq_false_iff_ne.2 (by omega)
  have d1 : decide (5 ≤ S.pc) = true := decide_eq_true hpc5
  have HC := Lib.hid hC
  clear h hC hpc5
  go_enter Try.func68, Try.ntmps68
  go_wp2_with fail
  refine HC.out.mono ?_
  rintro e w2 ⟨rfl, own2, m2, r2⟩
  have M2 := Lib.hid m2
  have R2 := Lib.hid r2
  clear m2 r2
  go_wp2_with fail
  go_ret
  exact ⟨rfl, own2, M2.out, R2.out⟩
theorem step_end (g : GW) (t b bm bs : Nat) (S : TraceS) (h : TraceAt g t b S) (hpc : S.pc = 9) : Calls Try.prog 23 #[.pointer (some ⟨b, 0, none⟩), .pointer (some ⟨bm, 0, none⟩), .pointer (some ⟨bs, 0, none⟩)] g.w (fun e w' => e = .returned (.bool true) ∧ g.w = w') := by
  obtain ⟨P, h⟩ := h
  have c11 := h.blk.cell (i := 11) rfl
  have hl := h.blk.lt
  rw [hpc] at c11
  clear h hpc
  go_enter Try.func23, Try.ntmps23
  go_wp2_with fail
  go_ret
  exact ⟨rfl, rfl⟩
theorem TraceAt.ticked {g : GW} {t b : Nat} {S : TraceS} (h : TraceAt g t b S) : TraceAt ⟨g.own, g.w.setCell ⟨b, 22, none⟩ (.int .i64 (S.steps + 1))⟩ t b { S with steps := S.steps + 1 } := by
  obtain ⟨P, h⟩ := h
  exact ⟨P, h.st 22 (.int .i64 (S.steps + 1)) { S with steps := S.steps + 1 } rfl rfl rfl rfl rfl⟩
theorem step_go (g : GW) (t b bm bs : Nat) (S S' : TraceS) (ok : Bool) (T : Nat → Prop) (R : GW → Prop) (h : TraceAt g t b S) (hpc : S.pc ≠ 9) (hs : 0 ≤ S.steps ∧ S.steps ≤ 1099511627776) (hT : T t) (hR : ∀ g g' : GW, Mod (fun x => x = t) g g' → R g → R g')
    (hD : Calls Try.prog 68 #[.pointer (some ⟨b, 0, none⟩), .pointer (some ⟨bm, 0, none⟩), .pointer (some ⟨bs, 0, none⟩)] (g.w.setCell ⟨b, 22, none⟩ (.int .i64 (S.steps + 1))) (Does (.bool ok) ⟨g.own, g.w.setCell ⟨b, 22, none⟩ (.int .i64 (S.steps + 1))⟩ T (fun g'' => TraceAt g'' t b S' ∧ R g''))) :
    Calls Try.prog 23 #[.pointer (some ⟨b, 0, none⟩), .pointer (some ⟨bm, 0, none⟩), .pointer (some ⟨bs, 0, none⟩)] g.w (Does (.bool ((if ok then S' else { S' with pc := 9, e := 10 } : TraceS).pc == 9)) g T (fun g'' => TraceAt g'' t b (if ok then S' else { S' with pc := 9, e := 10 }) ∧ R g'')) := by
  obtain ⟨P, h⟩ := h
  have c11 := h.blk.cell (i := 11) rfl
  have c22 := h.blk.cell (i := 22) rfl
  have f22 := h.blk.live 22
  have hl := h.blk.lt
  have hpb : (S.pc == 9) = false := beq_eq_false_iff_ne.2 hpc
  obtain ⟨hs0, hs1⟩ := hs
  have e1 := IntWalk.i64_in (S.steps + 1) (by omega)
  have HO := Lib.hid h.blk.own
  have HB := Lib.hid hD
  have HT := Lib.hid hT
  have HR := Lib.hid hR
  clear h hD hT hpc hR
  cases ok
  · go_enter Try.func23, Try.ntmps23
    go_wp2_with fail
    refine HB.out.mono ?_
    rintro e w1 ⟨rfl, own1, m1, ⟨P1, r1⟩, r2⟩
    have M2 := Lib.hid m1
    have R1 := Lib.hid r1
    have R2 := Lib.hid r2
    clear m1 r1 r2 c11 c22 f22 hl
    have c11 := R1.out.blk.cell (i := 11) rfl
    have c21 := R1.out.blk.cell (i := 21) rfl
    have f11 := R1.out.blk.live 11
    have f21 := R1.out.blk.live 21
    have hl := R1.out.blk.lt
    simp only at c11 c21 f11 f21 hl
    have H4 := Lib.hid ((R1.out.st 11 (.int .i64 9) { S' with pc := 9 } rfl rfl rfl rfl rfl).st 21 (.int .i64 10) { S' with pc := 9, e := 10 } rfl rfl rfl rfl rfl)
    have M4 := Lib.hid (show Mod (fun x => x = t) (⟨own1, w1⟩ : GW) ⟨own1, (w1.setCell ⟨b, 11, none⟩ (.int .i64 9)).setCell ⟨b, 21, none⟩ (.int .i64 10)⟩ from Mod.st (Mod.st Mod.self R1.out.blk.own) R1.out.blk.own)
    go_wp2_with fail
    go_ret
    exact ⟨rfl, own1, (Mod.st (T := T) Mod.self (HO.out ▸ HT.out)).trans (M2.out.trans (M4.out.mono (fun x hx => hx ▸ HT.out))), ⟨P1, H4.out⟩, HR.out _ _ M4.out R2.out⟩
  · go_enter Try.func23, Try.ntmps23
    go_wp2_with fail
    refine HB.out.mono ?_
    rintro e w1 ⟨rfl, own1, m1, ⟨P1, r1⟩, r2⟩
    have M2 := Lib.hid m1
    have R1 := Lib.hid r1
    have R2 := Lib.hid r2
    clear m1 r1 r2 c11 c22 f22 hl
    have c11 := R1.out.blk.cell (i := 11) rfl
    have hl := R1.out.blk.lt
    simp only at c11 hl
    go_wp2_with fail
    go_ret
    exact ⟨rfl, own1, (Mod.st (T := T) Mod.self (HO.out ▸ HT.out)).trans M2.out, ⟨P1, R1.out⟩, R2.out⟩
end Go.Proofs.Ythdijbkcjmeilaa
