import Derived.Test.YtnebimabokgofaaGreatHaulR
/-
  haul: does, Step.
-/
namespace Go.Proofs.YtnebimabokgofaaGreat
open Go Go.RowKit
set_option linter.unusedVariables false
set_option linter.unnecessarySimpa false
set_option linter.unusedSimpArgs false
set_option maxHeartbeats 1500000
set_option maxRecDepth 100000
theorem haul_does (g : GW) (t b bm bs bk : Nat) (S : HaulS) (T : Nat → Prop) (R : GW → Prop) (h : HaulAt g t b S) (hck : S.c.check = 0) (hfr : S.frm = 0 ∨ S.frm = 1) (hfin : 0 ≤ S.fin ∧ S.fin ≤ S.c.spine)
    (hL : S.pc < 4 → ∀ g', Mod (fun _ => False) g g' → HaulAt g' t b S → Calls Tryz.prog 200 #[.pointer (some ⟨b, 0, none⟩), .pointer (some ⟨bm, 0, none⟩), .pointer (some ⟨bs, 0, none⟩)] g'.w (Does (.bool true) g' T R))
    (hC : 4 ≤ S.pc → ∀ g', Mod (fun _ => False) g g' → HaulAt g' t b S → Calls Tryz.prog 201 #[.pointer (some ⟨b, 0, none⟩), .pointer (some ⟨bm, 0, none⟩), .pointer (some ⟨bk, 0, none⟩)] g'.w (Does (.bool true) g' T R)) :
    Calls Tryz.prog 160 #[.pointer (some ⟨b, 0, none⟩), .pointer (some ⟨bm, 0, none⟩), .pointer (some ⟨bs, 0, none⟩), .pointer (some ⟨bk, 0, none⟩)] g.w (Does (.bool true) g T R) := by
  have k0 := h.blk.cell (i := 0) rfl
  have k1 := h.blk.cell (i := 1) rfl
  have k2 := h.blk.cell (i := 2) rfl
  have k3 := h.blk.cell (i := 3) rfl
  have k4 := h.blk.cell (i := 4) rfl
  have k5 := h.blk.cell (i := 5) rfl
  have k6 := h.blk.cell (i := 6) rfl
  have k7 := h.blk.cell (i := 7) rfl
  have k8 := h.blk.cell (i := 8) rfl
  have c9 := h.blk.cell (i := 9) rfl
  have c10 := h.blk.cell (i := 10) rfl
  have c12 := h.blk.cell (i := 12) rfl
  have hl := h.blk.lt
  have HCK := Lib.hid (fun X => show Calls Tryz.prog 12 #[S.c.val] (g.w.patch X) (Gives (.int .i64 0) (g.w.patch X)) from by
    have h1 := check_any S.c (g.w.patch X) (h.cnf.ok.ext ⟨X, rfl⟩)
    rw [hck] at h1
    exact h1)
  unfold Cnf.val at HCK
  have H := Lib.hid h
  obtain ⟨hf0, hf1⟩ := hfin
  have d1 : decide (S.fin < 0) = false := decide_eq_false (by omega)
  have d2 : decide (S.c.spine < S.fin) = false := decide_eq_false (by omega)
  have HL := Lib.hid hL
  have HC := Lib.hid hC
  clear h hck hL hC
  by_cases hpc : S.pc < 4
  · have d3 : decide (S.pc < 4) = true := decide_eq_true hpc
    have HLL := Lib.hid (fun Y => HL.out hpc (g.pt Y) (Mod.pt (Mod.refl _ g) Y) (H.out.keep (Mod.pt (Mod.refl (fun _ => False) g) Y) id id))
    clear HL HC hpc
    rcases hfr with hfr | hfr
    all_goals
      rw [hfr] at c9
      clear hfr
      go_enter Tryz.func160, Tryz.ntmps160
      go_wp2_with fail
      refine wp_region_mixed [true, true, true, true, true, true, true, true, true, true, true, true, true, true, true, true, true, true, true, true, true, true, true, true, true, true, true, true, true, true, true, true, true, true, true, true, true, true, true, true] 0 40 (by kernel_rfl) (by kernel_rfl) (by kernel_rfl) ?_ (by decide) (by decide) (by decide) (by kernel_rfl) ?_
      · intro c a d v w h; cases d <;> exact h
      intro X00
      simp only [pickOps]
      repeat (go_big_quiet_step (exact Calls.added (HCK.out _)))
      refine wpQuiet_nil (fun X0 => ?_)
      clear X00
      refine wpAnyM_done (by kernel_rfl) (fun X0' => ?_) _
      obtain ⟨Y, hY⟩ := (show Ext g.w ((g.w.patch X0).patch X0') from Ext.trans ⟨X0, rfl⟩ ⟨X0', rfl⟩)
      rw [hY]
      clear hY
      go_wp2_with fail
      refine (HLL.out Y).mono ?_
      rintro e w1 ⟨rfl, own1, m1, r1⟩
      have M1 := Lib.hid m1
      have R1 := Lib.hid r1
      clear m1 r1
      go_wp2_with fail
      go_ret
      exact ⟨rfl, own1, (Mod.pt (Mod.refl T g) Y).trans M1.out, R1.out⟩
  · have d3 : decide (S.pc < 4) = false := decide_eq_false hpc
    have HLL := Lib.hid (fun Y => HC.out (by omega) (g.pt Y) (Mod.pt (Mod.refl _ g) Y) (H.out.keep (Mod.pt (Mod.refl (fun _ => False) g) Y) id id))
    clear HL HC hpc
    rcases hfr with hfr | hfr
    all_goals
      rw [hfr] at c9
      clear hfr
      go_enter Tryz.func160, Tryz.ntmps160
      go_wp2_with fail
      refine wp_region_mixed [true, true, true, true, true, true, true, true, true, true, true, true, true, true, true, true, true, true, true, true, true, true, true, true, true, true, true, true, true, true, true, true, true, true, true, true, true, true, true, true] 0 40 (by kernel_rfl) (by kernel_rfl) (by kernel_rfl) ?_ (by decide) (by decide) (by decide) (by kernel_rfl) ?_
      · intro c a d v w h; cases d <;> exact h
      intro X00
      simp only [pickOps]
      repeat (go_big_quiet_step (exact Calls.added (HCK.out _)))
      refine wpQuiet_nil (fun X0 => ?_)
      clear X00
      refine wpAnyM_done (by kernel_rfl) (fun X0' => ?_) _
      obtain ⟨Y, hY⟩ := (show Ext g.w ((g.w.patch X0).patch X0') from Ext.trans ⟨X0, rfl⟩ ⟨X0', rfl⟩)
      rw [hY]
      clear hY
      go_wp2_with fail
      refine (HLL.out Y).mono ?_
      rintro e w1 ⟨rfl, own1, m1, r1⟩
      have M1 := Lib.hid m1
      have R1 := Lib.hid r1
      clear m1 r1
      go_wp2_with fail
      go_ret
      exact ⟨rfl, own1, (Mod.pt (Mod.refl T g) Y).trans M1.out, R1.out⟩
theorem haul_step (g : GW) (t b bm bs bk : Nat) (S S' : HaulS) (T : Nat → Prop) (R : GW → Prop) (h : HaulAt g t b S) (hpc : S.pc ≠ 11) (hs : 0 ≤ S.steps ∧ S.steps ≤ 1099511627776) (hT : T t)
    (hD : ∀ g', Mod (fun x => x = t) g g' → HaulAt g' t b { S with steps := S.steps + 1 } → Calls Tryz.prog 160 #[.pointer (some ⟨b, 0, none⟩), .pointer (some ⟨bm, 0, none⟩), .pointer (some ⟨bs, 0, none⟩), .pointer (some ⟨bk, 0, none⟩)] g'.w (Does (.bool true) g' T (fun g'' => HaulAt g'' t b S' ∧ R g''))) :
    Calls Tryz.prog 116 #[.pointer (some ⟨b, 0, none⟩), .pointer (some ⟨bm, 0, none⟩), .pointer (some ⟨bs, 0, none⟩), .pointer (some ⟨bk, 0, none⟩)] g.w (Does (.bool (S'.pc == 11)) g T (fun g'' => HaulAt g'' t b S' ∧ R g'')) := by
  have c12 := h.blk.cell (i := 12) rfl
  have c21 := h.blk.cell (i := 21) rfl
  have f21 := h.blk.live 21
  have hl := h.blk.lt
  have hpb : (S.pc == 11) = false := beq_eq_false_iff_ne.2 hpc
  obtain ⟨hs0, hs1⟩ := hs
  have e1 := IntWalk.i64_in (S.steps + 1) (by omega)
  have HO := Lib.hid h.blk.own
  have M1 := Lib.hid (show Mod (fun x => x = t) g ⟨g.own, g.w.setCell ⟨b, 21, none⟩ (.int .i64 (S.steps + 1))⟩ from Mod.st Mod.self HO.out)
  have HB := Lib.hid (hD ⟨g.own, g.w.setCell ⟨b, 21, none⟩ (.int .i64 (S.steps + 1))⟩ M1.out (h.st 21 (.int .i64 (S.steps + 1)) { S with steps := S.steps + 1 } rfl rfl))
  have HT := Lib.hid hT
  clear h hD hT hpc
  go_enter Tryz.func116, Tryz.ntmps116
  go_wp2_with fail
  refine HB.out.mono ?_
  rintro e w1 ⟨rfl, own1, m1, r1, r2⟩
  have M2 := Lib.hid m1
  have R1 := Lib.hid r1
  have R2 := Lib.hid r2
  clear m1 r1 r2 c12 c21 f21 hl
  have c12 := R1.out.blk.cell (i := 12) rfl
  have hl := R1.out.blk.lt
  simp only at c12 hl
  go_wp2_with fail
  go_ret
  exact ⟨rfl, own1, (M1.out.mono (fun x hx => hx ▸ HT.out)).trans M2.out, R1.out, R2.out⟩
end Go.Proofs.YtnebimabokgofaaGreat

