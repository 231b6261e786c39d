import Derived.Test.YtnebimabokgofaaGreatMgInts
import Derived.Test.YtnebimabokgofaaGreatSpaceM
/-
  space: Sweep; spolaw21.first.
-/
namespace Go
theorem Mod.none {T : Nat → Prop} {g g' : GW} (h : Mod T g g') (hn : ∀ k, k < g.w.heap.size → ¬ T (g.own k)) : Mod (fun _ => False) g g' := ⟨h.os, h.tape, h.output, h.size, h.own, fun k hk _ => h.block k hk (hn k hk)⟩
end Go
namespace Go.Proofs.YtnebimabokgofaaGreat
open Go Go.RowKit
set_option linter.unusedVariables false
set_option linter.unnecessarySimpa false
set_option linter.unusedSimpArgs false
set_option maxHeartbeats 4000000
def sweeps (S : SpaceS) (i : Int) (sense : Bool) : Bool := S.tab.state i == 2 && !S.tab.black i sense
def sweepS (S : SpaceS) (i : Int) (sense : Bool) : SpaceS := if sweeps S i sense then { S.tick with tab := S.tab.set i 0 false false, pool := S.pool.give i } else S.tick
theorem space_sweep (i : Int) (sense : Bool) (g : GW) (B b bt : Nat) (S : SpaceS) (h : SpaceAt g B b bt S) (hB : 100 ≤ B) (hc : 0 ≤ S.count ∧ S.count ≤ 1099511627776) :
    Calls Tryz.prog 120 #[.pointer (some ⟨b, 0, none⟩), .int .i64 i, .bool sense] g.w (Does (.bool (sweeps S i sense)) g (inst B) (fun g' => SpaceAt g' B b bt (sweepS S i sense))) := by
  obtain ⟨bp, bk, bl, A, cs, cm, bs, h⟩ := h
  obtain ⟨hc0, hc1⟩ := hc
  have H := Lib.hid h
  have M0 := Lib.hid (show Mod (inst B) g ⟨g.own, g.w.setCell ⟨b, 3, none⟩ (.int .i64 (S.count + 1))⟩ from Mod.set (by rw [h.blk.own]; exact ⟨by omega, by omega⟩))
  have H0 := Lib.hid h.tick
  have a0 := h.blk.cell (i := 0) rfl
  have a1 := h.blk.cell (i := 1) rfl
  have a2 := h.blk.cell (i := 2) rfl
  have a3 := h.blk.cell (i := 3) rfl
  have a4 := h.blk.cell (i := 4) rfl
  have a5 := h.blk.cell (i := 5) rfl
  have a6 := h.blk.cell (i := 6) rfl
  have a7 := h.blk.cell (i := 7) rfl
  have a8 := h.blk.cell (i := 8) rfl
  have a9 := h.blk.cell (i := 9) rfl
  have a10 := h.blk.cell (i := 10) rfl
  have a11 := h.blk.cell (i := 11) rfl
  have a12 := h.blk.cell (i := 12) rfl
  have a13 := h.blk.cell (i := 13) rfl
  have a14 := h.blk.cell (i := 14) rfl
  have a15 := h.blk.cell (i := 15) rfl
  have af3 := h.blk.live 3
  have al := h.blk.lt
  (try simp only [GW.to] at a0 a1 a2 a3 a4 a5 a6 a7 a8 a9 a10 a11 a12 a13 a14 a15 af3 al)
  have k0 := (h.tick.blk.cell (i := 0) rfl)
  have k13 := (h.tick.blk.cell (i := 13) rfl)
  simp only at k0 k13
  have HST := Lib.hid (tab_state ⟨g.own, g.w.setCell ⟨b, 3, none⟩ (.int .i64 (S.count + 1))⟩ (B + 50) bt i S.tab h.tick.tab)
  have HBL := Lib.hid (tab_black ⟨g.own, g.w.setCell ⟨b, 3, none⟩ (.int .i64 (S.count + 1))⟩ (B + 50) bt i sense S.tab h.tick.tab)
  have HFR := Lib.hid (space_frees i h.tick hB)
  clear h
  cases hst : (S.tab.state i == 2)
  · have HV := Lib.hid (show sweeps S i sense = false by unfold sweeps; rw [hst]; rfl)
    have HW := Lib.hid (show sweepS S i sense = S.tick by unfold sweepS; rw [HV.out]; rfl)
    have hz : ((S.tab.state i : Int) != 2) = true := by rw [bne, show (2 : Int) = ((2 : Nat) : Int) from rfl, beq_cast]; simpa using hst
    generalize S.tab.state i = x at *
    clear hst
    go_enter Tryz.func120, Tryz.ntmps120
    go_wp2_with fail
    refine HST.out.mono ?_
    rintro e w1 ⟨rfl, rfl⟩
    go_wp2_with fail
    go_ret
    exact Does.of ⟨g.own, _⟩ rfl (by rw [HV.out]; try rfl) M0.out (by rw [HW.out]; exact ⟨_, _, _, _, _, _, _, H0.out⟩)
  · have hz : ((S.tab.state i : Int) != 2) = false := by rw [bne, show (2 : Int) = ((2 : Nat) : Int) from rfl, beq_cast]; simpa using hst
    cases hbl : S.tab.black i sense
    · have HV := Lib.hid (show sweeps S i sense = true by unfold sweeps; rw [hst, hbl]; rfl)
      have HW := Lib.hid (show sweepS S i sense = { S.tick with tab := S.tab.set i 0 false false, pool := S.pool.give i } by unfold sweepS; rw [HV.out]; rfl)
      rw [hbl] at HBL
      generalize S.tab.state i = x at *
      clear hst hbl
      go_enter Tryz.func120, Tryz.ntmps120
      go_wp2_with fail
      refine HST.out.mono ?_
      rintro e w1 ⟨rfl, rfl⟩
      go_wp2_with fail
      refine HBL.out.mono ?_
      rintro e w1 ⟨rfl, rfl⟩
      go_wp2_with fail
      refine HFR.out.mono ?_
      rintro e w1 ⟨rfl, own1, m1, h1⟩
      have M1 := Lib.hid (M0.out.trans (m1.mono (fun y (hy : y = B + 50 ∨ y = B + 1) => (⟨by omega, by omega⟩ : inst B y))))
      have H1 := Lib.hid h1
      clear m1 h1
      go_wp2_with fail
      go_ret
      exact Does.of ⟨own1, _⟩ rfl (by rw [HV.out]; try rfl) M1.out (by rw [HW.out]; exact ⟨_, _, _, _, _, _, _, H1.out⟩)
    · have HV := Lib.hid (show sweeps S i sense = false by unfold sweeps; rw [hst, hbl]; rfl)
      have HW := Lib.hid (show sweepS S i sense = S.tick by unfold sweepS; rw [HV.out]; rfl)
      rw [hbl] at HBL
      generalize S.tab.state i = x at *
      clear hst hbl
      go_enter Tryz.func120, Tryz.ntmps120
      go_wp2_with fail
      refine HST.out.mono ?_
      rintro e w1 ⟨rfl, rfl⟩
      go_wp2_with fail
      refine HBL.out.mono ?_
      rintro e w1 ⟨rfl, rfl⟩
      go_wp2_with fail
      go_ret
      exact Does.of ⟨g.own, _⟩ rfl (by rw [HV.out]; try rfl) M0.out (by rw [HW.out]; exact ⟨_, _, _, _, _, _, _, H0.out⟩)

end Go.Proofs.YtnebimabokgofaaGreat

/-
  space: Force, Turn, Done, Wants of any state.
-/
namespace Go.Proofs.YtnebimabokgofaaGreat
open Go Go.RowKit
set_option linter.unusedVariables false
set_option linter.unnecessarySimpa false
set_option linter.unusedSimpArgs false
set_option maxHeartbeats 4000000
def forceS (S : SpaceS) : SpaceS := { S.tick with forced := true }
def turnS (S : SpaceS) : SpaceS := { S.tick with coil := S.coil.turn }
def doneS (S : SpaceS) : SpaceS := { S.tick with coil := S.coil.done }
def wantsS (S : SpaceS) : Bool := decide (0 < Ent.wait S.line) || (decide ((S.pool.free : Int) < S.c.low) || S.forced)
theorem space_force (g : GW) (B b bt : Nat) (S : SpaceS) (h : SpaceAt g B b bt S) (hB : 100 ≤ B) (hc : 0 ≤ S.count ∧ S.count ≤ 1099511627776) :
    Calls Tryz.prog 16 #[.pointer (some ⟨b, 0, none⟩)] g.w (Does (.tuple #[]) g (inst B) (fun g' => SpaceAt g' B b bt (forceS S))) := by
  obtain ⟨bp, bk, bl, A, cs, cm, bs, h⟩ := h
  obtain ⟨hc0, hc1⟩ := hc
  have H0 := Lib.hid (show SpaceIn ⟨g.own, (g.w.setCell ⟨b, 3, none⟩ (.int .i64 (S.count + 1))).setCell ⟨b, 2, none⟩ (.bool true)⟩ B b bt { S.tick with forced := true } bp bk bl A cs cm bs from h.tick.force true)
  have M0 := Lib.hid (show Mod (inst B) g ⟨g.own, (g.w.setCell ⟨b, 3, none⟩ (.int .i64 (S.count + 1))).setCell ⟨b, 2, none⟩ (.bool true)⟩ from Mod.st (Mod.set (by rw [h.blk.own]; exact ⟨by omega, by omega⟩)) (by rw [h.blk.own]; exact ⟨by omega, by omega⟩))
  have a0 := h.blk.cell (i := 0) rfl
  have a1 := h.blk.cell (i := 1) rfl
  have a2 := h.blk.cell (i := 2) rfl
  have a3 := h.blk.cell (i := 3) rfl
  have a4 := h.blk.cell (i := 4) rfl
  have a5 := h.blk.cell (i := 5) rfl
  have a6 := h.blk.cell (i := 6) rfl
  have a7 := h.blk.cell (i := 7) rfl
  have a8 := h.blk.cell (i := 8) rfl
  have a9 := h.blk.cell (i := 9) rfl
  have a10 := h.blk.cell (i := 10) rfl
  have a11 := h.blk.cell (i := 11) rfl
  have a12 := h.blk.cell (i := 12) rfl
  have a13 := h.blk.cell (i := 13) rfl
  have a14 := h.blk.cell (i := 14) rfl
  have a15 := h.blk.cell (i := 15) rfl
  have af2 := h.blk.live 2
  have af3 := h.blk.live 3
  have al := h.blk.lt
  (try simp only [GW.to] at a0 a1 a2 a3 a4 a5 a6 a7 a8 a9 a10 a11 a12 a13 a14 a15 af2 af3 al)
  clear h
  go_enter Tryz.func16, Tryz.ntmps16
  go_wp2_with fail
  exact bodyPost_end (results_none rfl _ _ _) rfl (Does.of ⟨g.own, _⟩ rfl rfl M0.out ⟨_, _, _, _, _, _, _, H0.out⟩)
theorem space_turn (g : GW) (B b bt : Nat) (S : SpaceS) (h : SpaceAt g B b bt S) (hB : 100 ≤ B) (hc : 0 ≤ S.count ∧ S.count ≤ 1099511627776) :
    Calls Tryz.prog 111 #[.pointer (some ⟨b, 0, none⟩)] g.w (Does (.bool S.coil.turnable) g (inst B) (fun g' => SpaceAt g' B b bt (turnS S))) := by
  obtain ⟨bp, bk, bl, A, cs, cm, bs, h⟩ := h
  obtain ⟨hc0, hc1⟩ := hc
  have M0 := Lib.hid (show Mod (inst B) g ⟨g.own, g.w.setCell ⟨b, 3, none⟩ (.int .i64 (S.count + 1))⟩ from Mod.set (by rw [h.blk.own]; exact ⟨by omega, by omega⟩))
  have H0 := Lib.hid (show SpaceIn ⟨g.own, g.w.setCell ⟨b, 3, none⟩ (.int .i64 (S.count + 1))⟩ B b bt S.tick bp bk bl A cs cm bs from h.tick)
  have a0 := h.blk.cell (i := 0) rfl
  have a1 := h.blk.cell (i := 1) rfl
  have a2 := h.blk.cell (i := 2) rfl
  have a3 := h.blk.cell (i := 3) rfl
  have a4 := h.blk.cell (i := 4) rfl
  have a5 := h.blk.cell (i := 5) rfl
  have a6 := h.blk.cell (i := 6) rfl
  have a7 := h.blk.cell (i := 7) rfl
  have a8 := h.blk.cell (i := 8) rfl
  have a9 := h.blk.cell (i := 9) rfl
  have a10 := h.blk.cell (i := 10) rfl
  have a11 := h.blk.cell (i := 11) rfl
  have a12 := h.blk.cell (i := 12) rfl
  have a13 := h.blk.cell (i := 13) rfl
  have a14 := h.blk.cell (i := 14) rfl
  have a15 := h.blk.cell (i := 15) rfl
  have af3 := h.blk.live 3
  have al := h.blk.lt
  (try simp only [GW.to] at a0 a1 a2 a3 a4 a5 a6 a7 a8 a9 a10 a11 a12 a13 a14 a15 af3 al)
  clear h
  go_enter Tryz.func111, Tryz.ntmps111
  go_wp2_with fail
  refine (coil_turn ⟨g.own, _⟩ (B + 2) bk S.coil H0.out.coil).mono ?_
  rintro e w1 ⟨rfl, own1, m1, l1⟩
  have M1 := Lib.hid (M0.out.trans (m1.mono (fun x (hx : x = B + 2) => (⟨by omega, by omega⟩ : inst B x))))
  have H1 := Lib.hid (H0.out.withCoil m1 l1)
  clear m1 l1
  go_wp2_with fail
  go_ret
  exact Does.of ⟨own1, w1⟩ rfl rfl M1.out ⟨_, _, _, _, _, _, _, H1.out⟩
theorem space_done (g : GW) (B b bt : Nat) (S : SpaceS) (h : SpaceAt g B b bt S) (hB : 100 ≤ B) (hc : 0 ≤ S.count ∧ S.count ≤ 1099511627776) (hk : S.coil.kept ≤ 0) :
    Calls Tryz.prog 119 #[.pointer (some ⟨b, 0, none⟩)] g.w (Does (.bool true) g (inst B) (fun g' => SpaceAt g' B b bt (doneS S))) := by
  obtain ⟨bp, bk, bl, A, cs, cm, bs, h⟩ := h
  obtain ⟨hc0, hc1⟩ := hc
  have M0 := Lib.hid (show Mod (inst B) g ⟨g.own, g.w.setCell ⟨b, 3, none⟩ (.int .i64 (S.count + 1))⟩ from Mod.set (by rw [h.blk.own]; exact ⟨by omega, by omega⟩))
  have H0 := Lib.hid (show SpaceIn ⟨g.own, g.w.setCell ⟨b, 3, none⟩ (.int .i64 (S.count + 1))⟩ B b bt S.tick bp bk bl A cs cm bs from h.tick)
  have HK := Lib.hid hk
  have a0 := h.blk.cell (i := 0) rfl
  have a1 := h.blk.cell (i := 1) rfl
  have a2 := h.blk.cell (i := 2) rfl
  have a3 := h.blk.cell (i := 3) rfl
  have a4 := h.blk.cell (i := 4) rfl
  have a5 := h.blk.cell (i := 5) rfl
  have a6 := h.blk.cell (i := 6) rfl
  have a7 := h.blk.cell (i := 7) rfl
  have a8 := h.blk.cell (i := 8) rfl
  have a9 := h.blk.cell (i := 9) rfl
  have a10 := h.blk.cell (i := 10) rfl
  have a11 := h.blk.cell (i := 11) rfl
  have a12 := h.blk.cell (i := 12) rfl
  have a13 := h.blk.cell (i := 13) rfl
  have a14 := h.blk.cell (i := 14) rfl
  have a15 := h.blk.cell (i := 15) rfl
  have af3 := h.blk.live 3
  have al := h.blk.lt
  (try simp only [GW.to] at a0 a1 a2 a3 a4 a5 a6 a7 a8 a9 a10 a11 a12 a13 a14 a15 af3 al)
  clear h hk
  go_enter Tryz.func119, Tryz.ntmps119
  go_wp2_with fail
  refine (coil_done ⟨g.own, _⟩ (B + 2) bk S.coil H0.out.coil HK.out).mono ?_
  rintro e w1 ⟨rfl, own1, m1, l1⟩
  have M1 := Lib.hid (M0.out.trans (m1.mono (fun x (hx : x = B + 2) => (⟨by omega, by omega⟩ : inst B x))))
  have H1 := Lib.hid (H0.out.withCoil m1 l1)
  clear m1 l1
  go_wp2_with fail
  go_ret
  exact Does.of ⟨own1, w1⟩ rfl rfl M1.out ⟨_, _, _, _, _, _, _, H1.out⟩
theorem space_wants (g : GW) (B b bt : Nat) (S : SpaceS) (h : SpaceAt g B b bt S) (hB : 100 ≤ B) (hc : 0 ≤ S.count ∧ S.count ≤ 1099511627776) :
    Calls Tryz.prog 63 #[.pointer (some ⟨b, 0, none⟩)] g.w (Does (.bool (wantsS S)) g (inst B) (fun g' => SpaceAt g' B b bt S.tick)) := by
  obtain ⟨bp, bk, bl, A, cs, cm, bs, h⟩ := h
  obtain ⟨hc0, hc1⟩ := hc
  have M0 := Lib.hid (show Mod (inst B) g ⟨g.own, g.w.setCell ⟨b, 3, none⟩ (.int .i64 (S.count + 1))⟩ from Mod.set (by rw [h.blk.own]; exact ⟨by omega, by omega⟩))
  have H0 := Lib.hid (show SpaceIn ⟨g.own, g.w.setCell ⟨b, 3, none⟩ (.int .i64 (S.count + 1))⟩ B b bt S.tick bp bk bl A cs cm bs from h.tick)
  have HV := Lib.hid (show wantsS S = (decide (0 < Ent.wait S.line) || (decide ((S.pool.free : Int) < cm.low) || S.forced)) from by unfold wantsS; rw [h.same.low])
  have HW := Lib.hid (fun X => sh_waits ((⟨g.own, g.w.setCell ⟨b, 3, none⟩ (.int .i64 (S.count + 1))⟩ : GW).pt X) (B + 3) cm bp bk bl _ (H0.out.line.keep (Mod.pt (Mod.refl (fun _ => False) _) X) id id))
  have HR := Lib.hid (fun X => sh_free ((⟨g.own, g.w.setCell ⟨b, 3, none⟩ (.int .i64 (S.count + 1))⟩ : GW).pt X) (B + 1) cm bp bk bl S.pool (H0.out.pool.keep (Mod.pt (Mod.refl (fun _ => False) _) X) id))
  rw [show S.tick.line = S.line from rfl] at HW
  have c3 := h.blk.cell (i := 3) rfl
  have f3 := h.blk.live 3
  have hbl := h.blk.lt
  have HB0 := H0.out.blk
  rw [show S.tick.forced = S.forced from rfl] at HB0
  have a0 := HB0.cell (i := 0) rfl
  have a1 := HB0.cell (i := 1) rfl
  have a2 := HB0.cell (i := 2) rfl
  have a3 := HB0.cell (i := 3) rfl
  have a4 := HB0.cell (i := 4) rfl
  have a5 := HB0.cell (i := 5) rfl
  have a6 := HB0.cell (i := 6) rfl
  have a7 := HB0.cell (i := 7) rfl
  have a8 := HB0.cell (i := 8) rfl
  have a9 := HB0.cell (i := 9) rfl
  have a10 := HB0.cell (i := 10) rfl
  have a11 := HB0.cell (i := 11) rfl
  have a12 := HB0.cell (i := 12) rfl
  have a13 := HB0.cell (i := 13) rfl
  have a14 := HB0.cell (i := 14) rfl
  have a15 := HB0.cell (i := 15) rfl
  have al := HB0.lt
  (try simp only [GW.to] at a0 a1 a2 a3 a4 a5 a6 a7 a8 a9 a10 a11 a12 a13 a14 a15 al)
  unfold shelves at HW HR
  clear h HB0
  generalize S.pool.free = fr at *
  generalize Ent.wait S.line = wt at *
  generalize S.forced = fo at *
  by_cases hw : 0 < wt
  · have d1 : decide (0 < wt) = true := decide_eq_true hw
    have HV2 := Lib.hid (show wantsS S = true from by rw [HV.out, decide_eq_true hw, Bool.true_or])
    clear hw
    go_enter Tryz.func63, Tryz.ntmps63
    go_wp2_with fail
    refine wp_region_mixed [true, true, true, true, true, true, true, true, true, true, true, true, true, true, true, true, true, true, true, true, true, true, true, true, true, true, true] 0 27 (by kernel_rfl) (by kernel_rfl) (by kernel_rfl) ?_ (by decide) (by decide) (by decide) (by kernel_rfl) ?_
    · intro c a d v w h; cases d <;> exact h
    intro X00
    simp only [pickOps]
    repeat (go_big_quiet_step (first | (go_at_call 99; exact Calls.added (HW.out _)) | (go_at_call 25; exact Calls.added (HR.out _))))
    refine wpQuiet_nil (fun X0 => ?_)
    clear X00
    refine wpAnyM_done (by kernel_rfl) (fun X0' => ?_) _
    go_wp2_with fail
    go_ret
    exact Does.ext ⟨g.own, _⟩ (by (repeat (first | (with_reducible assumption) | (with_reducible exact Ext.refl _) | (with_reducible exact Ext.more _ _ _ _) | apply Ext.alloc | refine Ext.setCell ?_ (by first | exact Nat.le_refl _ | exact Nat.le_add_right _ _ | assumption) _ | apply Ext.patch | apply Ext.drew | apply Ext.drewN))) (by rw [HV2.out]; try rfl) M0.out (fun g2 m => ⟨_, _, _, _, _, _, _, H0.out.keep m (fun x hx => hx.elim)⟩)
  · have d1 : decide (0 < wt) = false := decide_eq_false hw
    by_cases hl : (fr : Int) < cm.low
    · have d2 : decide ((fr : Int) < cm.low) = true := decide_eq_true hl
      have HV2 := Lib.hid (show wantsS S = true from by rw [HV.out, decide_eq_true hl]; simp)
      clear hw hl
      go_enter Tryz.func63, Tryz.ntmps63
      go_wp2_with fail
      refine wp_region_mixed [true, true, true, true, true, true, true, true, true, true, true, true, true, true, true, true, true, true, true, true, true, true, true, true, true, true, true] 0 27 (by kernel_rfl) (by kernel_rfl) (by kernel_rfl) ?_ (by decide) (by decide) (by decide) (by kernel_rfl) ?_
      · intro c a d v w h; cases d <;> exact h
      intro X00
      simp only [pickOps]
      repeat (go_big_quiet_step (first | (go_at_call 99; exact Calls.added (HW.out _)) | (go_at_call 25; exact Calls.added (HR.out _))))
      refine wpQuiet_nil (fun X0 => ?_)
      clear X00
      refine wpAnyM_done (by kernel_rfl) (fun X0' => ?_) _
      go_wp2_with fail
      go_ret
      exact Does.ext ⟨g.own, _⟩ (by (repeat (first | (with_reducible assumption) | (with_reducible exact Ext.refl _) | (with_reducible exact Ext.more _ _ _ _) | apply Ext.alloc | refine Ext.setCell ?_ (by first | exact Nat.le_refl _ | exact Nat.le_add_right _ _ | assumption) _ | apply Ext.patch | apply Ext.drew | apply Ext.drewN))) (by rw [HV2.out]; try rfl) M0.out (fun g2 m => ⟨_, _, _, _, _, _, _, H0.out.keep m (fun x hx => hx.elim)⟩)
    · have d2 : decide ((fr : Int) < cm.low) = false := decide_eq_false hl
      have HV2 := Lib.hid (show wantsS S = fo from by rw [HV.out, decide_eq_false hl, decide_eq_false hw]; simp)
      clear hw hl
      go_enter Tryz.func63, Tryz.ntmps63
      go_wp2_with fail
      refine wp_region_mixed [true, true, true, true, true, true, true, true, true, true, true, true, true, true, true, true, true, true, true, true, true, true, true, true, true, true, true] 0 27 (by kernel_rfl) (by kernel_rfl) (by kernel_rfl) ?_ (by decide) (by decide) (by decide) (by kernel_rfl) ?_
      · intro c a d v w h; cases d <;> exact h
      intro X00
      simp only [pickOps]
      repeat (go_big_quiet_step (first | (go_at_call 99; exact Calls.added (HW.out _)) | (go_at_call 25; exact Calls.added (HR.out _))))
      refine wpQuiet_nil (fun X0 => ?_)
      clear X00
      refine wpAnyM_done (by kernel_rfl) (fun X0' => ?_) _
      go_wp2_with fail
      go_ret
      exact Does.ext ⟨g.own, _⟩ (by (repeat (first | (with_reducible assumption) | (with_reducible exact Ext.refl _) | (with_reducible exact Ext.more _ _ _ _) | apply Ext.alloc | refine Ext.setCell ?_ (by first | exact Nat.le_refl _ | exact Nat.le_add_right _ _ | assumption) _ | apply Ext.patch | apply Ext.drew | apply Ext.drewN))) (by rw [HV2.out]; try rfl) M0.out (fun g2 m => ⟨_, _, _, _, _, _, _, H0.out.keep m (fun x hx => hx.elim)⟩)
end Go.Proofs.YtnebimabokgofaaGreat

