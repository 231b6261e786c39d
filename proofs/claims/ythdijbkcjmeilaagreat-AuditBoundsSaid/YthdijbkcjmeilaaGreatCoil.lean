/-
  coil: the two spaces of spines.
-/
import Derived.Test.YthdijbkcjmeilaaGreatChecked
import Derived.Test.YthdijbkcjmeilaaGreatSt
namespace Go.Proofs.YthdijbkcjmeilaaGreat
open Go Go.RowKit
set_option linter.unusedVariables false
set_option linter.unnecessarySimpa false
set_option linter.unusedSimpArgs false
set_option maxHeartbeats 2000000

structure CoilAt (g : GW) (t b : Nat) (c : CoilS) : Prop where
  blk : Blk g t b 128 [.int .i64 c.size, .int .i64 c.cur, .int .i64 c.u0, .int .i64 c.u1, .int .i64 c.kept]
  ok : c.Ok
theorem CoilAt.keep {S : Nat → Prop} {g g' : GW} {t b : Nat} {c : CoilS} (h : CoilAt g t b c) (d : Mod S g g') (hs : ¬ S t) : CoilAt g' t b c := ⟨h.blk.keep d hs, h.ok⟩
theorem CoilAt.pt {g : GW} {t b : Nat} {c : CoilS} (h : CoilAt g t b c) (X : Extra) : CoilAt (g.pt X) t b c := h.keep (S := fun _ => False) (Mod.pt (Mod.refl _ _) X) id

theorem coil_current (g : GW) (t b : Nat) (c : CoilS) (h : CoilAt g t b c) :
    Calls Tryz.prog 29 #[.pointer (some ⟨b, 0, none⟩)] g.w (fun e w' => e = .returned (.int .i64 c.cur) ∧ g.w = w') := by
  have c1 := h.blk.cell (i := 1) rfl
  clear h
  go_enter Tryz.func29, Tryz.ntmps29
  go_wp2_with fail
  go_ret
  exact ⟨rfl, rfl⟩
theorem coil_used (g : GW) (t b s : Nat) (c : CoilS) (h : CoilAt g t b c) (hs : s < 2) :
    Calls Tryz.prog 221 #[.pointer (some ⟨b, 0, none⟩), .int .i64 s] g.w (fun e w' => e = .returned (.int .i64 (c.used s)) ∧ g.w = w') := by
  have c2 := h.blk.cell (i := 2) rfl
  have c3 := h.blk.cell (i := 3) rfl
  clear h
  rcases (show s = 0 ∨ s = 1 by omega) with rfl | rfl
  · have HV := Lib.hid (show c.used 0 = c.u0 from rfl)
    go_enter Tryz.func221, Tryz.ntmps221
    go_wp2_with fail
    go_ret
    exact ⟨by rw [HV.out]; try rfl, rfl⟩
  · have HV := Lib.hid (show c.used 1 = c.u1 from rfl)
    go_enter Tryz.func221, Tryz.ntmps221
    go_wp2_with fail
    go_ret
    exact ⟨by rw [HV.out]; try rfl, rfl⟩
theorem coil_room (g : GW) (t b : Nat) (c : CoilS) (h : CoilAt g t b c) :
    Calls Tryz.prog 30 #[.pointer (some ⟨b, 0, none⟩)] g.w (Gives (.int .i64 c.room) g.w) := by
  have c0 := h.blk.cell (i := 0) rfl
  have c1 := h.blk.cell (i := 1) rfl
  have c2 := h.blk.cell (i := 2) rfl
  have c3 := h.blk.cell (i := 3) rfl
  have c4 := h.blk.cell (i := 4) rfl
  have hbl := h.blk.lt
  obtain ⟨o1, ⟨_, _⟩, ⟨_, _⟩, ⟨_, _⟩, ⟨_, _⟩, _⟩ := h.ok
  clear h
  obtain ⟨size, cur, u0, u1, kept⟩ := c
  simp only at *
  rcases (show cur = 0 ∨ cur = 1 by omega) with rfl | rfl
  · replace c1 : g.w.cell? ⟨b, 1, none⟩ = some (.int .i64 0) := c1
    have HV := Lib.hid (show CoilS.room ⟨size, 0, u0, u1, kept⟩ = size - u0 - kept from rfl)
    go_enter Tryz.func30, Tryz.ntmps30
    go_wp2_with fail
    refine wp_region_mixed [true, true, true, true, true, true, true, true, true, true, true, true, true, true, true, true, true, true, true, true] 0 20 (by kernel_rfl) (by kernel_rfl) (by kernel_rfl) ?_ (by decide) (by decide) (by decide) (by kernel_rfl) ?_
    · intro c a d v w h; cases d <;> exact h
    intro X00
    simp only [pickOps]
    repeat (go_big_quiet_step (fail))
    refine wpQuiet_nil (fun X0 => ?_)
    clear X00
    refine wpAnyM_done (by kernel_rfl) (fun X0' => ?_) _
    go_wp2_with fail
    go_ret
    exact Gives.int (by rw [HV.out]; try rfl) (by (repeat (first | (with_reducible assumption) | (with_reducible exact Ext.refl _) | (with_reducible exact Ext.more _ _ _ _) | apply Ext.alloc | refine Ext.setCell ?_ (by first | exact Nat.le_refl _ | exact Nat.le_add_right _ _ | assumption) _ | apply Ext.patch | apply Ext.drew | apply Ext.drewN)))
  · replace c1 : g.w.cell? ⟨b, 1, none⟩ = some (.int .i64 1) := c1
    have HV := Lib.hid (show CoilS.room ⟨size, 1, u0, u1, kept⟩ = size - u1 - kept from rfl)
    go_enter Tryz.func30, Tryz.ntmps30
    go_wp2_with fail
    refine wp_region_mixed [true, true, true, true, true, true, true, true, true, true, true, true, true, true, true, true, true, true, true, true] 0 20 (by kernel_rfl) (by kernel_rfl) (by kernel_rfl) ?_ (by decide) (by decide) (by decide) (by kernel_rfl) ?_
    · intro c a d v w h; cases d <;> exact h
    intro X00
    simp only [pickOps]
    repeat (go_big_quiet_step (fail))
    refine wpQuiet_nil (fun X0 => ?_)
    clear X00
    refine wpAnyM_done (by kernel_rfl) (fun X0' => ?_) _
    go_wp2_with fail
    go_ret
    exact Gives.int (by rw [HV.out]; try rfl) (by (repeat (first | (with_reducible assumption) | (with_reducible exact Ext.refl _) | (with_reducible exact Ext.more _ _ _ _) | apply Ext.alloc | refine Ext.setCell ?_ (by first | exact Nat.le_refl _ | exact Nat.le_add_right _ _ | assumption) _ | apply Ext.patch | apply Ext.drew | apply Ext.drewN)))
theorem coil_lays (g : GW) (t b : Nat) (n : Int) (c : CoilS) (h : CoilAt g t b c) (hn : 0 ≤ n ∧ n ≤ 4096) (hok : (c.lays n).Ok) :
    Calls Tryz.prog 146 #[.pointer (some ⟨b, 0, none⟩), .int .i64 n] g.w (Does (.int .i64 (c.used c.cur)) g (fun x => x = t) (fun g' => CoilAt g' t b (c.lays n))) := by
  have c0 := h.blk.cell (i := 0) rfl
  have c1 := h.blk.cell (i := 1) rfl
  have c2 := h.blk.cell (i := 2) rfl
  have c3 := h.blk.cell (i := 3) rfl
  have c4 := h.blk.cell (i := 4) rfl
  have f2 := h.blk.live 2
  have f3 := h.blk.live 3
  have hbl := h.blk.lt
  obtain ⟨o1, ⟨_, _⟩, ⟨_, _⟩, ⟨_, _⟩, ⟨_, _⟩, _⟩ := h.ok
  have HO := Lib.hid h.blk.own
  have HB := Lib.hid h.blk
  have HK := Lib.hid hok
  obtain ⟨hn0, hn1⟩ := hn
  clear h hok
  obtain ⟨size, cur, u0, u1, kept⟩ := c
  simp only at *
  rcases (show cur = 0 ∨ cur = 1 by omega) with rfl | rfl
  · replace c1 : g.w.cell? ⟨b, 1, none⟩ = some (.int .i64 0) := c1
    have HT := Lib.hid (show CoilS.lays ⟨size, 0, u0, u1, kept⟩ n = ⟨size, 0, u0 + n, u1, kept⟩ from rfl)
    rw [HT.out] at HK
    go_enter Tryz.func146, Tryz.ntmps146
    go_wp2_with fail
    refine wp_region_mixed [true, true, true, true, true, true, true, true, true, true] 0 10 (by kernel_rfl) (by kernel_rfl) (by kernel_rfl) ?_ (by decide) (by decide) (by decide) (by kernel_rfl) ?_
    · intro c a d v w h; cases d <;> exact h
    intro X00
    simp only [pickOps]
    repeat (go_big_quiet_step (fail))
    refine wpQuiet_nil (fun X0 => ?_)
    clear X00
    refine wpAnyM_done (by kernel_rfl) (fun X0' => ?_) _
    go_wp2_with fail
    refine wp_region_mixed [true, true, true, true, true, true, true, true, true, true, true, true, true, true, false] 1 14 (by kernel_rfl) (by kernel_rfl) (by kernel_rfl) ?_ (by decide) (by decide) (by decide) (by kernel_rfl) ?_
    · intro c a d v w h; cases d <;> exact h
    intro X00
    simp only [pickOps]
    repeat (go_big_quiet_step (fail))
    refine wpQuiet_nil (fun X0 => ?_)
    clear X00
    refine wpAnyM_last 14 _ (by kernel_rfl) (by kernel_rfl) rfl rfl (fun X1 K Q' hK => ?_)
    go_simp
    refine hK _ _ (fun X2 => ?_)
    clear hK K Q'
    go_wp2_with fail
    go_ret
    (try rw [World.patch_patch])
    refine Does.of (GW.pt ⟨g.own, _⟩ _) rfl rfl (Mod.pt (Mod.st Mod.self HO.out) _) ?_
    rw [HT.out]
    exact CoilAt.pt ⟨HB.out.set 2 _, HK.out⟩ _
  · replace c1 : g.w.cell? ⟨b, 1, none⟩ = some (.int .i64 1) := c1
    have HT := Lib.hid (show CoilS.lays ⟨size, 1, u0, u1, kept⟩ n = ⟨size, 1, u0, u1 + n, kept⟩ from rfl)
    rw [HT.out] at HK
    go_enter Tryz.func146, Tryz.ntmps146
    go_wp2_with fail
    refine wp_region_mixed [true, true, true, true, true, true, true, true, true, true] 0 10 (by kernel_rfl) (by kernel_rfl) (by kernel_rfl) ?_ (by decide) (by decide) (by decide) (by kernel_rfl) ?_
    · intro c a d v w h; cases d <;> exact h
    intro X00
    simp only [pickOps]
    repeat (go_big_quiet_step (fail))
    refine wpQuiet_nil (fun X0 => ?_)
    clear X00
    refine wpAnyM_done (by kernel_rfl) (fun X0' => ?_) _
    go_wp2_with fail
    refine wp_region_mixed [true, true, true, true, true, true, true, true, true, true, true, true, true, true, false] 1 14 (by kernel_rfl) (by kernel_rfl) (by kernel_rfl) ?_ (by decide) (by decide) (by decide) (by kernel_rfl) ?_
    · intro c a d v w h; cases d <;> exact h
    intro X00
    simp only [pickOps]
    repeat (go_big_quiet_step (fail))
    refine wpQuiet_nil (fun X0 => ?_)
    clear X00
    refine wpAnyM_last 14 _ (by kernel_rfl) (by kernel_rfl) rfl rfl (fun X1 K Q' hK => ?_)
    go_simp
    refine hK _ _ (fun X2 => ?_)
    clear hK K Q'
    go_wp2_with fail
    go_ret
    (try rw [World.patch_patch])
    refine Does.of (GW.pt ⟨g.own, _⟩ _) rfl rfl (Mod.pt (Mod.st Mod.self HO.out) _) ?_
    rw [HT.out]
    exact CoilAt.pt ⟨HB.out.set 3 _, HK.out⟩ _
theorem CoilS.Ok.take {c : CoilS} (h : c.Ok) {n : Int} (hn : c.takeable n = true) : (c.lays n).Ok := by
  obtain ⟨size, cur, u0, u1, kept⟩ := c
  obtain ⟨o1, o2, o3, o4, o5, o6⟩ := h
  have hn' : 1 ≤ n ∧ n ≤ CoilS.room ⟨size, cur, u0, u1, kept⟩ := by simpa [CoilS.takeable] using hn
  obtain ⟨hn1, hn2⟩ := hn'
  unfold CoilS.room at hn2
  simp only at o1 o2 o3 o4 o5 o6 hn2
  rcases (show cur = 0 ∨ cur = 1 by omega) with rfl | rfl
  · have e : CoilS.used ⟨size, 0, u0, u1, kept⟩ 0 = u0 := rfl
    rw [e] at o6 hn2
    exact ⟨by show 0 < 2; decide, o2, ⟨by show 0 ≤ u0 + n; omega, by show u0 + n ≤ 2048; omega⟩, o4, o5, by show u0 + n + kept ≤ size; omega⟩
  · have e : CoilS.used ⟨size, 1, u0, u1, kept⟩ 1 = u1 := rfl
    rw [e] at o6 hn2
    exact ⟨by show 1 < 2; decide, o2, o3, ⟨by show 0 ≤ u1 + n; omega, by show u1 + n ≤ 2048; omega⟩, o5, by show u1 + n + kept ≤ size; omega⟩
theorem CoilS.takenAt_no {c : CoilS} {n : Int} (h : c.takeable n = false) : c.takenAt n = 0 := by unfold CoilS.takenAt; rw [h]; rfl
theorem CoilS.takenAt_yes {c : CoilS} {n : Int} (h : c.takeable n = true) : c.takenAt n = c.used c.cur := by unfold CoilS.takenAt; rw [h]; rfl
theorem CoilS.copiedAt_no {c : CoilS} {n : Int} (h : c.skippable n = false) : c.copiedAt n = 0 := by unfold CoilS.copiedAt; rw [h]; rfl
theorem CoilS.copiedAt_yes {c : CoilS} {n : Int} (h : c.skippable n = true) : c.copiedAt n = c.used c.cur := by unfold CoilS.copiedAt; rw [h]; rfl
theorem coil_take (g : GW) (t b : Nat) (n : Int) (c : CoilS) (h : CoilAt g t b c) (hn : n ≤ 1099511627776) :
    Calls Tryz.prog 177 #[.pointer (some ⟨b, 0, none⟩), .int .i64 n] g.w (Does (.tuple #[.int .i64 (c.takenAt n), .bool (c.takeable n)]) g (fun x => x = t) (fun g' => CoilAt g' t b (c.take n))) := by
  have H := Lib.hid h
  by_cases h1 : n < 1
  · have HV := Lib.hid (show c.takeable n = false by unfold CoilS.takeable; simp; omega)
    have HT := Lib.hid (show c.take n = c by unfold CoilS.take; rw [HV.out]; try rfl)
    clear h
    go_enter Tryz.func177, Tryz.ntmps177
    go_wp2_with fail
    go_ret2
    exact Does.of g rfl (by rw [CoilS.takenAt_no HV.out, HV.out]; try rfl) (Mod.refl _ _) (by rw [HT.out]; exact H.out)
  · have HR := Lib.hid (coil_room g t b c h)
    by_cases h2 : c.room < n
    · have HV := Lib.hid (show c.takeable n = false by unfold CoilS.takeable; simp; omega)
      have HT := Lib.hid (show c.take n = c by unfold CoilS.take; rw [HV.out]; try rfl)
      generalize c.room = rm at *
      clear h
      go_enter Tryz.func177, Tryz.ntmps177
      go_wp2_with fail
      refine (HR.out).mono ?_
      rintro e w1 ⟨rfl, X1, rfl⟩
      go_wp2_with fail
      go_ret2
      exact Does.ext g (by (repeat (first | (with_reducible assumption) | (with_reducible exact Ext.refl _) | (with_reducible exact Ext.more _ _ _ _) | apply Ext.alloc | refine Ext.setCell ?_ (by first | exact Nat.le_refl _ | exact Nat.le_add_right _ _ | assumption) _ | apply Ext.patch | apply Ext.drew | apply Ext.drewN))) (by rw [CoilS.takenAt_no HV.out, HV.out]; try rfl) (Mod.refl _ _) (fun g2 m => by rw [HT.out]; exact H.out.keep m id)
    · have hv : c.takeable n = true := by unfold CoilS.takeable; simp; omega
      have hok := CoilS.Ok.take h.ok hv
      have hrm : c.room ≤ 4096 := by
        obtain ⟨o1, ⟨_, _⟩, ⟨_, _⟩, ⟨_, _⟩, ⟨_, _⟩, o6⟩ := h.ok
        unfold CoilS.room CoilS.used
        split <;> omega
      have HL := Lib.hid (fun X => coil_lays (g.pt X) t b n c (h.pt X) (by omega) hok)
      have HV := Lib.hid hv
      have HT := Lib.hid (show c.take n = c.lays n by unfold CoilS.take; rw [HV.out]; try rfl)
      have h2' : n ≤ c.room := by omega
      generalize c.room = rm at *
      clear h hok hv h2
      go_enter Tryz.func177, Tryz.ntmps177
      go_wp2_with fail
      refine (HR.out).mono ?_
      rintro e w1 ⟨rfl, X1, rfl⟩
      go_wp2_with fail
      refine (HL.out X1).mono ?_
      rintro e w1 ⟨rfl, own1, m1, a1⟩
      have M := Lib.hid m1
      have Q := Lib.hid a1
      clear m1 a1
      go_wp2_with fail
      go_ret2
      exact Does.of ⟨own1, _⟩ rfl (by rw [CoilS.takenAt_yes HV.out, HV.out]; try rfl) (Mod.trans (Mod.pt (Mod.refl _ _) _) M.out) (by rw [HT.out]; exact Q.out)
theorem coil_turn (g : GW) (t b : Nat) (c : CoilS) (h : CoilAt g t b c) :
    Calls Tryz.prog 134 #[.pointer (some ⟨b, 0, none⟩)] g.w (Does (.bool c.turnable) g (fun x => x = t) (fun g' => CoilAt g' t b c.turn)) := by
  have c0 := h.blk.cell (i := 0) rfl
  have c1 := h.blk.cell (i := 1) rfl
  have c2 := h.blk.cell (i := 2) rfl
  have c3 := h.blk.cell (i := 3) rfl
  have c4 := h.blk.cell (i := 4) rfl
  have f1 := h.blk.live 1
  have f4 := h.blk.live 4
  have hbl := h.blk.lt
  obtain ⟨o1, ⟨_, _⟩, ⟨_, _⟩, ⟨_, _⟩, ⟨_, _⟩, o6⟩ := h.ok
  have HO := Lib.hid h.blk.own
  have HB := Lib.hid h.blk
  have H := Lib.hid h
  clear h
  obtain ⟨size, cur, u0, u1, kept⟩ := c
  simp only at *
  rcases (show cur = 0 ∨ cur = 1 by omega) with rfl | rfl
  · replace c1 : g.w.cell? ⟨b, 1, none⟩ = some (.int .i64 0) := c1
    by_cases hz : 0 < u1
    · have HV := Lib.hid (show CoilS.turnable ⟨size, 0, u0, u1, kept⟩ = false by unfold CoilS.turnable CoilS.used; simp; omega)
      have HT := Lib.hid (show CoilS.turn ⟨size, 0, u0, u1, kept⟩ = ⟨size, 0, u0, u1, kept⟩ by unfold CoilS.turn; rw [HV.out]; try rfl)
      have hd : decide (0 < u1) = true := decide_eq_true hz
      clear o6
      go_enter Tryz.func134, Tryz.ntmps134
      go_wp2_with fail
      refine wp_region_mixed [true, true, true, true, true, true, true, true, true, true, true] 0 11 (by kernel_rfl) (by kernel_rfl) (by kernel_rfl) ?_ (by decide) (by decide) (by decide) (by kernel_rfl) ?_
      · intro c a d v w h; cases d <;> exact h
      intro X00
      simp only [pickOps]
      repeat (go_big_quiet_step (fail))
      refine wpQuiet_nil (fun X0 => ?_)
      clear X00
      refine wpAnyM_done (by kernel_rfl) (fun X0' => ?_) _
      go_wp2_with fail
      go_ret
      exact Does.ext g (by (repeat (first | (with_reducible assumption) | (with_reducible exact Ext.refl _) | (with_reducible exact Ext.more _ _ _ _) | apply Ext.alloc | refine Ext.setCell ?_ (by first | exact Nat.le_refl _ | exact Nat.le_add_right _ _ | assumption) _ | apply Ext.patch | apply Ext.drew | apply Ext.drewN))) (by rw [HV.out]; try rfl) (Mod.refl _ _) (fun g2 m => by rw [HT.out]; exact H.out.keep m id)
    · have HV := Lib.hid (show CoilS.turnable ⟨size, 0, u0, u1, kept⟩ = true by unfold CoilS.turnable CoilS.used; simp; omega)
      have HT := Lib.hid (show CoilS.turn ⟨size, 0, u0, u1, kept⟩ = ⟨size, 1, u0, u1, u0⟩ by unfold CoilS.turn; rw [HV.out]; try rfl)
      have HK := Lib.hid (show CoilS.Ok ⟨size, 1, u0, u1, u0⟩ from ⟨by simp, by simp only; omega, by simp only; omega, by simp only; omega, by simp only; omega, by simp only [CoilS.used, if_true, if_false, Nat.one_ne_zero] at *; omega⟩)
      have hd : decide (0 < u1) = false := decide_eq_false hz
      clear o6
      go_enter Tryz.func134, Tryz.ntmps134
      go_wp2_with fail
      refine wp_region_mixed [true, true, true, true, true, true, true, true, true, true, true] 0 11 (by kernel_rfl) (by kernel_rfl) (by kernel_rfl) ?_ (by decide) (by decide) (by decide) (by kernel_rfl) ?_
      · intro c a d v w h; cases d <;> exact h
      intro X00
      simp only [pickOps]
      repeat (go_big_quiet_step (fail))
      refine wpQuiet_nil (fun X0 => ?_)
      clear X00
      refine wpAnyM_done (by kernel_rfl) (fun X0' => ?_) _
      go_wp2_with fail
      refine wp_region_mixed [true, true, true, true, true, true, true, true, true, true, true, true, false] 1 12 (by kernel_rfl) (by kernel_rfl) (by kernel_rfl) ?_ (by decide) (by decide) (by decide) (by kernel_rfl) ?_
      · intro c a d v w h; cases d <;> exact h
      intro X00
      simp only [pickOps]
      repeat (go_big_quiet_step (fail))
      refine wpQuiet_nil (fun X0 => ?_)
      clear X00
      refine wpAnyM_last 12 _ (by kernel_rfl) (by kernel_rfl) rfl rfl (fun X1 K Q' hK => ?_)
      go_simp
      refine hK _ _ (fun X2 => ?_)
      clear hK K Q'
      go_wp2_with fail
      go_ret
      (try rw [World.patch_patch])
      refine Does.of (GW.pt ⟨g.own, _⟩ _) rfl (by rw [HV.out]; try rfl) (Mod.pt (Mod.st (Mod.st Mod.self HO.out) HO.out) _) ?_
      rw [HT.out]
      exact CoilAt.pt ⟨(HB.out.set 4 _).set 1 _, HK.out⟩ _
  · replace c1 : g.w.cell? ⟨b, 1, none⟩ = some (.int .i64 1) := c1
    by_cases hz : 0 < u0
    · have HV := Lib.hid (show CoilS.turnable ⟨size, 1, u0, u1, kept⟩ = false by unfold CoilS.turnable CoilS.used; simp; omega)
      have HT := Lib.hid (show CoilS.turn ⟨size, 1, u0, u1, kept⟩ = ⟨size, 1, u0, u1, kept⟩ by unfold CoilS.turn; rw [HV.out]; try rfl)
      have hd : decide (0 < u0) = true := decide_eq_true hz
      clear o6
      go_enter Tryz.func134, Tryz.ntmps134
      go_wp2_with fail
      refine wp_region_mixed [true, true, true, true, true, true, true, true, true, true, true] 0 11 (by kernel_rfl) (by kernel_rfl) (by kernel_rfl) ?_ (by decide) (by decide) (by decide) (by kernel_rfl) ?_
      · intro c a d v w h; cases d <;> exact h
      intro X00
      simp only [pickOps]
      repeat (go_big_quiet_step (fail))
      refine wpQuiet_nil (fun X0 => ?_)
      clear X00
      refine wpAnyM_done (by kernel_rfl) (fun X0' => ?_) _
      go_wp2_with fail
      go_ret
      exact Does.ext g (by (repeat (first | (with_reducible assumption) | (with_reducible exact Ext.refl _) | (with_reducible exact Ext.more _ _ _ _) | apply Ext.alloc | refine Ext.setCell ?_ (by first | exact Nat.le_refl _ | exact Nat.le_add_right _ _ | assumption) _ | apply Ext.patch | apply Ext.drew | apply Ext.drewN))) (by rw [HV.out]; try rfl) (Mod.refl _ _) (fun g2 m => by rw [HT.out]; exact H.out.keep m id)
    · have HV := Lib.hid (show CoilS.turnable ⟨size, 1, u0, u1, kept⟩ = true by unfold CoilS.turnable CoilS.used; simp; omega)
      have HT := Lib.hid (show CoilS.turn ⟨size, 1, u0, u1, kept⟩ = ⟨size, 0, u0, u1, u1⟩ by unfold CoilS.turn; rw [HV.out]; try rfl)
      have HK := Lib.hid (show CoilS.Ok ⟨size, 0, u0, u1, u1⟩ from ⟨by simp, by simp only; omega, by simp only; omega, by simp only; omega, by simp only; omega, by simp only [CoilS.used, if_true, if_false, Nat.one_ne_zero] at *; omega⟩)
      have hd : decide (0 < u0) = false := decide_eq_false hz
      clear o6
      go_enter Tryz.func134, Tryz.ntmps134
      go_wp2_with fail
      refine wp_region_mixed [true, true, true, true, true, true, true, true, true, true, true] 0 11 (by kernel_rfl) (by kernel_rfl) (by kernel_rfl) ?_ (by decide) (by decide) (by decide) (by kernel_rfl) ?_
      · intro c a d v w h; cases d <;> exact h
      intro X00
      simp only [pickOps]
      repeat (go_big_quiet_step (fail))
      refine wpQuiet_nil (fun X0 => ?_)
      clear X00
      refine wpAnyM_done (by kernel_rfl) (fun X0' => ?_) _
      go_wp2_with fail
      refine wp_region_mixed [true, true, true, true, true, true, true, true, true, true, true, true, false] 1 12 (by kernel_rfl) (by kernel_rfl) (by kernel_rfl) ?_ (by decide) (by decide) (by decide) (by kernel_rfl) ?_
      · intro c a d v w h; cases d <;> exact h
      intro X00
      simp only [pickOps]
      repeat (go_big_quiet_step (fail))
      refine wpQuiet_nil (fun X0 => ?_)
      clear X00
      refine wpAnyM_last 12 _ (by kernel_rfl) (by kernel_rfl) rfl rfl (fun X1 K Q' hK => ?_)
      go_simp
      refine hK _ _ (fun X2 => ?_)
      clear hK K Q'
      go_wp2_with fail
      go_ret
      (try rw [World.patch_patch])
      refine Does.of (GW.pt ⟨g.own, _⟩ _) rfl (by rw [HV.out]; try rfl) (Mod.pt (Mod.st (Mod.st Mod.self HO.out) HO.out) _) ?_
      rw [HT.out]
      exact CoilAt.pt ⟨(HB.out.set 4 _).set 1 _, HK.out⟩ _
theorem CoilS.Ok.skip {c : CoilS} (h : c.Ok) {n : Int} (hn : c.skippable n = true) : CoilS.Ok { c with kept := c.kept - n } := by
  obtain ⟨size, cur, u0, u1, kept⟩ := c
  obtain ⟨o1, o2, o3, o4, o5, o6⟩ := h
  have hn' : 1 ≤ n ∧ n ≤ kept := by simpa [CoilS.skippable] using hn
  obtain ⟨hn1, hn2⟩ := hn'
  simp only at o1 o2 o3 o4 o5 o6
  have e : CoilS.used ⟨size, cur, u0, u1, kept - n⟩ cur = CoilS.used ⟨size, cur, u0, u1, kept⟩ cur := rfl
  exact ⟨o1, o2, o3, o4, ⟨by show 0 ≤ kept - n; omega, by show kept - n ≤ 2048; omega⟩, by show CoilS.used ⟨size, cur, u0, u1, kept - n⟩ cur + (kept - n) ≤ size; rw [e]; omega⟩
theorem coil_skip (g : GW) (t b : Nat) (n : Int) (c : CoilS) (h : CoilAt g t b c) :
    Calls Tryz.prog 77 #[.pointer (some ⟨b, 0, none⟩), .int .i64 n] g.w (Does (.bool (c.skippable n)) g (fun x => x = t) (fun g' => CoilAt g' t b (c.skip n))) := by
  have c4 := h.blk.cell (i := 4) rfl
  have f4 := h.blk.live 4
  have hbl := h.blk.lt
  obtain ⟨o1, ⟨_, _⟩, ⟨_, _⟩, ⟨_, _⟩, ⟨hk0, hk1⟩, o6⟩ := h.ok
  have HO := Lib.hid h.blk.own
  have H := Lib.hid h
  clear h o6
  by_cases h1 : n < 1
  · have HV := Lib.hid (show c.skippable n = false by unfold CoilS.skippable; simp; omega)
    have HT := Lib.hid (show c.skip n = c by unfold CoilS.skip; rw [HV.out]; try rfl)
    go_enter Tryz.func77, Tryz.ntmps77
    go_wp2_with fail
    go_ret
    exact Does.of g rfl (by rw [HV.out]; try rfl) (Mod.refl _ _) (by rw [HT.out]; exact H.out)
  · by_cases h2 : c.kept < n
    · have HV := Lib.hid (show c.skippable n = false by unfold CoilS.skippable; simp; omega)
      have HT := Lib.hid (show c.skip n = c by unfold CoilS.skip; rw [HV.out]; try rfl)
      go_enter Tryz.func77, Tryz.ntmps77
      go_wp2_with fail
      go_ret
      exact Does.of g rfl (by rw [HV.out]; try rfl) (Mod.refl _ _) (by rw [HT.out]; exact H.out)
    · have HV := Lib.hid (show c.skippable n = true by unfold CoilS.skippable; simp; omega)
      have HT := Lib.hid (show c.skip n = { c with kept := c.kept - n } by unfold CoilS.skip; rw [HV.out]; try rfl)
      have HK := Lib.hid (CoilS.Ok.skip H.out.ok HV.out)
      go_enter Tryz.func77, Tryz.ntmps77
      go_wp2_with fail
      go_ret
      refine Does.of ⟨g.own, _⟩ rfl (by rw [HV.out]; try rfl) (Mod.st Mod.self HO.out) ?_
      rw [HT.out]
      exact ⟨H.out.blk.set 4 _, HK.out⟩
theorem CoilS.Ok.copy {c : CoilS} (h : c.Ok) {n : Int} (hn : c.skippable n = true) : (CoilS.lays { c with kept := c.kept - n } n).Ok := by
  obtain ⟨size, cur, u0, u1, kept⟩ := c
  obtain ⟨o1, o2, o3, o4, o5, o6⟩ := h
  have hn' : 1 ≤ n ∧ n ≤ kept := by simpa [CoilS.skippable] using hn
  obtain ⟨hn1, hn2⟩ := hn'
  simp only at o1 o2 o3 o4 o5 o6
  rcases (show cur = 0 ∨ cur = 1 by omega) with rfl | rfl
  · have e : CoilS.used ⟨size, 0, u0, u1, kept⟩ 0 = u0 := rfl
    rw [e] at o6
    exact ⟨by show 0 < 2; decide, o2, ⟨by show 0 ≤ u0 + n; omega, by show u0 + n ≤ 2048; omega⟩, o4, ⟨by show 0 ≤ kept - n; omega, by show kept - n ≤ 2048; omega⟩, by show u0 + n + (kept - n) ≤ size; omega⟩
  · have e : CoilS.used ⟨size, 1, u0, u1, kept⟩ 1 = u1 := rfl
    rw [e] at o6
    exact ⟨by show 1 < 2; decide, o2, o3, ⟨by show 0 ≤ u1 + n; omega, by show u1 + n ≤ 2048; omega⟩, ⟨by show 0 ≤ kept - n; omega, by show kept - n ≤ 2048; omega⟩, by show u1 + n + (kept - n) ≤ size; omega⟩
theorem coil_copy (g : GW) (t b : Nat) (n : Int) (c : CoilS) (h : CoilAt g t b c) :
    Calls Tryz.prog 79 #[.pointer (some ⟨b, 0, none⟩), .int .i64 n] g.w (Does (.tuple #[.int .i64 (c.copiedAt n), .bool (c.skippable n)]) g (fun x => x = t) (fun g' => CoilAt g' t b (c.copy n))) := by
  have HS := Lib.hid (coil_skip g t b n c h)
  have H := Lib.hid h
  clear h
  cases hv : c.skippable n
  · rw [hv] at HS
    have HC := Lib.hid (CoilS.copiedAt_no hv)
    have HT := Lib.hid (show c.copy n = c by unfold CoilS.copy; rw [hv]; rfl)
    have HT2 := Lib.hid (show c.skip n = c by unfold CoilS.skip; rw [hv]; rfl)
    clear hv
    go_enter Tryz.func79, Tryz.ntmps79
    go_wp2_with fail
    refine HS.out.mono ?_
    rintro e w1 ⟨rfl, own1, m1, a1⟩
    have M := Lib.hid m1
    have Q := Lib.hid a1
    clear m1 a1
    go_wp2_with fail
    go_ret2
    exact Does.of ⟨own1, _⟩ rfl (by rw [HC.out]; try rfl) M.out (by rw [HT.out, ← HT2.out]; exact Q.out)
  · rw [hv] at HS
    have HC := Lib.hid (CoilS.copiedAt_yes hv)
    have hk := H.out.ok.bk
    have hb : 1 ≤ n ∧ n ≤ c.kept := by simpa [CoilS.skippable] using hv
    have HT := Lib.hid (show c.copy n = (c.skip n).lays n by unfold CoilS.copy; rw [hv]; rfl)
    have HT2 := Lib.hid (show c.skip n = { c with kept := c.kept - n } by unfold CoilS.skip; rw [hv]; rfl)
    have HL := Lib.hid (fun (g' : GW) (ha : CoilAt g' t b (c.skip n)) => coil_lays g' t b n (c.skip n) ha (by omega) (by rw [HT2.out]; exact CoilS.Ok.copy H.out.ok hv))
    have HU := Lib.hid (show (c.skip n).used (c.skip n).cur = c.used c.cur by rw [HT2.out]; rfl)
    rw [HU.out] at HL
    clear hv hb hk
    go_enter Tryz.func79, Tryz.ntmps79
    go_wp2_with fail
    refine HS.out.mono ?_
    rintro e w1 ⟨rfl, own1, m1, a1⟩
    have M := Lib.hid m1
    have Q := Lib.hid a1
    clear m1 a1
    go_wp2_with fail
    refine (HL.out ⟨own1, w1⟩ Q.out).mono ?_
    rintro e w2 ⟨rfl, own2, m2, a2⟩
    have M2 := Lib.hid m2
    have Q2 := Lib.hid a2
    clear m2 a2
    go_wp2_with fail
    go_ret2
    exact Does.of ⟨own2, _⟩ rfl (by rw [HC.out]; try rfl) (Mod.trans M.out M2.out) (by rw [HT.out]; exact Q2.out)

def CoilMade (n : Int) (t : Nat) (g : GW) (e : Ending) (w' : World) : Prop :=
  if 0 ≤ n ∧ n ≤ 2048 then ∃ own' b, e = .returned (.tuple #[.pointer (some ⟨b, 0, none⟩), .int .i64 0]) ∧ Mod (fun _ => False) g ⟨own', w'⟩ ∧ CoilAt ⟨own', w'⟩ t b ⟨n, 0, 0, 0, 0⟩
  else e = .returned (.tuple #[.pointer none, .int .i64 1]) ∧ Ext g.w w'
theorem coil_new (n : Int) (t : Nat) (g : GW) : Calls Tryz.prog 46 #[.int .i64 n] g.w (CoilMade n t g) := by
  by_cases h0 : n < 0
  · have HV := Lib.hid (show ¬ (0 ≤ n ∧ n ≤ 2048) by omega)
    go_enter Tryz.func46, Tryz.ntmps46
    go_wp2_with fail
    go_ret2
    unfold CoilMade
    rw [if_neg HV.out]
    exact ⟨rfl, Ext.refl _⟩
  by_cases h1 : 2048 < n
  · have HV := Lib.hid (show ¬ (0 ≤ n ∧ n ≤ 2048) by omega)
    go_enter Tryz.func46, Tryz.ntmps46
    go_wp2_with fail
    go_ret2
    unfold CoilMade
    rw [if_neg HV.out]
    exact ⟨rfl, Ext.refl _⟩
  have HV := Lib.hid (show (0 : Int) ≤ n ∧ n ≤ 2048 by omega)
  go_enter Tryz.func46, Tryz.ntmps46
  go_wp2_with fail
  go_ret2
  unfold CoilMade
  rw [if_pos HV.out]
  obtain ⟨_, _⟩ := HV.out
  exact ⟨_, _, rfl, Mod.ext (show Ext g.w _ by (repeat (first | (with_reducible assumption) | (with_reducible exact Ext.refl _) | (with_reducible exact Ext.more _ _ _ _) | apply Ext.alloc | refine Ext.setCell ?_ (by first | exact Nat.le_refl _ | exact Nat.le_add_right _ _ | assumption) _ | apply Ext.patch | apply Ext.drew | apply Ext.drewN))) t, Blk.made (World.row_alloc_new _) (Nat.le_refl _), ⟨by simp, by simp only; omega, by simp, by simp, by simp, by simp [CoilS.used]; omega⟩⟩
end Go.Proofs.YthdijbkcjmeilaaGreat
