/-
  coil: Left, Done.
-/
import Derived.Test.YtmgkfpmmlibmcaaCoil
namespace Go.Proofs.Ytmgkfpmmlibmcaa
open Go Go.RowKit
set_option linter.unusedVariables false
set_option linter.unnecessarySimpa false
set_option linter.unusedSimpArgs false
set_option maxHeartbeats 2000000
theorem coil_left (g : GW) (t b : Nat) (c : CoilS) (h : CoilAt g t b c) :
    Calls Try.prog 55 #[.pointer (some ⟨b, 0, none⟩)] g.w (fun e w' => e = .returned (.int .i64 c.kept) ∧ g.w = w') := by
  have c4 := h.blk.cell (i := 4) rfl
  clear h
  go_enter Try.func55, Try.ntmps55
  go_wp2_with fail
  go_ret
  exact ⟨rfl, rfl⟩
theorem coil_done (g : GW) (t b : Nat) (c : CoilS) (h : CoilAt g t b c) (hk : c.kept ≤ 0) :
    Calls Try.prog 51 #[.pointer (some ⟨b, 0, none⟩)] g.w (Does (.bool true) g (fun x => x = t) (fun g' => CoilAt g' t b c.done)) := by
  have c0 := h.blk.cell (i := 0) rfl
  have c1 := h.blk.cell (i := 1) rfl
  have c2 := h.blk.cell (i := 2) rfl
  have c3 := h.blk.cell (i := 3) rfl
  have c4 := h.blk.cell (i := 4) rfl
  have f2 := h.blk.live 2
  have f3 := h.blk.live 3
  have hbl := h.blk.lt
  obtain ⟨o1, ⟨_, _⟩, ⟨_, _⟩, ⟨_, _⟩, ⟨_, _⟩, o6⟩ := h.ok
  have HO := Lib.hid h.blk.own
  have HB := Lib.hid h.blk
  have H := Lib.hid h
  clear h
  obtain ⟨size, cur, u0, u1, kept⟩ := c
  simp only at *
  have hd : decide (0 < kept) = false := decide_eq_false (by omega)
  rcases (show cur = 0 ∨ cur = 1 by omega) with rfl | rfl
  · replace c1 : g.w.cell? ⟨b, 1, none⟩ = some (.int .i64 0) := c1
    have HT := Lib.hid (show CoilS.done ⟨size, 0, u0, u1, kept⟩ = ⟨size, 0, u0, 0, kept⟩ by unfold CoilS.done CoilS.doneable; simp only; rw [if_pos (decide_eq_true hk)]; rfl)
    have HK := Lib.hid (show CoilS.Ok ⟨size, 0, u0, 0, kept⟩ from ⟨by simp, by simp only; omega, by simp only; omega, by simp only; omega, by simp only; omega, by simp only [CoilS.used, if_true, if_false, Nat.one_ne_zero] at *; omega⟩)
    clear o6
    go_enter Try.func51, Try.ntmps51
    go_wp2_with fail
    refine wp_region_mixed [true, true, true, true, true, true, true, true, true, false] 1 9 (by kernel_rfl) (by kernel_rfl) (by kernel_rfl) ?_ (by decide) (by decide) (by decide) (by kernel_rfl) ?_
    · intro c a d v w h; cases d <;> exact h
    intro X00
    simp only [pickOps]
    repeat (go_big_quiet_step (fail))
    refine wpQuiet_nil (fun X0 => ?_)
    clear X00
    refine wpAnyM_last 9 _ (by kernel_rfl) (by kernel_rfl) rfl rfl (fun X1 K Q' hK => ?_)
    go_simp
    refine hK _ _ (fun X2 => ?_)
    clear hK K Q'
    go_wp2_with fail
    go_ret
    (try rw [World.patch_patch])
    refine Does.of (GW.pt ⟨g.own, _⟩ _) rfl rfl (Mod.pt (Mod.st Mod.self HO.out) _) ?_
    rw [HT.out]
    exact CoilAt.pt ⟨HB.out.set 3 _, HK.out⟩ _
  · replace c1 : g.w.cell? ⟨b, 1, none⟩ = some (.int .i64 1) := c1
    have HT := Lib.hid (show CoilS.done ⟨size, 1, u0, u1, kept⟩ = ⟨size, 1, 0, u1, kept⟩ by unfold CoilS.done CoilS.doneable; simp only; rw [if_pos (decide_eq_true hk)]; rfl)
    have HK := Lib.hid (show CoilS.Ok ⟨size, 1, 0, u1, kept⟩ from ⟨by simp, by simp only; omega, by simp only; omega, by simp only; omega, by simp only; omega, by simp only [CoilS.used, if_true, if_false, Nat.one_ne_zero] at *; omega⟩)
    clear o6
    go_enter Try.func51, Try.ntmps51
    go_wp2_with fail
    refine wp_region_mixed [true, true, true, true, true, true, true, true, true, false] 1 9 (by kernel_rfl) (by kernel_rfl) (by kernel_rfl) ?_ (by decide) (by decide) (by decide) (by kernel_rfl) ?_
    · intro c a d v w h; cases d <;> exact h
    intro X00
    simp only [pickOps]
    repeat (go_big_quiet_step (fail))
    refine wpQuiet_nil (fun X0 => ?_)
    clear X00
    refine wpAnyM_last 9 _ (by kernel_rfl) (by kernel_rfl) rfl rfl (fun X1 K Q' hK => ?_)
    go_simp
    refine hK _ _ (fun X2 => ?_)
    clear hK K Q'
    go_wp2_with fail
    go_ret
    (try rw [World.patch_patch])
    refine Does.of (GW.pt ⟨g.own, _⟩ _) rfl rfl (Mod.pt (Mod.st Mod.self HO.out) _) ?_
    rw [HT.out]
    exact CoilAt.pt ⟨HB.out.set 2 _, HK.out⟩ _
end Go.Proofs.Ytmgkfpmmlibmcaa
