/-
  core: Count; space.Wants; spolaw22.first.
-/
import Derived.Test.YthebmcbpmboblaaCore
namespace Go.Proofs.Ythebmcbpmboblaa
open Go Go.RowKit
set_option linter.unusedVariables false
set_option linter.unnecessarySimpa false
set_option linter.unusedSimpArgs false
set_option maxHeartbeats 4000000
def CoreS.count (K : CoreS) : Int := K.mem.count + K.n + K.sp.count + K.hand.count
theorem core_count (g : GW) (B b : Nat) (K : CoreS) (h : CoreAt g B b K) (h1 : 0 ≤ K.mem.count ∧ K.mem.count ≤ 1099511627776) (h2 : 0 ≤ K.n ∧ K.n ≤ 1099511627776) (h3 : 0 ≤ K.sp.count ∧ K.sp.count ≤ 1099511627776) (h4 : 0 ≤ K.hand.count ∧ K.hand.count ≤ 1099511627776) :
    Calls Try.prog 20 #[.pointer (some ⟨b, 0, none⟩)] g.w (Gives (.int .i64 (CoreS.count K)) g.w) := by
  obtain ⟨bm, bs, bt, bp, bsp, bh, cm, h⟩ := h
  obtain ⟨_, _⟩ := h1
  obtain ⟨_, _⟩ := h2
  obtain ⟨_, _⟩ := h3
  obtain ⟨_, _⟩ := h4
  have H := Lib.hid h
  have HV := Lib.hid (show CoreS.count K = K.mem.count + K.n + K.sp.count + K.hand.count from rfl)
  have HM := Lib.hid (fun X => same_gives (mem_count (g.pt X) (B + 62) bm K.mem (H.out.mem.pt X)))
  have HS := Lib.hid (fun X => same_gives (shade_count (g.pt X) (B + 60) bs bt bp K.n (H.out.sh.pt X)))
  have HP := Lib.hid (fun X => same_gives (space_count (g.pt X) B bsp bt K.sp (H.out.sp.keep (Mod.pt (Mod.refl (fun _ => False) _) X) (fun x hx => hx.elim))))
  have HH := Lib.hid (fun X => same_gives (hand_count (g.pt X) (B + 63) bh K.hand (H.out.hand.keep (Mod.pt (Mod.refl (fun _ => False) _) X) id)))
  have a0 := h.blk.cell (i := 0) rfl
  have a1 := h.blk.cell (i := 1) rfl
  have a2 := h.blk.cell (i := 2) rfl
  have a3 := h.blk.cell (i := 3) rfl
  have a4 := h.blk.cell (i := 4) rfl
  have a5 := h.blk.cell (i := 5) rfl
  have a6 := h.blk.cell (i := 6) rfl
  have a7 := h.blk.cell (i := 7) rfl
  have a8 := h.blk.cell (i := 8) rfl
  have a9 := h.blk.cell (i := 9) rfl
  have a10 := h.blk.cell (i := 10) rfl
  have a11 := h.blk.cell (i := 11) rfl
  have a12 := h.blk.cell (i := 12) rfl
  have al := h.blk.lt
  (try simp only [GW.to] at a0 a1 a2 a3 a4 a5 a6 a7 a8 a9 a10 a11 a12 al)
  clear h
  generalize CoreS.count K = v at *
  generalize K.mem.count = x1 at *
  generalize K.n = x2 at *
  generalize K.sp.count = x3 at *
  generalize K.hand.count = x4 at *
  go_enter Try.func20, Try.ntmps20
  go_wp2_with fail
  refine wp_region_mixed [true, true, true, true, true, true, true, true, true, true, true, true, true, true, true, true, true, true, true, true, true, true, true, true] 0 24 (by kernel_rfl) (by kernel_rfl) (by kernel_rfl) ?_ (by decide) (by decide) (by decide) (by kernel_rfl) ?_
  · intro c a d v w h; cases d <;> exact h
  intro X00
  simp only [pickOps]
  repeat (go_big_quiet_step (first | (go_at_call 90; exact Calls.added (HM.out _)) | (go_at_call 91; exact Calls.added (HS.out _)) | (go_at_call 92; exact Calls.added (HP.out _)) | (go_at_call 93; exact Calls.added (HH.out _))))
  refine wpQuiet_nil (fun X0 => ?_)
  clear X00
  refine wpAnyM_done (by kernel_rfl) (fun X0' => ?_) _
  go_wp2_with fail
  go_ret
  exact Gives.int (by rw [HV.out]) (by (repeat (first | (with_reducible assumption) | (with_reducible exact Ext.refl _) | (with_reducible exact Ext.more _ _ _ _) | apply Ext.alloc | refine Ext.setCell ?_ (by first | exact Nat.le_refl _ | exact Nat.le_add_right _ _ | assumption) _ | apply Ext.patch | apply Ext.drew | apply Ext.drewN)))
/-- Nothing is wanted where nobody waits and enough is free. -/
theorem space_wants_no (g : GW) (B b bt : Nat) (S : SpaceS) (h : SpaceAt g B b bt S) (hB : 100 ≤ B) (hc : 0 ≤ S.count ∧ S.count ≤ 1099511627776) (h1 : Ent.wait S.line = 0) (h2 : S.c.low ≤ (S.pool.free : Int)) (h3 : S.forced = false) :
    Calls Try.prog 69 #[.pointer (some ⟨b, 0, none⟩)] g.w (Does (.bool false) g (inst B) (fun g' => SpaceAt g' B b bt S.tick)) := by
  obtain ⟨bp, bk, bl, A, cs, cm, bs, h⟩ := h
  obtain ⟨hc0, hc1⟩ := hc
  have M0 := Lib.hid (show Mod (inst B) g ⟨g.own, g.w.setCell ⟨b, 3, none⟩ (.int .i64 (S.count + 1))⟩ from Mod.set (by rw [h.blk.own]; exact ⟨by omega, by omega⟩))
  have H0 := Lib.hid (show SpaceIn ⟨g.own, g.w.setCell ⟨b, 3, none⟩ (.int .i64 (S.count + 1))⟩ B b bt S.tick bp bk bl A cs cm bs from h.tick)
  have hlow : cm.low ≤ (S.pool.free : Int) := by rw [h.same.low]; exact h2
  have HW := Lib.hid (fun X => (show Calls Try.prog 66 #[shelves cm bp bk bl] ((⟨g.own, g.w.setCell ⟨b, 3, none⟩ (.int .i64 (S.count + 1))⟩ : GW).pt X).w (Gives (.int .i64 ((0 : Nat) : Int)) _) from h1 ▸ sh_waits _ (B + 3) cm bp bk bl _ (H0.out.line.keep (Mod.pt (Mod.refl (fun _ => False) _) X) id id)))
  have HR := Lib.hid (fun X => sh_free ((⟨g.own, g.w.setCell ⟨b, 3, none⟩ (.int .i64 (S.count + 1))⟩ : GW).pt X) (B + 1) cm bp bk bl S.pool (H0.out.pool.keep (Mod.pt (Mod.refl (fun _ => False) _) X) id))
  have hd : decide ((S.pool.free : Int) < cm.low) = false := decide_eq_false (by omega)
  have HS := Lib.hid h3
  have c3 := h.blk.cell (i := 3) rfl
  have f3 := h.blk.live 3
  have hbl := h.blk.lt
  have HB0 := H0.out.blk
  rw [show S.tick.forced = false from h3] at HB0
  have a0 := HB0.cell (i := 0) rfl
  have a1 := HB0.cell (i := 1) rfl
  have a2 := HB0.cell (i := 2) rfl
  have a3 := HB0.cell (i := 3) rfl
  have a4 := HB0.cell (i := 4) rfl
  have a5 := HB0.cell (i := 5) rfl
  have a6 := HB0.cell (i := 6) rfl
  have a7 := HB0.cell (i := 7) rfl
  have a8 := HB0.cell (i := 8) rfl
  have a9 := HB0.cell (i := 9) rfl
  have a10 := HB0.cell (i := 10) rfl
  have a11 := HB0.cell (i := 11) rfl
  have a12 := HB0.cell (i := 12) rfl
  have a13 := HB0.cell (i := 13) rfl
  have a14 := HB0.cell (i := 14) rfl
  have a15 := HB0.cell (i := 15) rfl
  have al := HB0.lt
  (try simp only [GW.to] at a0 a1 a2 a3 a4 a5 a6 a7 a8 a9 a10 a11 a12 a13 a14 a15 al)
  unfold shelves at HW HR
  clear h h1 h2 h3 HB0 hlow
  generalize S.pool.free = fr at *
  go_enter Try.func69, Try.ntmps69
  go_wp2_with fail
  refine wp_region_mixed [true, true, true, true, true, true, true, true, true, true, true, true, true, true, true, true, true, true, true, true, true, true, true, true, true, true, true] 0 27 (by kernel_rfl) (by kernel_rfl) (by kernel_rfl) ?_ (by decide) (by decide) (by decide) (by kernel_rfl) ?_
  · intro c a d v w h; cases d <;> exact h
  intro X00
  simp only [pickOps]
  repeat (go_big_quiet_step (first | (go_at_call 66; exact Calls.added (HW.out _)) | (go_at_call 25; exact Calls.added (HR.out _))))
  refine wpQuiet_nil (fun X0 => ?_)
  clear X00
  refine wpAnyM_done (by kernel_rfl) (fun X0' => ?_) _
  go_wp2_with fail
  go_ret
  exact Does.ext ⟨g.own, _⟩ (by (repeat (first | (with_reducible assumption) | (with_reducible exact Ext.refl _) | (with_reducible exact Ext.more _ _ _ _) | apply Ext.alloc | refine Ext.setCell ?_ (by first | exact Nat.le_refl _ | exact Nat.le_add_right _ _ | assumption) _ | apply Ext.patch | apply Ext.drew | apply Ext.drewN))) rfl M0.out (fun g2 m => ⟨_, _, _, _, _, _, _, H0.out.keep m (fun x hx => hx.elim)⟩)
def cOne (A : Option Addr) : Cnf := ⟨4, 0, 0, 1, 1, 0, 1, 0, A, 1, [⟨false, none, 0, []⟩]⟩
theorem cOne_check (A : Option Addr) : (cOne A).check = 0 := by rfl
def cNil : Cnf := ⟨0, 0, 0, 0, 0, 0, 0, 0, none, 0, []⟩
theorem cNil_check : cNil.check = 1 := by rfl
set_option maxRecDepth 100000 in
theorem first22_any (w : World) : Calls Try.prog 14 #[] w (Gives (.bool true) w) := by
  have q1 := World.row_alloc_new w (o := .cells #[.bool false, .slice none 0 0] 75)
  have hok : (cOne (some ⟨w.heap.size, 0, none⟩)).Ok (w.alloc (.cells #[.bool false, .slice none 0 0] 75)) :=
    ⟨CellsAt.mk (Array.getElem?_eq_some_iff.1 q1).1 (fun i v hi => by rw [Nat.zero_add]; exact row_cell (l := [.bool false, .slice none 0 0]) q1 hi), fun s hs => by rw [List.mem_singleton.1 hs]; exact ⟨CellsAt.nil _ _, by simp, by simp⟩, Nat.le_refl _, (show 1 ≤ 140737488355328 by decide)⟩
  have HE := Lib.hid (show Ext w (w.alloc (.cells #[.bool false, .slice none 0 0] 75)) by (repeat (first | (with_reducible assumption) | (with_reducible exact Ext.refl _) | (with_reducible exact Ext.more _ _ _ _) | apply Ext.alloc | refine Ext.setCell ?_ (by first | exact Nat.le_refl _ | exact Nat.le_add_right _ _ | assumption) _ | apply Ext.patch | apply Ext.drew | apply Ext.drewN)))
  have HM := Lib.hid (core_new (cOne (some ⟨w.heap.size, 0, none⟩)) 100 ⟨fun _ => 0, _⟩ hok (by omega) (fun k _ => Or.inl (show 0 < 100 by omega)))
  have HN := Lib.hid (fun w' => core_new cNil 100 ⟨fun _ => 0, w'⟩ ⟨CellsAt.nil _ _, by simp [cNil], Nat.le_refl _, by decide⟩ (by omega) (fun k _ => Or.inl (show 0 < 100 by omega)))
  clear q1 hok
  go_enter Try.func14, Try.ntmps14
  go_wp2_with fail
  refine HM.out.mono ?_
  rintro e w1 hh
  unfold CoreMade at hh
  rw [if_pos (cOne_check _)] at hh
  obtain ⟨own1, b, rfl, m1, h1⟩ := hh
  have M1 := Lib.hid m1
  have H1 := Lib.hid h1
  clear m1 h1 HM
  go_wp2_with fail
  refine (HN.out _).mono ?_
  rintro e w2 hh
  unfold CoreMade at hh
  rw [cNil_check, if_neg (by decide)] at hh
  obtain ⟨rfl, hX⟩ := hh
  obtain ⟨own2, m2⟩ := Mod.ofExt ((show Ext w1 _ by (repeat (first | (with_reducible assumption) | (with_reducible exact Ext.refl _) | (with_reducible exact Ext.more _ _ _ _) | apply Ext.alloc | refine Ext.setCell ?_ (by first | exact Nat.le_refl _ | exact Nat.le_add_right _ _ | assumption) _ | apply Ext.patch | apply Ext.drew | apply Ext.drewN))).trans (show Ext _ w2 from hX)) own1
  obtain ⟨bm, bs, bt, bp, bsp, bh, cm, h1⟩ := H1.out
  have M2 := Lib.hid (M1.out.trans m2)
  have HC := Lib.hid (show Calls Try.prog 20 #[.pointer (some ⟨b, 0, none⟩)] w2 (Gives (.int .i64 0) w2) from core_count ⟨own2, w2⟩ 100 b (CoreS.fresh (cOne (some ⟨w.heap.size, 0, none⟩))) ⟨_, _, _, _, _, _, _, h1.keep m2 (fun x hx => hx.elim)⟩ ⟨show (0 : Int) ≤ 0 by decide, show (0 : Int) ≤ 1099511627776 by decide⟩ ⟨show (0 : Int) ≤ 0 by decide, show (0 : Int) ≤ 1099511627776 by decide⟩ ⟨show (0 : Int) ≤ 0 by decide, show (0 : Int) ≤ 1099511627776 by decide⟩ ⟨show (0 : Int) ≤ 0 by decide, show (0 : Int) ≤ 1099511627776 by decide⟩)
  clear hX m2 h1 H1 HN
  go_wp2_with fail
  refine HC.out.mono ?_
  rintro e w3 ⟨rfl, hX⟩
  have X3 := Lib.hid (show Ext w2 w3 from hX)
  clear hX
  go_wp2_with fail
  go_ret
  exact Gives.bool rfl ((HE.out.trans M2.out.toExt).trans X3.out)
end Go.Proofs.Ythebmcbpmboblaa
