import Derived.Test.YtoaehfdjffejeaaGreatKL02
import Derived.Test.YtoaehfdjffejeaaGreatChecked
/-
  Packed: TabNew, Shade, Coil, Pool, Shape, Shape2, Clone.
-/
open Go.Ext renaming alloc → zA, patch → zP, drew → zD, drewN → zN, more → zM, refl → zR, setCell → zS
open Nat renaming le_refl → zL, le_add_right → zK
/-
  tint.New.
-/
namespace Go
open Go.RowKit
def One.zero : One := ⟨0, false, false⟩
theorem made_three (n : Nat) : madeCells #[.int .i64 0, .bool false, .bool false] (n * 3) = ((List.replicate n One.zero).flatMap One.cells).toArray := by
  apply Array.ext_getElem?
  intro j
  conv => rhs; rw [List.getElem?_toArray]
  by_cases hj : j < n * 3
  · have e := flat_at One.cells_len (List.replicate n One.zero) (j / 3) (j % 3) One.zero (by rw [List.getElem?_replicate, if_pos (by omega)]) (by omega)
    rw [show j / 3 * 3 + j % 3 = j by omega] at e
    rw [e]
    simp only [madeCells, Array.getElem?_map, Array.getElem?_range, if_pos hj, Option.map_some]
    have : j % 3 = 0 ∨ j % 3 = 1 ∨ j % 3 = 2 := by omega
    rcases this with h | h | h <;> simp [h, One.cells, One.zero]
  · rw [Array.getElem?_eq_none (by rw [size_madeCells]; omega), List.getElem?_eq_none (by rw [flat_size _ One.cells_len]; simp; omega)]
def TabS.fresh (n : Nat) : TabS := ⟨List.replicate n One.zero⟩
end Go
namespace Go.Proofs.YtoaehfdjffejeaaGreat
open Go Go.RowKit
set_option linter.unusedVariables false
set_option linter.unnecessarySimpa false
set_option linter.unusedSimpArgs false
set_option maxHeartbeats 4000000
theorem infoOne : (Tryz.prog.info? 95).map (fun i => (i.zero, i.size, i.bytes)) = some (some (.agg #[.int .i64 0, .bool false, .bool false]), 3, 16) := by kernel_rfl

set_option maxRecDepth 100000 in
theorem tab_new (n : Nat) (t : Nat) (g : GW) (hn : n ≤ 1024) : Calls Tryz.prog 71 #[.int .i64 n] g.w (fun e w' => ∃ own' b, e = .returned (.tuple #[.pointer (some ⟨b, 0, none⟩), .int .i64 0]) ∧ Mod (fun _ => False) g ⟨own', w'⟩ ∧ TabAt ⟨own', w'⟩ t b (TabS.fresh n)) := by
  obtain ⟨i0, hi, hz0, hz1, hz2⟩ := info_parts infoOne
  have hmk := run_made (P := Tryz.prog) 88 95 i0 _ 3 16 Tryz.underlying88 hi hz0 hz1 hz2 n (by omega) (by omega)
  simp only [Value.cells, made_three] at hmk
  obtain ⟨arr, harr⟩ : ∃ arr : Array Value, ((List.replicate n One.zero).flatMap One.cells).toArray = arr := ⟨_, rfl⟩
  rw [harr] at hmk
  have HA := Lib.hid harr
  have HN := Lib.hid hn
  clear harr
  go_enter Tryz.func71, Tryz.ntmps71
  go_wp2_with fail
  go_ret2
  obtain ⟨q1, q2⟩ := two_blocks g.w (.cells arr 95) (.cells #[.slice (some ⟨g.w.heap.size, 0, none⟩) n n, .int .i64 n, .int .i64 0, .int .i64 0] 91)
  refine ⟨_, _, rfl, Mod.ext (show Ext g.w _ by (repeat (first | (with_reducible (first | assumption | exact zR _ | exact zM _ _ _ _)) | apply zA | refine zS ?_ (by first | exact zL _ | exact zK _ _ | assumption) _ | apply zP | apply zD | apply zN))) t, ⟨⟨some ⟨g.w.heap.size, 0, none⟩, n, ?_, ?_⟩, by simpa [TabS.fresh] using HN.out, fun o ho => ?_⟩⟩
  · have := Blk.made (g := g) (t := t) (vs := [.slice (some ⟨g.w.heap.size, 0, none⟩) n n, .int .i64 n, .int .i64 0, .int .i64 0]) q2 (by omega)
    have e0 : TabS.cnt (TabS.fresh n) 0 = n := by simp [TabS.cnt, TabS.fresh, List.countP_replicate, One.zero]
    have e1 : TabS.cnt (TabS.fresh n) 1 = 0 := by simp [TabS.cnt, TabS.fresh, List.countP_replicate, One.zero]
    have e2 : TabS.cnt (TabS.fresh n) 2 = 0 := by simp [TabS.cnt, TabS.fresh, List.countP_replicate, One.zero]
    rw [e0, e1, e2, show (TabS.fresh n).l.length = n by simp [TabS.fresh]]
    exact this
  · rw [show (TabS.fresh n).l.length = n by simp [TabS.fresh]]
    exact Row.made (HA.out ▸ q1) (Nat.le_refl _) (by rw [flat_size _ One.cells_len]; simp [TabS.fresh]) (by have := HN.out; omega)
  · rw [(List.mem_replicate.1 ho).2]
    decide
end Go.Proofs.YtoaehfdjffejeaaGreat

/-
  shade: New, Len, Table.
-/
namespace Go.Proofs.YtoaehfdjffejeaaGreat
open Go Go.RowKit
set_option linter.unusedVariables false
set_option linter.unnecessarySimpa false
set_option linter.unusedSimpArgs false
set_option maxHeartbeats 4000000
theorem shade_new (n : Nat) (most : Int) (t tt tp : Nat) (g : GW) (hn : n ≤ 1024) (hm : 1 ≤ most ∧ most ≤ 256) : Calls Tryz.prog 38 #[.int .i64 n, .int .i64 most] g.w (fun e w' => ∃ own' b bt bp, e = .returned (.tuple #[.pointer (some ⟨b, 0, none⟩), .int .i64 0]) ∧ Mod (fun _ => False) g ⟨own', w'⟩ ∧ Blk ⟨own', w'⟩ t b 58 [.pointer (some ⟨bt, 0, none⟩), .pointer (some ⟨bp, 0, none⟩), .int .i64 0] ∧ TabAt ⟨own', w'⟩ tt bt (TabS.fresh n) ∧ PileAt ⟨own', w'⟩ tp bp ⟨[], most, false⟩) := by
  have HT := Lib.hid (tab_new n tt g hn)
  have HP := Lib.hid (fun g' => (pile_new most tp g').mono fun e w' hh => by
    unfold PileMade at hh
    rw [if_pos hm] at hh
    exact hh)
  clear hn
  go_enter Tryz.func38, Tryz.ntmps38
  go_wp2_with fail
  refine HT.out.mono ?_
  rintro e w1 ⟨own1, bt, rfl, m1, t1⟩
  have M1 := Lib.hid m1
  have T1 := Lib.hid t1
  clear m1 t1 HT
  go_wp2_with fail
  refine (HP.out ⟨own1, w1⟩).mono ?_
  rintro e w2 ⟨bp, rfl, he, p2⟩
  have m2 := Mod.ext (T := fun _ => False) (g := ⟨own1, w1⟩) he tp
  have M2 := Lib.hid (M1.out.trans m2)
  have T2 := Lib.hid (T1.out.keep m2 id)
  have P2 := Lib.hid p2
  clear m2 p2 he HP
  go_wp2_with fail
  go_ret2
  have m3 := Mod.ext (T := fun _ => False) (g := (⟨own1, w1⟩ : GW).to tp w2) (show Ext w2 (w2.alloc (.cells #[.pointer (some ⟨bt, 0, none⟩), .pointer (some ⟨bp, 0, none⟩), .int .i64 0] 58)) by (repeat (first | (with_reducible (first | assumption | exact zR _ | exact zM _ _ _ _)) | apply zA | refine zS ?_ (by first | exact zL _ | exact zK _ _ | assumption) _ | apply zP | apply zD | apply zN))) t
  exact ⟨_, _, _, _, rfl, M2.out.trans m3, Blk.made (World.row_alloc_new _) (Nat.le_refl _), T2.out.keep m3 id, P2.out.keep m3 id⟩
theorem shade_table (bt : Nat) (w : World) : Calls Tryz.prog 12 #[.agg #[.pointer (some ⟨bt, 0, none⟩)]] w (Gives (.pointer (some ⟨bt, 0, none⟩)) w) := by
  go_enter Tryz.func12, Tryz.ntmps12
  go_wp2_with fail
  go_ret
  exact Gives.of_ext (by (repeat (first | (with_reducible (first | assumption | exact zR _ | exact zM _ _ _ _)) | apply zA | refine zS ?_ (by first | exact zL _ | exact zK _ _ | assumption) _ | apply zP | apply zD | apply zN)))
end Go.Proofs.YtoaehfdjffejeaaGreat

/-
  coil: the two spaces of spines.
-/
namespace Go.Proofs.YtoaehfdjffejeaaGreat
open Go Go.RowKit
set_option linter.unusedVariables false
set_option linter.unnecessarySimpa false
set_option linter.unusedSimpArgs false
set_option maxHeartbeats 2000000

structure CoilAt (g : GW) (t b : Nat) (c : CoilS) : Prop where
  blk : Blk g t b 188 [.int .i64 c.size, .int .i64 c.cur, .int .i64 c.u0, .int .i64 c.u1, .int .i64 c.kept]
  ok : c.Ok
theorem CoilAt.keep {S : Nat → Prop} {g g' : GW} {t b : Nat} {c : CoilS} (h : CoilAt g t b c) (d : Mod S g g') (hs : ¬ S t) : CoilAt g' t b c := ⟨h.blk.keep d hs, h.ok⟩
theorem CoilAt.pt {g : GW} {t b : Nat} {c : CoilS} (h : CoilAt g t b c) (X : Extra) : CoilAt (g.pt X) t b c := h.keep (S := fun _ => False) (Mod.pt (Mod.refl _ _) X) id

theorem coil_current (g : GW) (t b : Nat) (c : CoilS) (h : CoilAt g t b c) :
    Calls Tryz.prog 194 #[.pointer (some ⟨b, 0, none⟩)] g.w (fun e w' => e = .returned (.int .i64 c.cur) ∧ g.w = w') := by
  have c1 := h.blk.cell (i := 1) rfl
  clear h
  go_enter Tryz.func194, Tryz.ntmps194
  go_wp2_with fail
  go_ret
  exact ⟨rfl, rfl⟩
theorem coil_room (g : GW) (t b : Nat) (c : CoilS) (h : CoilAt g t b c) :
    Calls Tryz.prog 190 #[.pointer (some ⟨b, 0, none⟩)] g.w (Gives (.int .i64 c.room) g.w) := by
  have c0 := h.blk.cell (i := 0) rfl
  have c1 := h.blk.cell (i := 1) rfl
  have c2 := h.blk.cell (i := 2) rfl
  have c3 := h.blk.cell (i := 3) rfl
  have c4 := h.blk.cell (i := 4) rfl
  have hbl := h.blk.lt
  obtain ⟨o1, ⟨_, _⟩, ⟨_, _⟩, ⟨_, _⟩, ⟨_, _⟩, _⟩ := h.ok
  clear h
  obtain ⟨size, cur, u0, u1, kept⟩ := c
  simp only at *
  rcases (show cur = 0 ∨ cur = 1 by omega) with rfl | rfl
  · replace c1 : g.w.cell? ⟨b, 1, none⟩ = some (.int .i64 0) := c1
    have HV := Lib.hid (show CoilS.room ⟨size, 0, u0, u1, kept⟩ = size - u0 - kept from rfl)
    go_enter Tryz.func190, Tryz.ntmps190
    go_wp2_with fail
    refine wp_region_mixed [true, true, true, true, true, true, true, true, true, true, true, true, true, true, true, true, true, true, true, true] 0 20 (by kernel_rfl) (by kernel_rfl) (by kernel_rfl) ?_ (by decide) (by decide) (by decide) (by kernel_rfl) ?_
    · intro c a d v w h; cases d <;> exact h
    intro X00
    simp only [pickOps]
    repeat (go_big_quiet_step (fail))
    refine wpQuiet_nil (fun X0 => ?_)
    clear X00
    refine wpAnyM_done (by kernel_rfl) (fun X0' => ?_) _
    go_wp2_with fail
    go_ret
    exact Gives.int (by rw [HV.out]; try rfl) (by (repeat (first | (with_reducible (first | assumption | exact zR _ | exact zM _ _ _ _)) | apply zA | refine zS ?_ (by first | exact zL _ | exact zK _ _ | assumption) _ | apply zP | apply zD | apply zN)))
  · replace c1 : g.w.cell? ⟨b, 1, none⟩ = some (.int .i64 1) := c1
    have HV := Lib.hid (show CoilS.room ⟨size, 1, u0, u1, kept⟩ = size - u1 - kept from rfl)
    go_enter Tryz.func190, Tryz.ntmps190
    go_wp2_with fail
    refine wp_region_mixed [true, true, true, true, true, true, true, true, true, true, true, true, true, true, true, true, true, true, true, true] 0 20 (by kernel_rfl) (by kernel_rfl) (by kernel_rfl) ?_ (by decide) (by decide) (by decide) (by kernel_rfl) ?_
    · intro c a d v w h; cases d <;> exact h
    intro X00
    simp only [pickOps]
    repeat (go_big_quiet_step (fail))
    refine wpQuiet_nil (fun X0 => ?_)
    clear X00
    refine wpAnyM_done (by kernel_rfl) (fun X0' => ?_) _
    go_wp2_with fail
    go_ret
    exact Gives.int (by rw [HV.out]; try rfl) (by (repeat (first | (with_reducible (first | assumption | exact zR _ | exact zM _ _ _ _)) | apply zA | refine zS ?_ (by first | exact zL _ | exact zK _ _ | assumption) _ | apply zP | apply zD | apply zN)))
theorem coil_lays (g : GW) (t b : Nat) (n : Int) (c : CoilS) (h : CoilAt g t b c) (hn : 0 ≤ n ∧ n ≤ 4096) (hok : (c.lays n).Ok) :
    Calls Tryz.prog 196 #[.pointer (some ⟨b, 0, none⟩), .int .i64 n] g.w (Does (.int .i64 (c.used c.cur)) g (fun x => x = t) (fun g' => CoilAt g' t b (c.lays n))) := by
  have c0 := h.blk.cell (i := 0) rfl
  have c1 := h.blk.cell (i := 1) rfl
  have c2 := h.blk.cell (i := 2) rfl
  have c3 := h.blk.cell (i := 3) rfl
  have c4 := h.blk.cell (i := 4) rfl
  have f2 := h.blk.live 2
  have f3 := h.blk.live 3
  have hbl := h.blk.lt
  obtain ⟨o1, ⟨_, _⟩, ⟨_, _⟩, ⟨_, _⟩, ⟨_, _⟩, _⟩ := h.ok
  have HO := Lib.hid h.blk.own
  have HB := Lib.hid h.blk
  have HK := Lib.hid hok
  obtain ⟨hn0, hn1⟩ := hn
  clear h hok
  obtain ⟨size, cur, u0, u1, kept⟩ := c
  simp only at *
  rcases (show cur = 0 ∨ cur = 1 by omega) with rfl | rfl
  · replace c1 : g.w.cell? ⟨b, 1, none⟩ = some (.int .i64 0) := c1
    have HT := Lib.hid (show CoilS.lays ⟨size, 0, u0, u1, kept⟩ n = ⟨size, 0, u0 + n, u1, kept⟩ from rfl)
    rw [HT.out] at HK
    go_enter Tryz.func196, Tryz.ntmps196
    go_wp2_with fail
    refine wp_region_mixed [true, true, true, true, true, true, true, true, true, true] 0 10 (by kernel_rfl) (by kernel_rfl) (by kernel_rfl) ?_ (by decide) (by decide) (by decide) (by kernel_rfl) ?_
    · intro c a d v w h; cases d <;> exact h
    intro X00
    simp only [pickOps]
    repeat (go_big_quiet_step (fail))
    refine wpQuiet_nil (fun X0 => ?_)
    clear X00
    refine wpAnyM_done (by kernel_rfl) (fun X0' => ?_) _
    go_wp2_with fail
    refine wp_region_mixed [true, true, true, true, true, true, true, true, true, true, true, true, true, true, false] 1 14 (by kernel_rfl) (by kernel_rfl) (by kernel_rfl) ?_ (by decide) (by decide) (by decide) (by kernel_rfl) ?_
    · intro c a d v w h; cases d <;> exact h
    intro X00
    simp only [pickOps]
    repeat (go_big_quiet_step (fail))
    refine wpQuiet_nil (fun X0 => ?_)
    clear X00
    refine wpAnyM_last 14 _ (by kernel_rfl) (by kernel_rfl) rfl rfl (fun X1 K Q' hK => ?_)
    go_simp
    refine hK _ _ (fun X2 => ?_)
    clear hK K Q'
    go_wp2_with fail
    go_ret
    (try rw [World.patch_patch])
    refine Does.of (GW.pt ⟨g.own, _⟩ _) rfl rfl (Mod.pt (Mod.st Mod.self HO.out) _) ?_
    rw [HT.out]
    exact CoilAt.pt ⟨HB.out.set 2 _, HK.out⟩ _
  · replace c1 : g.w.cell? ⟨b, 1, none⟩ = some (.int .i64 1) := c1
    have HT := Lib.hid (show CoilS.lays ⟨size, 1, u0, u1, kept⟩ n = ⟨size, 1, u0, u1 + n, kept⟩ from rfl)
    rw [HT.out] at HK
    go_enter Tryz.func196, Tryz.ntmps196
    go_wp2_with fail
    refine wp_region_mixed [true, true, true, true, true, true, true, true, true, true] 0 10 (by kernel_rfl) (by kernel_rfl) (by kernel_rfl) ?_ (by decide) (by decide) (by decide) (by kernel_rfl) ?_
    · intro c a d v w h; cases d <;> exact h
    intro X00
    simp only [pickOps]
    repeat (go_big_quiet_step (fail))
    refine wpQuiet_nil (fun X0 => ?_)
    clear X00
    refine wpAnyM_done (by kernel_rfl) (fun X0' => ?_) _
    go_wp2_with fail
    refine wp_region_mixed [true, true, true, true, true, true, true, true, true, true, true, true, true, true, false] 1 14 (by kernel_rfl) (by kernel_rfl) (by kernel_rfl) ?_ (by decide) (by decide) (by decide) (by kernel_rfl) ?_
    · intro c a d v w h; cases d <;> exact h
    intro X00
    simp only [pickOps]
    repeat (go_big_quiet_step (fail))
    refine wpQuiet_nil (fun X0 => ?_)
    clear X00
    refine wpAnyM_last 14 _ (by kernel_rfl) (by kernel_rfl) rfl rfl (fun X1 K Q' hK => ?_)
    go_simp
    refine hK _ _ (fun X2 => ?_)
    clear hK K Q'
    go_wp2_with fail
    go_ret
    (try rw [World.patch_patch])
    refine Does.of (GW.pt ⟨g.own, _⟩ _) rfl rfl (Mod.pt (Mod.st Mod.self HO.out) _) ?_
    rw [HT.out]
    exact CoilAt.pt ⟨HB.out.set 3 _, HK.out⟩ _
theorem CoilS.Ok.take {c : CoilS} (h : c.Ok) {n : Int} (hn : c.takeable n = true) : (c.lays n).Ok := by
  obtain ⟨size, cur, u0, u1, kept⟩ := c
  obtain ⟨o1, o2, o3, o4, o5, o6⟩ := h
  have hn' : 1 ≤ n ∧ n ≤ CoilS.room ⟨size, cur, u0, u1, kept⟩ := by simpa [CoilS.takeable] using hn
  obtain ⟨hn1, hn2⟩ := hn'
  unfold CoilS.room at hn2
  simp only at o1 o2 o3 o4 o5 o6 hn2
  rcases (show cur = 0 ∨ cur = 1 by omega) with rfl | rfl
  · have e : CoilS.used ⟨size, 0, u0, u1, kept⟩ 0 = u0 := rfl
    rw [e] at o6 hn2
    exact ⟨by show 0 < 2; decide, o2, ⟨by show 0 ≤ u0 + n; omega, by show u0 + n ≤ 2048; omega⟩, o4, o5, by show u0 + n + kept ≤ size; omega⟩
  · have e : CoilS.used ⟨size, 1, u0, u1, kept⟩ 1 = u1 := rfl
    rw [e] at o6 hn2
    exact ⟨by show 1 < 2; decide, o2, o3, ⟨by show 0 ≤ u1 + n; omega, by show u1 + n ≤ 2048; omega⟩, o5, by show u1 + n + kept ≤ size; omega⟩
theorem CoilS.takenAt_no {c : CoilS} {n : Int} (h : c.takeable n = false) : c.takenAt n = 0 := by unfold CoilS.takenAt; rw [h]; rfl
theorem CoilS.takenAt_yes {c : CoilS} {n : Int} (h : c.takeable n = true) : c.takenAt n = c.used c.cur := by unfold CoilS.takenAt; rw [h]; rfl
theorem coil_take (g : GW) (t b : Nat) (n : Int) (c : CoilS) (h : CoilAt g t b c) (hn : n ≤ 1099511627776) :
    Calls Tryz.prog 192 #[.pointer (some ⟨b, 0, none⟩), .int .i64 n] g.w (Does (.tuple #[.int .i64 (c.takenAt n), .bool (c.takeable n)]) g (fun x => x = t) (fun g' => CoilAt g' t b (c.take n))) := by
  have H := Lib.hid h
  by_cases h1 : n < 1
  · have HV := Lib.hid (show c.takeable n = false by unfold CoilS.takeable; simp; omega)
    have HT := Lib.hid (show c.take n = c by unfold CoilS.take; rw [HV.out]; try rfl)
    clear h
    go_enter Tryz.func192, Tryz.ntmps192
    go_wp2_with fail
    go_ret2
    exact Does.of g rfl (by rw [CoilS.takenAt_no HV.out, HV.out]; try rfl) (Mod.refl _ _) (by rw [HT.out]; exact H.out)
  · have HR := Lib.hid (coil_room g t b c h)
    by_cases h2 : c.room < n
    · have HV := Lib.hid (show c.takeable n = false by unfold CoilS.takeable; simp; omega)
      have HT := Lib.hid (show c.take n = c by unfold CoilS.take; rw [HV.out]; try rfl)
      generalize c.room = rm at *
      clear h
      go_enter Tryz.func192, Tryz.ntmps192
      go_wp2_with fail
      refine (HR.out).mono ?_
      rintro e w1 ⟨rfl, X1, rfl⟩
      go_wp2_with fail
      go_ret2
      exact Does.ext g (by (repeat (first | (with_reducible (first | assumption | exact zR _ | exact zM _ _ _ _)) | apply zA | refine zS ?_ (by first | exact zL _ | exact zK _ _ | assumption) _ | apply zP | apply zD | apply zN))) (by rw [CoilS.takenAt_no HV.out, HV.out]; try rfl) (Mod.refl _ _) (fun g2 m => by rw [HT.out]; exact H.out.keep m id)
    · have hv : c.takeable n = true := by unfold CoilS.takeable; simp; omega
      have hok := CoilS.Ok.take h.ok hv
      have hrm : c.room ≤ 4096 := by
        obtain ⟨o1, ⟨_, _⟩, ⟨_, _⟩, ⟨_, _⟩, ⟨_, _⟩, o6⟩ := h.ok
        unfold CoilS.room CoilS.used
        split <;> omega
      have HL := Lib.hid (fun X => coil_lays (g.pt X) t b n c (h.pt X) (by omega) hok)
      have HV := Lib.hid hv
      have HT := Lib.hid (show c.take n = c.lays n by unfold CoilS.take; rw [HV.out]; try rfl)
      have h2' : n ≤ c.room := by omega
      generalize c.room = rm at *
      clear h hok hv h2
      go_enter Tryz.func192, Tryz.ntmps192
      go_wp2_with fail
      refine (HR.out).mono ?_
      rintro e w1 ⟨rfl, X1, rfl⟩
      go_wp2_with fail
      refine (HL.out X1).mono ?_
      rintro e w1 ⟨rfl, own1, m1, a1⟩
      have M := Lib.hid m1
      have Q := Lib.hid a1
      clear m1 a1
      go_wp2_with fail
      go_ret2
      exact Does.of ⟨own1, _⟩ rfl (by rw [CoilS.takenAt_yes HV.out, HV.out]; try rfl) (Mod.trans (Mod.pt (Mod.refl _ _) _) M.out) (by rw [HT.out]; exact Q.out)
def CoilMade (n : Int) (t : Nat) (g : GW) (e : Ending) (w' : World) : Prop :=
  if 0 ≤ n ∧ n ≤ 2048 then ∃ own' b, e = .returned (.tuple #[.pointer (some ⟨b, 0, none⟩), .int .i64 0]) ∧ Mod (fun _ => False) g ⟨own', w'⟩ ∧ CoilAt ⟨own', w'⟩ t b ⟨n, 0, 0, 0, 0⟩
  else e = .returned (.tuple #[.pointer none, .int .i64 1]) ∧ Ext g.w w'
theorem coil_new (n : Int) (t : Nat) (g : GW) : Calls Tryz.prog 75 #[.int .i64 n] g.w (CoilMade n t g) := by
  by_cases h0 : n < 0
  · have HV := Lib.hid (show ¬ (0 ≤ n ∧ n ≤ 2048) by omega)
    go_enter Tryz.func75, Tryz.ntmps75
    go_wp2_with fail
    go_ret2
    unfold CoilMade
    rw [if_neg HV.out]
    exact ⟨rfl, Ext.refl _⟩
  by_cases h1 : 2048 < n
  · have HV := Lib.hid (show ¬ (0 ≤ n ∧ n ≤ 2048) by omega)
    go_enter Tryz.func75, Tryz.ntmps75
    go_wp2_with fail
    go_ret2
    unfold CoilMade
    rw [if_neg HV.out]
    exact ⟨rfl, Ext.refl _⟩
  have HV := Lib.hid (show (0 : Int) ≤ n ∧ n ≤ 2048 by omega)
  go_enter Tryz.func75, Tryz.ntmps75
  go_wp2_with fail
  go_ret2
  unfold CoilMade
  rw [if_pos HV.out]
  obtain ⟨_, _⟩ := HV.out
  exact ⟨_, _, rfl, Mod.ext (show Ext g.w _ by (repeat (first | (with_reducible (first | assumption | exact zR _ | exact zM _ _ _ _)) | apply zA | refine zS ?_ (by first | exact zL _ | exact zK _ _ | assumption) _ | apply zP | apply zD | apply zN))) t, Blk.made (World.row_alloc_new _) (Nat.le_refl _), ⟨by simp, by simp only; omega, by simp, by simp, by simp, by simp [CoilS.used]; omega⟩⟩
end Go.Proofs.YtoaehfdjffejeaaGreat

/-
  pool: what is free.
-/
namespace Go.Proofs.YtoaehfdjffejeaaGreat
open Go Go.RowKit
set_option linter.unusedVariables false
set_option linter.unnecessarySimpa false
set_option linter.unusedSimpArgs false
set_option maxHeartbeats 2000000

structure PoolAt (g : GW) (t b : Nat) (p : PoolS) : Prop where
  ex : ∃ A c, Blk g t b 185 [.slice A p.l.length c, .int .i64 p.free] ∧ Row g t 4 1 (.slice A p.l.length c) p.l.length (p.l.map Value.bool)
  len : p.l.length ≤ 1024
theorem PoolAt.keep {S : Nat → Prop} {g g' : GW} {t b : Nat} {p : PoolS} (h : PoolAt g t b p) (d : Mod S g g') (hs : ¬ S t) : PoolAt g' t b p := by
  obtain ⟨A, c, h1, h2⟩ := h.ex
  exact ⟨⟨A, c, h1.keep d hs, h2.keep d hs⟩, h.len⟩
theorem PoolAt.pt {g : GW} {t b : Nat} {p : PoolS} (h : PoolAt g t b p) (X : Extra) : PoolAt (g.pt X) t b p := h.keep (S := fun _ => False) (Mod.pt (Mod.refl _ _) X) id

theorem pool_free (g : GW) (t b : Nat) (p : PoolS) (h : PoolAt g t b p) :
    Calls Tryz.prog 188 #[.pointer (some ⟨b, 0, none⟩)] g.w (fun e w' => e = .returned (.int .i64 p.free) ∧ g.w = w') := by
  obtain ⟨A, c, hb, hr⟩ := h.ex
  have c1 := hb.cell (i := 1) rfl
  clear hb hr h
  go_enter Tryz.func188, Tryz.ntmps188
  go_wp2_with fail
  go_ret
  exact ⟨rfl, rfl⟩

theorem PoolAt.place {g : GW} {t b : Nat} {p : PoolS} (h : PoolAt g t b p) {k : Nat} (hk : k < p.l.length) : ∃ r c, Blk g t b 185 [.slice (some ⟨r, 0, none⟩) p.l.length c, .int .i64 p.free] ∧
    Row g t 4 1 (.slice (some ⟨r, 0, none⟩) p.l.length c) p.l.length (p.l.map Value.bool) ∧ r < g.w.heap.size ∧ g.w.cell? ⟨r, k, none⟩ = some (.bool (p.l.getD k false)) ∧ g.w.frozen? ⟨r, k, none⟩ = false ∧ b ≠ r := by
  obtain ⟨A, c, hb, hr⟩ := h.ex
  obtain ⟨r, rfl, hl, ho, hc, hf⟩ := hr.block (by omega)
  exact ⟨r, c, hb, hr, hl, hc _ _ (by simp [List.getD_eq_getElem?_getD, hk]), hf _, hr.ne_type hb (by decide) rfl⟩

theorem PoolAt.stored {g : GW} {t b r c k : Nat} {x : Bool} {n : Int} {p : PoolS} (h : PoolAt g t b p) (hk : k < p.l.length) (hb : Blk g t b 185 [.slice (some ⟨r, 0, none⟩) p.l.length c, .int .i64 p.free])
    (hn : n = (PoolS.free ⟨p.l.set k x⟩ : Nat)) : PoolAt ⟨g.own, (g.w.setCell ⟨r, k, none⟩ (.bool x)).setCell ⟨b, 1, none⟩ (.int .i64 n)⟩ t b ⟨p.l.set k x⟩ := by
  obtain ⟨A', c', hb', hr⟩ := h.ex
  have e := hb'.same hb
  injection e with e _
  injection e with e1 _ e2
  subst e1 e2 hn
  have hne : r ≠ b := fun e => hr.ne_type hb' (by decide) rfl e.symm
  refine ⟨⟨some ⟨r, 0, none⟩, c', ?_, ?_⟩, by simpa using h.len⟩
  · simp only [List.length_set]
    exact (hb'.setOther k (.bool x) hne).set 1 _
  · simp only [List.length_set]
    rw [List.map_set]
    exact (hr.store k (.bool x)).setOther _ _ (fun y hy e => hne (by injection hy with hy; exact hy.trans e.symm))
theorem PoolS.free_set {l : List Bool} {k : Nat} (hk : k < l.length) (x : Bool) : ((PoolS.free ⟨l.set k x⟩ : Nat) : Int) = (PoolS.free ⟨l⟩ : Int) - (if l.getD k false then 1 else 0) + (if x then 1 else 0) := by
  unfold PoolS.free
  simp only
  rw [List.countP_set hk, List.getD_eq_getElem?_getD, List.getElem?_eq_getElem hk]
  simp only [Option.getD_some, id]
  have : l[k] = true → 0 < l.countP id := fun h => List.countP_pos_iff.2 ⟨_, List.getElem_mem hk, h⟩
  by_cases h1 : l[k] = true
  · have := this h1
    rw [if_pos h1, if_pos h1]
    split <;> omega
  · rw [if_neg h1, if_neg h1]
    split <;> omega

theorem pool_takes (g : GW) (t b k : Nat) (p : PoolS) (h : PoolAt g t b p) (hk : k < p.l.length) (hx : p.l.getD k false = true) :
    Calls Tryz.prog 195 #[.pointer (some ⟨b, 0, none⟩), .int .i64 k] g.w (Does (.tuple #[]) g (fun x => x = t) (fun g' => PoolAt g' t b ⟨p.l.set k false⟩)) := by
  obtain ⟨r, c, hb, hr, hrl, k0, kf, hne⟩ := h.place hk
  have HO := Lib.hid hb.own
  have HR := Lib.hid (hr.own r rfl)
  have H := Lib.hid (PoolAt.stored (x := false) h hk hb (n := (p.free : Int) - 1) (by rw [PoolS.free_set hk, hx]; simp))
  have hne' : r ≠ b := fun e => hne e.symm
  have c0 := hb.cell (i := 0) rfl
  have c1 := hb.cell (i := 1) rfl
  have f1 := hb.live 1
  have hbl := hb.lt
  have hlen := h.len
  have hfr : p.free ≤ 1024 := Nat.le_trans List.countP_le_length hlen
  clear hb h hr hx
  go_enter Tryz.func195, Tryz.ntmps195
  go_wp2_with fail
  refine bodyPost_end (results_none rfl _ _ _) rfl (Does.of ⟨g.own, _⟩ rfl rfl (Mod.st (Mod.st Mod.self HR.out) HO.out) H.out)

theorem pool_give (g : GW) (t b : Nat) (i : Int) (p : PoolS) (h : PoolAt g t b p) :
    Calls Tryz.prog 124 #[.pointer (some ⟨b, 0, none⟩), .int .i64 i] g.w (Does (.bool (inB i p.l.length && !p.l.getD i.toNat false)) g (fun x => x = t) (fun g' => PoolAt g' t b (p.give i))) := by
  cases hin : inB i p.l.length
  · have HT := Lib.hid (show p.give i = p by unfold PoolS.give; rw [hin]; rfl)
    obtain ⟨A, c, hb, hr⟩ := h.ex
    have H := Lib.hid h
    have c0 := hb.cell (i := 0) rfl
    have hc := inB_false hin
    clear hb hr h hin
    by_cases h0 : i < 0
    · clear hc
      go_enter Tryz.func124, Tryz.ntmps124
      go_wp2_with fail
      go_ret
      exact Does.of g rfl rfl (Mod.refl _ _) (by rw [HT.out]; exact H.out)
    · have h1 : (p.l.length : Int) ≤ i := by omega
      clear hc
      go_enter Tryz.func124, Tryz.ntmps124
      go_wp2_with fail
      go_ret
      exact Does.of g rfl rfl (Mod.refl _ _) (by rw [HT.out]; exact H.out)
  · obtain ⟨k, rfl, hk⟩ := inB_true hin
    obtain ⟨r, c, hb, hr, hrl, k0, kf, hne⟩ := h.place hk
    have HO := Lib.hid hb.own
    have HR := Lib.hid (hr.own r rfl)
    have hne' : r ≠ b := fun e => hne e.symm
    have c0 := hb.cell (i := 0) rfl
    have c1 := hb.cell (i := 1) rfl
    have f1 := hb.live 1
    have hbl := hb.lt
    have hlen := h.len
    have hfr : p.free ≤ 1024 := Nat.le_trans List.countP_le_length hlen
    have HT := Lib.hid (show p.give k = ⟨p.l.set k true⟩ by unfold PoolS.give; rw [hin, if_pos rfl, Int.toNat_natCast])
    rw [Int.toNat_natCast]
    cases hx : p.l.getD k false
    · have H := Lib.hid (PoolAt.stored (x := true) h hk hb (n := (p.free : Int) + 1) (by rw [PoolS.free_set hk, hx]; simp))
      rw [hx] at k0
      clear hb h hr hx
      go_enter Tryz.func124, Tryz.ntmps124
      go_wp2_with fail
      go_ret
      exact Does.of ⟨g.own, _⟩ rfl rfl (Mod.st (Mod.st Mod.self HR.out) HO.out) (by rw [HT.out]; exact H.out)
    · have HE := Lib.hid (show p.l.set k true = p.l from by
        apply List.ext_getElem?
        intro j
        by_cases hj : k = j
        · subst hj
          rw [List.getElem?_set_self hk, List.getElem?_eq_getElem hk]
          rw [List.getD_eq_getElem?_getD, List.getElem?_eq_getElem hk] at hx
          simpa using hx.symm
        · rw [List.getElem?_set_ne hj])
      have H := Lib.hid h
      rw [hx] at k0
      clear hb h hr hx
      go_enter Tryz.func124, Tryz.ntmps124
      go_wp2_with fail
      go_ret
      exact Does.of g rfl rfl (Mod.refl _ _) (by rw [HT.out, HE.out]; exact H.out)

theorem runGo_zero (l : List Bool) (k m : Nat) : PoolS.runGo l k 0 m = none := rfl
theorem runGo_no {l : List Bool} {k j m : Nat} (h : l.getD j false = false) : PoolS.runGo l k (j + 1) m = PoolS.runGo l k j 0 := by
  rw [PoolS.runGo, if_neg (by rw [h]; simp)]
theorem runGo_more {l : List Bool} {k j m : Nat} (h : l.getD j false = true) (hm : ¬ m + 1 = k) : PoolS.runGo l k (j + 1) m = PoolS.runGo l k j (m + 1) := by
  rw [PoolS.runGo, if_pos h, if_neg hm]
theorem runGo_here {l : List Bool} {k j m : Nat} (h : l.getD j false = true) (hm : m + 1 = k) : PoolS.runGo l k (j + 1) m = some j := by
  rw [PoolS.runGo, if_pos h, if_pos hm]
def runVal (o : Option Nat) : Value := .tuple #[.int .i64 ((o.getD 0 : Nat) : Int), .bool o.isSome]
theorem pool_run_go (g : GW) (t b k : Nat) (p : PoolS) (h : PoolAt g t b p) (hk : 1 ≤ k) (hk2 : k ≤ 1099511627776) :
    Calls Tryz.prog 189 #[.pointer (some ⟨b, 0, none⟩), .int .i64 k] g.w (fun e w' => e = .returned (runVal (PoolS.runGo p.l k p.l.length 0)) ∧ g.w = w') := by
  obtain ⟨A, c, hb, hr⟩ := h.ex
  have HC := Lib.hid (fun j (hj : j < p.l.length) => h.place hj)
  have HB := Lib.hid hb
  have c0 := hb.cell (i := 0) rfl
  have hlen := h.len
  clear hr hb h
  go_enter Tryz.func189, Tryz.ntmps189
  go_wp2_with fail
  go_loop [6, 7] (fun n i => ∃ j m : Nat, j ≤ p.l.length ∧ m < k ∧ i = .int .i64 ((j : Int) - 1) ∧ n = .int .i64 m ∧ Hid (PoolS.runGo p.l k p.l.length 0 = PoolS.runGo p.l k j m)) (fun _ i => (intOf i + 1).toNat)
  case atStart => exact ⟨p.l.length, 0, Nat.le_refl _, by omega, rfl, rfl, Lib.hid rfl⟩
  case round =>
    obtain ⟨j, m, hj, hm, rfl, rfl, HJ⟩ := hrel
    rcases j with _ | j
    · have HV := Lib.hid (HJ.out.trans (runGo_zero _ _ _))
      rw [show (((0 : Nat) : Int) - 1) = -1 by omega]
      go_wp2_with fail
      go_ret2
      exact ⟨by rw [HV.out]; try rfl, rfl⟩
    · rw [show (((j + 1 : Nat) : Int) - 1) = (j : Int) by omega]
      obtain ⟨r, c', hb', -, hrl, k0, -, -⟩ := HC.out j hj
      have e := HB.out.same hb'
      injection e with e _
      injection e with e1 _ e2
      subst e1
      cases hx : p.l.getD j false
      · rw [hx] at k0
        have HV := Lib.hid (HJ.out.trans (runGo_no hx))
        clear hx hb' e2
        go_wp2_with fail
        go_round
        case rel => exact ⟨j, 0, by omega, by omega, by go_num, rfl, HV⟩
        case measure => simp [intOf]
      · rw [hx] at k0
        clear hb' e2
        by_cases hm2 : m + 1 = k
        · have HV := Lib.hid (HJ.out.trans (runGo_here hx hm2))
          have hd : ((m : Int) + 1 == (k : Int)) = true := by simp; omega
          clear hx hm2
          go_wp2_with fail
          go_ret2
          exact ⟨by rw [HV.out]; try rfl, rfl⟩
        · have HV := Lib.hid (HJ.out.trans (runGo_more hx hm2))
          have hd : ((m : Int) + 1 == (k : Int)) = false := by simp; omega
          have hm3 : m + 1 < k := by omega
          clear hx hm2
          go_wp2_with fail
          go_round
          case rel => exact ⟨j, m + 1, by omega, by omega, by go_num, by go_num, HV⟩
          case measure => simp [intOf]
theorem pool_run (g : GW) (t b : Nat) (k : Int) (p : PoolS) (h : PoolAt g t b p) (hk2 : k ≤ 1099511627776) :
    Calls Tryz.prog 189 #[.pointer (some ⟨b, 0, none⟩), .int .i64 k] g.w (fun e w' => e = .returned (runVal (p.run k)) ∧ g.w = w') := by
  by_cases h1 : k < 1
  · have HV := Lib.hid (show p.run k = none by unfold PoolS.run; rw [if_pos h1])
    clear h
    go_enter Tryz.func189, Tryz.ntmps189
    go_wp2_with fail
    go_ret2
    exact ⟨by rw [HV.out]; try rfl, rfl⟩
  · obtain ⟨n, rfl⟩ := Int.eq_ofNat_of_zero_le (show 0 ≤ k by omega)
    rw [show p.run n = PoolS.runGo p.l n p.l.length 0 by unfold PoolS.run; rw [if_neg h1, Int.toNat_natCast]]
    exact pool_run_go g t b n p h (by omega) (by omega)
end Go.Proofs.YtoaehfdjffejeaaGreat

/-
  shape, word, num: small functions that only compute.
-/
namespace Go.Proofs.YtoaehfdjffejeaaGreat
open Go Go.RowKit

theorem up_any (n b : Int) (w : World) (h1 : 1 ≤ n) (h2 : n ≤ 1000) (h3 : 1 ≤ b) (h4 : b ≤ 8) : Calls Tryz.prog 184 #[.int .i64 n, .int .i64 b] w (Gives (.int .i64 ((n + b - 1) / b)) w) := by
  go_enter Tryz.func184, Tryz.ntmps184
  go_wp2
  go_ret
  exact Gives.int rfl (by (repeat (first | (with_reducible (first | assumption | exact zR _ | exact zM _ _ _ _)) | apply zA | refine zS ?_ (by first | exact zL _ | exact zK _ _ | assumption) _ | apply zP | apply zD | apply zN)))

theorem data_any (n : Int) (w : World) : Calls Tryz.prog 156 #[.int .i64 n] w (Gives (.int .i64 (sData n)) w) := by
  by_cases h1 : n < 1
  · go_enter Tryz.func156, Tryz.ntmps156
    go_wp2
    go_ret
    exact Gives.int (by unfold sData; rw [if_pos (by omega)]) (by (repeat (first | (with_reducible (first | assumption | exact zR _ | exact zM _ _ _ _)) | apply zA | refine zS ?_ (by first | exact zL _ | exact zK _ _ | assumption) _ | apply zP | apply zD | apply zN)))
  · by_cases h2 : 512 < n
    · go_enter Tryz.func156, Tryz.ntmps156
      go_wp2
      go_ret
      exact Gives.int (by unfold sData; rw [if_pos (by omega)]) (by (repeat (first | (with_reducible (first | assumption | exact zR _ | exact zM _ _ _ _)) | apply zA | refine zS ?_ (by first | exact zL _ | exact zK _ _ | assumption) _ | apply zP | apply zD | apply zN)))
    · go_enter Tryz.func156, Tryz.ntmps156
      go_wp2_with (go_at_call 184; refine (up_any _ _ _ (by omega) (by omega) (by omega) (by omega)).mono ?_; rintro e w1 ⟨rfl, X1, rfl⟩)
      go_ret
      exact Gives.int (by unfold sData; rw [if_neg (by omega)]; omega) (by (repeat (first | (with_reducible (first | assumption | exact zR _ | exact zM _ _ _ _)) | apply zA | refine zS ?_ (by first | exact zL _ | exact zK _ _ | assumption) _ | apply zP | apply zD | apply zN)))

set_option maxHeartbeats 1000000 in
theorem size_any (s : Shp) (n : Int) (w : World) (hs : s.Ok w) : Calls Tryz.prog 161 #[s.val, .int .i64 n] w (Gives (.int .i64 (s.size n)) w) := by
  have hl : s.refs.length ≤ 140737488355328 := hs.max
  have hM : s.may = true → s.refs.length ≤ 40 := fun h => (of_decide_eq_true h).1
  have hc := fun w' (he : Ext w w') => may_any s w' (hs.ext he)
  obtain ⟨arr, A, cap, refs⟩ := s
  unfold Shp.val at hc ⊢
  simp only at hl hM hc ⊢
  cases hm : Shp.may ⟨arr, A, cap, refs⟩
  · rw [hm] at hc
    have HC := Lib.hid hc
    clear hc hM
    have HV := Lib.hid (show Shp.size ⟨arr, A, cap, refs⟩ n = -1 by simp [Shp.size, hm])
    go_enter Tryz.func161, Tryz.ntmps161
    go_wp2_with (go_at_call 69; refine (HC.out _ (by (repeat (first | (with_reducible (first | assumption | exact zR _ | exact zM _ _ _ _)) | apply zA | refine zS ?_ (by first | exact zL _ | exact zK _ _ | assumption) _ | apply zP | apply zD | apply zN)))).mono ?_; rintro e w1 ⟨rfl, X1, rfl⟩)
    go_ret
    exact Gives.int HV.out.symm (by (repeat (first | (with_reducible (first | assumption | exact zR _ | exact zM _ _ _ _)) | apply zA | refine zS ?_ (by first | exact zL _ | exact zK _ _ | assumption) _ | apply zP | apply zD | apply zN)))
  · rw [hm] at hc
    have HC := Lib.hid hc
    have hl40 := hM hm
    have HM := Lib.hid hm
    clear hc hM hm
    by_cases h0 : n < 0
    · have HV := Lib.hid (show Shp.size ⟨arr, A, cap, refs⟩ n = -1 by unfold Shp.size; rw [if_pos (by omega)])
      go_enter Tryz.func161, Tryz.ntmps161
      go_wp2_with (go_at_call 69; refine (HC.out _ (by (repeat (first | (with_reducible (first | assumption | exact zR _ | exact zM _ _ _ _)) | apply zA | refine zS ?_ (by first | exact zL _ | exact zK _ _ | assumption) _ | apply zP | apply zD | apply zN)))).mono ?_; rintro e w1 ⟨rfl, X1, rfl⟩)
      go_ret
      exact Gives.int HV.out.symm (by (repeat (first | (with_reducible (first | assumption | exact zR _ | exact zM _ _ _ _)) | apply zA | refine zS ?_ (by first | exact zL _ | exact zK _ _ | assumption) _ | apply zP | apply zD | apply zN)))
    · by_cases h1 : 512 < n
      · have HV := Lib.hid (show Shp.size ⟨arr, A, cap, refs⟩ n = -1 by unfold Shp.size; rw [if_pos (by omega)])
        go_enter Tryz.func161, Tryz.ntmps161
        go_wp2_with (go_at_call 69; refine (HC.out _ (by (repeat (first | (with_reducible (first | assumption | exact zR _ | exact zM _ _ _ _)) | apply zA | refine zS ?_ (by first | exact zL _ | exact zK _ _ | assumption) _ | apply zP | apply zD | apply zN)))).mono ?_; rintro e w1 ⟨rfl, X1, rfl⟩)
        go_ret
        exact Gives.int HV.out.symm (by (repeat (first | (with_reducible (first | assumption | exact zR _ | exact zM _ _ _ _)) | apply zA | refine zS ?_ (by first | exact zL _ | exact zK _ _ | assumption) _ | apply zP | apply zD | apply zN)))
      · cases arr
        · by_cases h2 : 0 < n
          · have HV := Lib.hid (show Shp.size ⟨false, A, cap, refs⟩ n = -1 by unfold Shp.size; rw [if_pos (by simp; omega)])
            go_enter Tryz.func161, Tryz.ntmps161
            go_wp2_with (go_at_call 69; refine (HC.out _ (by (repeat (first | (with_reducible (first | assumption | exact zR _ | exact zM _ _ _ _)) | apply zA | refine zS ?_ (by first | exact zL _ | exact zK _ _ | assumption) _ | apply zP | apply zD | apply zN)))).mono ?_; rintro e w1 ⟨rfl, X1, rfl⟩)
            go_ret
            exact Gives.int HV.out.symm (by (repeat (first | (with_reducible (first | assumption | exact zR _ | exact zM _ _ _ _)) | apply zA | refine zS ?_ (by first | exact zL _ | exact zK _ _ | assumption) _ | apply zP | apply zD | apply zN)))
          · by_cases h3 : refs.length ≤ 6
            · have HV := Lib.hid (show Shp.size ⟨false, A, cap, refs⟩ n = 1 by unfold Shp.size Shp.len; rw [if_neg (by simp [HM.out]; omega), if_neg (by simp), if_pos (by simp only; omega)])
              go_enter Tryz.func161, Tryz.ntmps161
              go_wp2_with (go_at_call 69; refine (HC.out _ (by (repeat (first | (with_reducible (first | assumption | exact zR _ | exact zM _ _ _ _)) | apply zA | refine zS ?_ (by first | exact zL _ | exact zK _ _ | assumption) _ | apply zP | apply zD | apply zN)))).mono ?_; rintro e w1 ⟨rfl, X1, rfl⟩)
              go_ret
              exact Gives.int HV.out.symm (by (repeat (first | (with_reducible (first | assumption | exact zR _ | exact zM _ _ _ _)) | apply zA | refine zS ?_ (by first | exact zL _ | exact zK _ _ | assumption) _ | apply zP | apply zD | apply zN)))
            · have HV := Lib.hid (show Shp.size ⟨false, A, cap, refs⟩ n = 1 + ((refs.length : Int) - 6 + 7 - 1) / 7 by unfold Shp.size Shp.len; rw [if_neg (by simp [HM.out]; omega), if_neg (by simp), if_neg (by simp only; omega)]; simp only; omega)
              go_enter Tryz.func161, Tryz.ntmps161
              go_wp2_with (first | (go_at_call 69; refine (HC.out _ (by (repeat (first | (with_reducible (first | assumption | exact zR _ | exact zM _ _ _ _)) | apply zA | refine zS ?_ (by first | exact zL _ | exact zK _ _ | assumption) _ | apply zP | apply zD | apply zN)))).mono ?_; rintro e w1 ⟨rfl, X1, rfl⟩) | (go_at_call 184; refine (up_any _ _ _ (by omega) (by omega) (by omega) (by omega)).mono ?_; rintro e w1 ⟨rfl, X1, rfl⟩))
              go_ret
              exact Gives.int HV.out.symm (by (repeat (first | (with_reducible (first | assumption | exact zR _ | exact zM _ _ _ _)) | apply zA | refine zS ?_ (by first | exact zL _ | exact zK _ _ | assumption) _ | apply zP | apply zD | apply zN)))
        · have hb := sData_bd n
          have HV := Lib.hid (show Shp.size ⟨true, A, cap, refs⟩ n = 1 + sData n by unfold Shp.size; rw [if_neg (by simp [HM.out]; omega), if_pos rfl])
          go_enter Tryz.func161, Tryz.ntmps161
          go_wp2_with (first | (go_at_call 69; refine (HC.out _ (by (repeat (first | (with_reducible (first | assumption | exact zR _ | exact zM _ _ _ _)) | apply zA | refine zS ?_ (by first | exact zL _ | exact zK _ _ | assumption) _ | apply zP | apply zD | apply zN)))).mono ?_; rintro e w1 ⟨rfl, X1, rfl⟩) | (go_at_call 156; refine (data_any _ _).mono ?_; rintro e w1 ⟨rfl, X1, rfl⟩))
          go_ret
          exact Gives.int HV.out.symm (by (repeat (first | (with_reducible (first | assumption | exact zR _ | exact zM _ _ _ _)) | apply zA | refine zS ?_ (by first | exact zL _ | exact zK _ _ | assumption) _ | apply zP | apply zD | apply zN)))
end Go.Proofs.YtoaehfdjffejeaaGreat

/-
  shape, word, num, stock.Side: small functions that only compute.
-/
namespace Go.Proofs.YtoaehfdjffejeaaGreat
open Go Go.RowKit

set_option maxHeartbeats 1000000 in
theorem place_any (s : Shp) (k : Int) (w : World) (hs : s.Ok w) (hk : -9223372036854775808 ≤ k) (hk' : k ≤ 9223372036854775807) : Calls Tryz.prog 183 #[s.val, .int .i64 k] w
    (Gives (s.place k) w) := by
  have hl : s.refs.length ≤ 140737488355328 := hs.max
  have hM : s.may = true → s.refs.length ≤ 40 := fun h => (of_decide_eq_true h).1
  have hc := fun w' (he : Ext w w') => may_any s w' (hs.ext he)
  obtain ⟨arr, A, cap, refs⟩ := s
  unfold Shp.val at hc ⊢
  simp only at hl hM hc ⊢
  cases hm : Shp.may ⟨arr, A, cap, refs⟩
  · rw [hm] at hc
    have HC := Lib.hid hc
    have HV := Lib.hid (show Shp.place ⟨arr, A, cap, refs⟩ k = .tuple #[.int .i64 0, .int .i64 0, .bool false] by unfold Shp.place; rw [if_neg (by rw [Bool.not_eq_true]; simp [Shp.hasField, hm])])
    clear hc hM hm
    go_enter Tryz.func183, Tryz.ntmps183
    go_wp2_with (go_at_call 69; refine (HC.out _ (by (repeat (first | (with_reducible (first | assumption | exact zR _ | exact zM _ _ _ _)) | apply zA | refine zS ?_ (by first | exact zL _ | exact zK _ _ | assumption) _ | apply zP | apply zD | apply zN)))).mono ?_; rintro e w1 ⟨rfl, X1, rfl⟩)
    go_ret3
    rw [HV.out]
    exact Gives.iib rfl rfl rfl (by (repeat (first | (with_reducible (first | assumption | exact zR _ | exact zM _ _ _ _)) | apply zA | refine zS ?_ (by first | exact zL _ | exact zK _ _ | assumption) _ | apply zP | apply zD | apply zN)))
  · rw [hm] at hc
    have HC := Lib.hid hc
    have hl40 := hM hm
    have HM := Lib.hid hm
    clear hc hM hm
    cases arr
    · by_cases h1 : 0 ≤ k ∧ k < refs.length
      · obtain ⟨h1, h2⟩ := h1
        have HV := Lib.hid (show Shp.place ⟨false, A, cap, refs⟩ k = .tuple #[.int .i64 (Shp.placeF k), .int .i64 (Shp.placeW k), .bool true] by unfold Shp.place; rw [if_pos (by simp only [Shp.hasField, HM.out, Shp.len]; simp [h1, h2])])
        by_cases h3 : k < 6
        · go_enter Tryz.func183, Tryz.ntmps183
          go_wp2_with (go_at_call 69; refine (HC.out _ (by (repeat (first | (with_reducible (first | assumption | exact zR _ | exact zM _ _ _ _)) | apply zA | refine zS ?_ (by first | exact zL _ | exact zK _ _ | assumption) _ | apply zP | apply zD | apply zN)))).mono ?_; rintro e w1 ⟨rfl, X1, rfl⟩)
          go_ret3
          rw [HV.out]
          exact Gives.iib (by unfold Shp.placeF; rw [if_pos h3]) (by unfold Shp.placeW; rw [if_pos h3]) rfl (by (repeat (first | (with_reducible (first | assumption | exact zR _ | exact zM _ _ _ _)) | apply zA | refine zS ?_ (by first | exact zL _ | exact zK _ _ | assumption) _ | apply zP | apply zD | apply zN)))
        · go_enter Tryz.func183, Tryz.ntmps183
          go_wp2_with (go_at_call 69; refine (HC.out _ (by (repeat (first | (with_reducible (first | assumption | exact zR _ | exact zM _ _ _ _)) | apply zA | refine zS ?_ (by first | exact zL _ | exact zK _ _ | assumption) _ | apply zP | apply zD | apply zN)))).mono ?_; rintro e w1 ⟨rfl, X1, rfl⟩)
          go_ret3
          rw [HV.out]
          exact Gives.iib (by unfold Shp.placeF; rw [if_neg (by omega)]) (by unfold Shp.placeW; rw [if_neg (by omega)]) rfl (by (repeat (first | (with_reducible (first | assumption | exact zR _ | exact zM _ _ _ _)) | apply zA | refine zS ?_ (by first | exact zL _ | exact zK _ _ | assumption) _ | apply zP | apply zD | apply zN)))
      · have HV := Lib.hid (show Shp.place ⟨false, A, cap, refs⟩ k = .tuple #[.int .i64 0, .int .i64 0, .bool false] by unfold Shp.place; rw [if_neg (by rw [Bool.not_eq_true]; unfold Shp.hasField; rw [Bool.and_eq_false_iff]; right; rw [decide_eq_false_iff_not]; exact h1)])
        by_cases h2 : k < 0
        · go_enter Tryz.func183, Tryz.ntmps183
          go_wp2_with (go_at_call 69; refine (HC.out _ (by (repeat (first | (with_reducible (first | assumption | exact zR _ | exact zM _ _ _ _)) | apply zA | refine zS ?_ (by first | exact zL _ | exact zK _ _ | assumption) _ | apply zP | apply zD | apply zN)))).mono ?_; rintro e w1 ⟨rfl, X1, rfl⟩)
          go_ret3
          rw [HV.out]
          exact Gives.iib rfl rfl rfl (by (repeat (first | (with_reducible (first | assumption | exact zR _ | exact zM _ _ _ _)) | apply zA | refine zS ?_ (by first | exact zL _ | exact zK _ _ | assumption) _ | apply zP | apply zD | apply zN)))
        · have h4 : (refs.length : Int) ≤ k := by omega
          go_enter Tryz.func183, Tryz.ntmps183
          go_wp2_with (go_at_call 69; refine (HC.out _ (by (repeat (first | (with_reducible (first | assumption | exact zR _ | exact zM _ _ _ _)) | apply zA | refine zS ?_ (by first | exact zL _ | exact zK _ _ | assumption) _ | apply zP | apply zD | apply zN)))).mono ?_; rintro e w1 ⟨rfl, X1, rfl⟩)
          go_ret3
          rw [HV.out]
          exact Gives.iib rfl rfl rfl (by (repeat (first | (with_reducible (first | assumption | exact zR _ | exact zM _ _ _ _)) | apply zA | refine zS ?_ (by first | exact zL _ | exact zK _ _ | assumption) _ | apply zP | apply zD | apply zN)))
    · have HV := Lib.hid (show Shp.place ⟨true, A, cap, refs⟩ k = .tuple #[.int .i64 0, .int .i64 0, .bool false] by unfold Shp.place; rw [if_neg (by rw [Bool.not_eq_true]; simp [Shp.hasField])])
      go_enter Tryz.func183, Tryz.ntmps183
      go_wp2_with (go_at_call 69; refine (HC.out _ (by (repeat (first | (with_reducible (first | assumption | exact zR _ | exact zM _ _ _ _)) | apply zA | refine zS ?_ (by first | exact zL _ | exact zK _ _ | assumption) _ | apply zP | apply zD | apply zN)))).mono ?_; rintro e w1 ⟨rfl, X1, rfl⟩)
      go_ret3
      rw [HV.out]
      exact Gives.iib rfl rfl rfl (by (repeat (first | (with_reducible (first | assumption | exact zR _ | exact zM _ _ _ _)) | apply zA | refine zS ?_ (by first | exact zL _ | exact zK _ _ | assumption) _ | apply zP | apply zD | apply zN)))

theorem none_any (w : World) : Calls Tryz.prog 43 #[] w (Gives wNone w) := by
  go_enter Tryz.func43, Tryz.ntmps43
  go_wp2
  go_ret
  exact Gives.mk rfl (by (repeat (first | (with_reducible (first | assumption | exact zR _ | exact zM _ _ _ _)) | apply zA | refine zS ?_ (by first | exact zL _ | exact zK _ _ | assumption) _ | apply zP | apply zD | apply zN)))

theorem ref_any (i : Int) (w : World) : Calls Tryz.prog 107 #[.int .i64 i] w (Gives (wRef i) w) := by
  by_cases h : i < 0 ∨ 1099511627776 < i
  · rw [show wRef i = wNone by unfold wRef; rw [if_pos h]]
    by_cases h' : i < 0
    · go_enter Tryz.func107, Tryz.ntmps107
      go_wp2_with (go_at_call 43; refine (none_any _).mono ?_; rintro e w1 ⟨rfl, X1, rfl⟩)
      go_ret
      exact Gives.mk rfl (by (repeat (first | (with_reducible (first | assumption | exact zR _ | exact zM _ _ _ _)) | apply zA | refine zS ?_ (by first | exact zL _ | exact zK _ _ | assumption) _ | apply zP | apply zD | apply zN)))
    · have h'' : 1099511627776 < i := by omega
      clear h
      go_enter Tryz.func107, Tryz.ntmps107
      go_wp2_with (go_at_call 43; refine (none_any _).mono ?_; rintro e w1 ⟨rfl, X1, rfl⟩)
      go_ret
      exact Gives.mk rfl (by (repeat (first | (with_reducible (first | assumption | exact zR _ | exact zM _ _ _ _)) | apply zA | refine zS ?_ (by first | exact zL _ | exact zK _ _ | assumption) _ | apply zP | apply zD | apply zN)))
  · have HV := Lib.hid (show wRef i = .complex .f64 (floatOfInt .f64 (i + 1)) 4607182418800017408 by unfold wRef; rw [if_neg h])
    have h1 : 0 ≤ i := by omega
    have h2 : i ≤ 1099511627776 := by omega
    clear h
    go_enter Tryz.func107, Tryz.ntmps107
    go_wp2
    go_ret
    rw [HV.out]
    exact Gives.mk rfl (by (repeat (first | (with_reducible (first | assumption | exact zR _ | exact zM _ _ _ _)) | apply zA | refine zS ?_ (by first | exact zL _ | exact zK _ _ | assumption) _ | apply zP | apply zD | apply zN)))

theorem whole_any (n : Int) (w : World) : Calls Tryz.prog 110 #[.int .i64 n] w (Gives (wWhole n) w) := by
  by_cases h : n < -9007199254740992
  · have HV := Lib.hid (show wWhole n = wZero by unfold wWhole; rw [if_pos (by omega)])
    go_enter Tryz.func110, Tryz.ntmps110
    go_wp2
    go_ret
    rw [HV.out]
    exact Gives.mk rfl (by (repeat (first | (with_reducible (first | assumption | exact zR _ | exact zM _ _ _ _)) | apply zA | refine zS ?_ (by first | exact zL _ | exact zK _ _ | assumption) _ | apply zP | apply zD | apply zN)))
  · by_cases h' : 9007199254740992 < n
    · have HV := Lib.hid (show wWhole n = wZero by unfold wWhole; rw [if_pos (by omega)])
      go_enter Tryz.func110, Tryz.ntmps110
      go_wp2
      go_ret
      rw [HV.out]
      exact Gives.mk rfl (by (repeat (first | (with_reducible (first | assumption | exact zR _ | exact zM _ _ _ _)) | apply zA | refine zS ?_ (by first | exact zL _ | exact zK _ _ | assumption) _ | apply zP | apply zD | apply zN)))
    · have HV := Lib.hid (show wWhole n = .complex .f64 (floatOfInt .f64 n) 0 by unfold wWhole; rw [if_neg (by omega)])
      go_enter Tryz.func110, Tryz.ntmps110
      go_wp2
      go_ret
      rw [HV.out]
      exact Gives.mk rfl (by (repeat (first | (with_reducible (first | assumption | exact zR _ | exact zM _ _ _ _)) | apply zA | refine zS ?_ (by first | exact zL _ | exact zK _ _ | assumption) _ | apply zP | apply zD | apply zN)))

theorem blank_any (b : Bool) (w : World) : Calls Tryz.prog 159 #[.bool b] w (Gives (wBlank b) w) := by
  cases b
  · go_enter Tryz.func159, Tryz.ntmps159
    go_wp2_with (go_at_call 110; refine (whole_any _ _).mono ?_; rw [wWhole_zero]; rintro e w1 ⟨rfl, X1, rfl⟩)
    go_ret
    exact Gives.mk rfl (by (repeat (first | (with_reducible (first | assumption | exact zR _ | exact zM _ _ _ _)) | apply zA | refine zS ?_ (by first | exact zL _ | exact zK _ _ | assumption) _ | apply zP | apply zD | apply zN)))
  · go_enter Tryz.func159, Tryz.ntmps159
    go_wp2_with (go_at_call 43; refine (none_any _).mono ?_; rintro e w1 ⟨rfl, X1, rfl⟩)
    go_ret
    exact Gives.mk rfl (by (repeat (first | (with_reducible (first | assumption | exact zR _ | exact zM _ _ _ _)) | apply zA | refine zS ?_ (by first | exact zL _ | exact zK _ _ | assumption) _ | apply zP | apply zD | apply zN)))

theorem head_any (k m : Int) (w : World) : Calls Tryz.prog 151 #[.int .i64 k, .int .i64 m] w (Gives (wHead k m) w) := by
  by_cases h : k < 0 ∨ 1099511627776 < k ∨ m < 0 ∨ 1099511627776 < m
  · have HV := Lib.hid (show wHead k m = wZero by unfold wHead; rw [if_pos h])
    by_cases h1 : k < 0
    · clear h
      go_enter Tryz.func151, Tryz.ntmps151
      go_wp2
      go_ret
      rw [HV.out]
      exact Gives.mk rfl (by (repeat (first | (with_reducible (first | assumption | exact zR _ | exact zM _ _ _ _)) | apply zA | refine zS ?_ (by first | exact zL _ | exact zK _ _ | assumption) _ | apply zP | apply zD | apply zN)))
    · by_cases h2 : 1099511627776 < k
      · clear h
        go_enter Tryz.func151, Tryz.ntmps151
        go_wp2
        go_ret
        rw [HV.out]
        exact Gives.mk rfl (by (repeat (first | (with_reducible (first | assumption | exact zR _ | exact zM _ _ _ _)) | apply zA | refine zS ?_ (by first | exact zL _ | exact zK _ _ | assumption) _ | apply zP | apply zD | apply zN)))
      · by_cases h3 : m < 0
        · clear h
          go_enter Tryz.func151, Tryz.ntmps151
          go_wp2
          go_ret
          rw [HV.out]
          exact Gives.mk rfl (by (repeat (first | (with_reducible (first | assumption | exact zR _ | exact zM _ _ _ _)) | apply zA | refine zS ?_ (by first | exact zL _ | exact zK _ _ | assumption) _ | apply zP | apply zD | apply zN)))
        · have h4 : 1099511627776 < m := by omega
          clear h
          go_enter Tryz.func151, Tryz.ntmps151
          go_wp2
          go_ret
          rw [HV.out]
          exact Gives.mk rfl (by (repeat (first | (with_reducible (first | assumption | exact zR _ | exact zM _ _ _ _)) | apply zA | refine zS ?_ (by first | exact zL _ | exact zK _ _ | assumption) _ | apply zP | apply zD | apply zN)))
  · have HV := Lib.hid (show wHead k m = .complex .f64 (floatOfInt .f64 k) (floatOfInt .f64 m) by unfold wHead; rw [if_neg h])
    have h1 : 0 ≤ k := by omega
    have h2 : k ≤ 1099511627776 := by omega
    have h3 : 0 ≤ m := by omega
    have h4 : m ≤ 1099511627776 := by omega
    clear h
    go_enter Tryz.func151, Tryz.ntmps151
    go_wp2
    go_ret
    rw [HV.out]
    exact Gives.mk rfl (by (repeat (first | (with_reducible (first | assumption | exact zR _ | exact zM _ _ _ _)) | apply zA | refine zS ?_ (by first | exact zL _ | exact zK _ _ | assumption) _ | apply zP | apply zD | apply zN)))
end Go.Proofs.YtoaehfdjffejeaaGreat

/-
  slices.Clone at bools and ints; conf.copied, conf.Shape.
-/
namespace Go.Proofs.YtoaehfdjffejeaaGreat
open Go Go.RowKit

attribute [local go_sem] Lib.run_eql_slice_nil
theorem infoBool : (Tryz.prog.info? 4).map (fun i => (i.zero, i.size, i.bytes)) = some (some (.bool false), 1, 1) := by kernel_rfl

theorem cloneBool_any (A : Option Addr) (cap : Nat) (l : List Bool) (w : World) (hc : CellsAt w A (l.map Value.bool)) (hl : l.length ≤ 140737488355328) :
    Calls Tryz.prog 118 #[.slice A l.length cap] w (fun e w' => ∃ A' cap', e = .returned (.slice A' l.length cap') ∧ CellsAt w' A' (l.map Value.bool) ∧ l.length ≤ cap' ∧ (∀ a, A' = some a → w.heap.size ≤ a.block) ∧ Ext w w') := by
  obtain ⟨i0, hi, hz0, hz1, hz2⟩ := info_parts infoBool
  have hq := fun w => Lib.run_eql_slice_nil (P := Tryz.prog) w 71 4 A l.length cap 0 0 Tryz.underlying71
  rcases A with _ | ad
  · obtain rfl : l = [] := by
      rcases l with _ | ⟨x, l⟩
      · rfl
      · obtain ⟨b, o, h, _⟩ := hc.at_ (i := 0) (by simp)
        cases h
    go_enter Tryz.func118, Tryz.ntmps118
    go_wp2_with fail
    go_ret
    exact ⟨none, 0, rfl, CellsAt.nil _ _, by simp, (fun a h => by cases h), by (repeat (first | (with_reducible (first | assumption | exact zR _ | exact zM _ _ _ _)) | apply zA | refine zS ?_ (by first | exact zL _ | exact zK _ _ | assumption) _ | apply zP | apply zD | apply zN))⟩
  · go_enter Tryz.func118, Tryz.ntmps118
    go_wp2_with (at_builtin; refine wpList_append_own _ rfl (.tmp 5) (.tmp 6) 71 rfl w.heap.size 4 i0 (.bool false) 1 1 Tryz.underlying71 hi hz0 hz1 hz2 rfl (by decide) _ _ _ rfl (World.ownsRow_made (cap := 0) _ #[] (Nat.le_refl _) (by decide) rfl) ad l.length cap (l.map Value.bool) rfl (by simp) (cells_add (hc.alloc _)) (by intro u hu; simp at hu; rcases hu with ⟨_, rfl⟩ | ⟨_, rfl⟩ <;> rfl) (by unfold maxLen; omega) (by omega) (by simp) ?_; intro v' w1 hown hgrow hn)
    simp only [Nat.zero_add, List.nil_append] at hown
    obtain ⟨A', c', hv⟩ := own_form hown
    rw [hv] at hown
    have HV := Lib.hid hv
    clear hv
    go_ret
    exact ⟨A', c', congrArg Ending.returned HV.out, cellsAt_of_own hown, (own_len hown).1, own_fresh hown, ext_grown (Ext.alloc (Ext.refl _) _) hgrow (fun k hk => by cases hk; exact Nat.le_refl _)⟩

theorem copied_any (s : Shp) (w : World) (hs : s.Ok w) :
    Calls Tryz.prog 80 #[s.val] w (fun e w' => ∃ s' : Shp, e = .returned s'.val ∧ s'.arr = s.arr ∧ s'.refs = s.refs ∧ (∀ a, s'.A = some a → w.heap.size ≤ a.block) ∧ s'.Ok w' ∧ Ext w w') := by
  have hl : s.refs.length ≤ 140737488355328 := hs.max
  have HC := Lib.hid (fun w' (he : Ext w w') => cloneBool_any s.A s.cap s.refs w' (hs.refs.ext he) hl)
  obtain ⟨arr, A, cap, refs⟩ := s
  unfold Shp.val
  simp only at HC ⊢
  go_enter Tryz.func80, Tryz.ntmps80
  go_wp2_with fail
  refine wp_region_mixed [true, true, true, true, false, false, false] 3 6 (by kernel_rfl) (by kernel_rfl) (by kernel_rfl) ?_ (by decide) (by decide) (by decide) (by kernel_rfl) ?_
  · intro c a d v w h; cases d <;> exact h
  intro X00
  simp only [pickOps]
  repeat (go_big_quiet_step (fail))
  refine wpQuiet_nil (fun X0 => ?_)
  clear X00
  refine wpAnyM_one 4 _ (by kernel_rfl) rfl rfl (by decide) (fun X1 K Q' hK => ?_)
  go_simp
  refine (HC.out _ (by (repeat (first | (with_reducible (first | assumption | exact zR _ | exact zM _ _ _ _)) | apply zA | refine zS ?_ (by first | exact zL _ | exact zK _ _ | assumption) _ | apply zP | apply zD | apply zN)))).mono ?_; rintro e w1 ⟨A', cap', rfl, hcell, hle, hfr, X3, rfl⟩
  refine hK _ _ ?_ ?_
  · (repeat (first | (with_reducible (first | assumption | exact zR _ | exact zM _ _ _ _)) | apply zA | refine zS ?_ (by first | exact zL _ | exact zK _ _ | assumption) _ | apply zP | apply zD | apply zN))
  clear hK K Q'
  refine wpAnyM_one 5 _ (by kernel_rfl) rfl rfl (by decide) (fun X1 K Q' hK => ?_)
  go_simp
  refine hK _ _ ?_ ?_
  · (repeat (first | (with_reducible (first | assumption | exact zR _ | exact zM _ _ _ _)) | apply zA | refine zS ?_ (by first | exact zL _ | exact zK _ _ | assumption) _ | apply zP | apply zD | apply zN))
  clear hK K Q'
  refine wpAnyM_last 6 _ (by kernel_rfl) (by kernel_rfl) rfl rfl (fun X1 K Q' hK => ?_)
  go_simp
  refine hK _ _ (fun X2 => ?_)
  clear hK K Q'
  go_wp2_with fail
  rw [World.patch_patch] at hcell ⊢
  refine bodyPost_ret (v := .agg #[.bool arr, .slice A' refs.length cap']) (by simp [results, Tryz.results80, go_sem]) rfl ⟨⟨arr, A', cap', refs⟩, rfl, rfl, rfl, (fun a ha => Nat.le_trans (Ext.size (by (repeat (first | (with_reducible (first | assumption | exact zR _ | exact zM _ _ _ _)) | apply zA | refine zS ?_ (by first | exact zL _ | exact zK _ _ | assumption) _ | apply zP | apply zD | apply zN)))) (hfr a ha)), ⟨hcell.rebase (fun a ha => Nat.le_trans (Ext.size ⟨_, rfl⟩) (hfr a ha)) (by simp) ⟨_, by simp only [Array.append_assoc]; rfl⟩, hle, hl⟩, by (repeat (first | (with_reducible (first | assumption | exact zR _ | exact zM _ _ _ _)) | apply zA | refine zS ?_ (by first | exact zL _ | exact zK _ _ | assumption) _ | apply zP | apply zD | apply zN))⟩

def ShapeGot (c : Cnf) (k : Int) (w : World) (e : Ending) (w' : World) : Prop :=
  ∃ s' : Shp, e = .returned (.tuple #[s'.val, .bool (c.shapeAt k).isSome]) ∧ (s'.arr, s'.refs) = (c.shapeAt k).getD (false, []) ∧ (∀ a, s'.A = some a → w.heap.size ≤ a.block) ∧ s'.Ok w' ∧ Ext w w'
set_option maxHeartbeats 1000000 in
theorem shape_any (c : Cnf) (k : Int) (w : World) (hc : c.Ok w) : Calls Tryz.prog 127 #[c.val, .int .i64 k] w (ShapeGot c k w) := by
  have hl := hc.max
  unfold Cnf.val
  by_cases h0 : k < 0
  · go_enter Tryz.func127, Tryz.ntmps127
    go_wp2_with fail
    refine bodyPost_ret (v := .tuple #[.agg #[.bool false, .slice none 0 0], .bool false]) (by simp [results, Tryz.results127, go_sem]) rfl ?_
    exact ⟨⟨false, none, 0, []⟩, by rw [Cnf.shapeAt_neg h0]; rfl, by rw [Cnf.shapeAt_neg h0]; rfl, (fun a h => by cases h), ⟨CellsAt.nil _ _, by simp, by simp⟩, by (repeat (first | (with_reducible (first | assumption | exact zR _ | exact zM _ _ _ _)) | apply zA | refine zS ?_ (by first | exact zL _ | exact zK _ _ | assumption) _ | apply zP | apply zD | apply zN))⟩
  · by_cases h1 : k < c.shapes.length
    · obtain ⟨n, rfl⟩ := Int.eq_ofNat_of_zero_le (show 0 ≤ k by omega)
      have h2 : n < c.shapes.length := by omega
      obtain ⟨b, o, hA, hb, g0, g1⟩ := shapes_at hc.cells h2
      rw [hA]
      have hsk := hc.shapes _ (List.getElem_mem h2)
      have HC := Lib.hid (fun w' (he : Ext w w') => copied_any c.shapes[n] w' (hsk.ext he))
      have HS := Lib.hid (Cnf.shapeAt_in (List.getElem?_eq_getElem h2))
      generalize c.shapes[n] = s at *
      clear hc hA
      go_enter Tryz.func127, Tryz.ntmps127
      go_wp2_with fail
      refine (HC.out _ (by (repeat (first | (with_reducible (first | assumption | exact zR _ | exact zM _ _ _ _)) | apply zA | refine zS ?_ (by first | exact zL _ | exact zK _ _ | assumption) _ | apply zP | apply zD | apply zN)))).mono ?_
      rintro e w1 ⟨s', rfl, ha, hr, hfr, hok, X, rfl⟩
      unfold Shp.val
      have HA := Lib.hid ha
      have HR := Lib.hid hr
      clear ha hr
      go_wp2_with fail
      refine bodyPost_ret (v := .tuple #[.agg #[.bool s'.arr, .slice s'.A s'.refs.length s'.cap], .bool true]) (by simp [results, Tryz.results127, go_sem]) rfl ?_
      exact ⟨s', by rw [HS.out]; rfl, by rw [HS.out, HA.out, HR.out]; rfl, (fun a ha => Nat.le_trans (Ext.size (by (repeat (first | (with_reducible (first | assumption | exact zR _ | exact zM _ _ _ _)) | apply zA | refine zS ?_ (by first | exact zL _ | exact zK _ _ | assumption) _ | apply zP | apply zD | apply zN)))) (hfr a ha)), hok.rebase hfr (by simp) ⟨#[], by simp⟩, by (repeat (first | (with_reducible (first | assumption | exact zR _ | exact zM _ _ _ _)) | apply zA | refine zS ?_ (by first | exact zL _ | exact zK _ _ | assumption) _ | apply zP | apply zD | apply zN))⟩
    · have h2 : (c.shapes.length : Int) ≤ k := by omega
      clear h1
      go_enter Tryz.func127, Tryz.ntmps127
      go_wp2_with fail
      refine bodyPost_ret (v := .tuple #[.agg #[.bool false, .slice none 0 0], .bool false]) (by simp [results, Tryz.results127, go_sem]) rfl ?_
      exact ⟨⟨false, none, 0, []⟩, by rw [Cnf.shapeAt_big h2]; rfl, by rw [Cnf.shapeAt_big h2]; rfl, (fun a h => by cases h), ⟨CellsAt.nil _ _, by simp, by simp⟩, by (repeat (first | (with_reducible (first | assumption | exact zR _ | exact zM _ _ _ _)) | apply zA | refine zS ?_ (by first | exact zL _ | exact zK _ _ | assumption) _ | apply zP | apply zD | apply zN))⟩
end Go.Proofs.YtoaehfdjffejeaaGreat

