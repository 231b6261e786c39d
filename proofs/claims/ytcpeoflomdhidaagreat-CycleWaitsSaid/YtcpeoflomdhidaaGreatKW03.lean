import Derived.Test.YtcpeoflomdhidaaGreatKW02
import Derived.Test.YtcpeoflomdhidaaGreatChecked
/-
  Packed: TabNew, Shade, Coil, Pool, Shape, Shape2, Clone.
-/
open Go.Ext renaming alloc → zA, patch → zP, drew → zD, drewN → zN, more → zM, refl → zR, setCell → zS
open Nat renaming le_refl → zL, le_add_right → zK
/-
  tint.New.
-/
namespace Go
open Go.RowKit
def One.zero : One := ⟨0, false, false⟩
theorem made_three (n : Nat) : madeCells #[.int .i64 0, .bool false, .bool false] (n * 3) = ((List.replicate n One.zero).flatMap One.cells).toArray := by
  apply Array.ext_getElem?
  intro j
  conv => rhs; rw [List.getElem?_toArray]
  by_cases hj : j < n * 3
  · have e := flat_at One.cells_len (List.replicate n One.zero) (j / 3) (j % 3) One.zero (by rw [List.getElem?_replicate, if_pos (by omega)]) (by omega)
    rw [show j / 3 * 3 + j % 3 = j by omega] at e
    rw [e]
    simp only [madeCells, Array.getElem?_map, Array.getElem?_range, if_pos hj, Option.map_some]
    have : j % 3 = 0 ∨ j % 3 = 1 ∨ j % 3 = 2 := by omega
    rcases this with h | h | h <;> simp [h, One.cells, One.zero]
  · rw [Array.getElem?_eq_none (by rw [size_madeCells]; omega), List.getElem?_eq_none (by rw [flat_size _ One.cells_len]; simp; omega)]
def TabS.fresh (n : Nat) : TabS := ⟨List.replicate n One.zero⟩
end Go
namespace Go.Proofs.YtcpeoflomdhidaaGreat
open Go Go.RowKit
set_option linter.unusedVariables false
set_option linter.unnecessarySimpa false
set_option linter.unusedSimpArgs false
set_option maxHeartbeats 4000000
theorem infoOne : (Tryz.prog.info? 134).map (fun i => (i.zero, i.size, i.bytes)) = some (some (.agg #[.int .i64 0, .bool false, .bool false]), 3, 16) := by kernel_rfl

set_option maxRecDepth 100000 in
theorem tab_new (n : Nat) (t : Nat) (g : GW) (hn : n ≤ 1024) : Calls Tryz.prog 7 #[.int .i64 n] g.w (fun e w' => ∃ own' b, e = .returned (.tuple #[.pointer (some ⟨b, 0, none⟩), .int .i64 0]) ∧ Mod (fun _ => False) g ⟨own', w'⟩ ∧ TabAt ⟨own', w'⟩ t b (TabS.fresh n)) := by
  obtain ⟨i0, hi, hz0, hz1, hz2⟩ := info_parts infoOne
  have hmk := run_made (P := Tryz.prog) 105 134 i0 _ 3 16 Tryz.underlying105 hi hz0 hz1 hz2 n (by omega) (by omega)
  simp only [Value.cells, made_three] at hmk
  obtain ⟨arr, harr⟩ : ∃ arr : Array Value, ((List.replicate n One.zero).flatMap One.cells).toArray = arr := ⟨_, rfl⟩
  rw [harr] at hmk
  have HA := Lib.hid harr
  have HN := Lib.hid hn
  clear harr
  go_enter Tryz.func7, Tryz.ntmps7
  go_wp2_with fail
  go_ret2
  obtain ⟨q1, q2⟩ := two_blocks g.w (.cells arr 134) (.cells #[.slice (some ⟨g.w.heap.size, 0, none⟩) n n, .int .i64 n, .int .i64 0, .int .i64 0] 108)
  refine ⟨_, _, rfl, Mod.ext (show Ext g.w _ by (repeat (first | (with_reducible (first | assumption | exact zR _ | exact zM _ _ _ _)) | apply zA | refine zS ?_ (by first | exact zL _ | exact zK _ _ | assumption) _ | apply zP | apply zD | apply zN))) t, ⟨⟨some ⟨g.w.heap.size, 0, none⟩, n, ?_, ?_⟩, by simpa [TabS.fresh] using HN.out, fun o ho => ?_⟩⟩
  · have := Blk.made (g := g) (t := t) (vs := [.slice (some ⟨g.w.heap.size, 0, none⟩) n n, .int .i64 n, .int .i64 0, .int .i64 0]) q2 (by omega)
    have e0 : TabS.cnt (TabS.fresh n) 0 = n := by simp [TabS.cnt, TabS.fresh, List.countP_replicate, One.zero]
    have e1 : TabS.cnt (TabS.fresh n) 1 = 0 := by simp [TabS.cnt, TabS.fresh, List.countP_replicate, One.zero]
    have e2 : TabS.cnt (TabS.fresh n) 2 = 0 := by simp [TabS.cnt, TabS.fresh, List.countP_replicate, One.zero]
    rw [e0, e1, e2, show (TabS.fresh n).l.length = n by simp [TabS.fresh]]
    exact this
  · rw [show (TabS.fresh n).l.length = n by simp [TabS.fresh]]
    exact Row.made (HA.out ▸ q1) (Nat.le_refl _) (by rw [flat_size _ One.cells_len]; simp [TabS.fresh]) (by have := HN.out; omega)
  · rw [(List.mem_replicate.1 ho).2]
    decide
end Go.Proofs.YtcpeoflomdhidaaGreat

/-
  shade: New, Len, Table.
-/
namespace Go.Proofs.YtcpeoflomdhidaaGreat
open Go Go.RowKit
set_option linter.unusedVariables false
set_option linter.unnecessarySimpa false
set_option linter.unusedSimpArgs false
set_option maxHeartbeats 4000000
theorem shade_new (n : Nat) (most : Int) (t tt tp : Nat) (g : GW) (hn : n ≤ 1024) (hm : 1 ≤ most ∧ most ≤ 256) : Calls Tryz.prog 161 #[.int .i64 n, .int .i64 most] g.w (fun e w' => ∃ own' b bt bp, e = .returned (.tuple #[.pointer (some ⟨b, 0, none⟩), .int .i64 0]) ∧ Mod (fun _ => False) g ⟨own', w'⟩ ∧ Blk ⟨own', w'⟩ t b 148 [.pointer (some ⟨bt, 0, none⟩), .pointer (some ⟨bp, 0, none⟩), .int .i64 0] ∧ TabAt ⟨own', w'⟩ tt bt (TabS.fresh n) ∧ PileAt ⟨own', w'⟩ tp bp ⟨[], most, false⟩) := by
  have HT := Lib.hid (tab_new n tt g hn)
  have HP := Lib.hid (fun g' => (pile_new most tp g').mono fun e w' hh => by
    unfold PileMade at hh
    rw [if_pos hm] at hh
    exact hh)
  clear hn
  go_enter Tryz.func161, Tryz.ntmps161
  go_wp2_with fail
  refine HT.out.mono ?_
  rintro e w1 ⟨own1, bt, rfl, m1, t1⟩
  have M1 := Lib.hid m1
  have T1 := Lib.hid t1
  clear m1 t1 HT
  go_wp2_with fail
  refine (HP.out ⟨own1, w1⟩).mono ?_
  rintro e w2 ⟨bp, rfl, he, p2⟩
  have m2 := Mod.ext (T := fun _ => False) (g := ⟨own1, w1⟩) he tp
  have M2 := Lib.hid (M1.out.trans m2)
  have T2 := Lib.hid (T1.out.keep m2 id)
  have P2 := Lib.hid p2
  clear m2 p2 he HP
  go_wp2_with fail
  go_ret2
  have m3 := Mod.ext (T := fun _ => False) (g := (⟨own1, w1⟩ : GW).to tp w2) (show Ext w2 (w2.alloc (.cells #[.pointer (some ⟨bt, 0, none⟩), .pointer (some ⟨bp, 0, none⟩), .int .i64 0] 148)) by (repeat (first | (with_reducible (first | assumption | exact zR _ | exact zM _ _ _ _)) | apply zA | refine zS ?_ (by first | exact zL _ | exact zK _ _ | assumption) _ | apply zP | apply zD | apply zN))) t
  exact ⟨_, _, _, _, rfl, M2.out.trans m3, Blk.made (World.row_alloc_new _) (Nat.le_refl _), T2.out.keep m3 id, P2.out.keep m3 id⟩
theorem shade_table (bt : Nat) (w : World) : Calls Tryz.prog 91 #[.agg #[.pointer (some ⟨bt, 0, none⟩)]] w (Gives (.pointer (some ⟨bt, 0, none⟩)) w) := by
  go_enter Tryz.func91, Tryz.ntmps91
  go_wp2_with fail
  go_ret
  exact Gives.of_ext (by (repeat (first | (with_reducible (first | assumption | exact zR _ | exact zM _ _ _ _)) | apply zA | refine zS ?_ (by first | exact zL _ | exact zK _ _ | assumption) _ | apply zP | apply zD | apply zN)))
end Go.Proofs.YtcpeoflomdhidaaGreat

/-
  coil: the two spaces of spines.
-/
namespace Go.Proofs.YtcpeoflomdhidaaGreat
open Go Go.RowKit
set_option linter.unusedVariables false
set_option linter.unnecessarySimpa false
set_option linter.unusedSimpArgs false
set_option maxHeartbeats 2000000

structure CoilAt (g : GW) (t b : Nat) (c : CoilS) : Prop where
  blk : Blk g t b 138 [.int .i64 c.size, .int .i64 c.cur, .int .i64 c.u0, .int .i64 c.u1, .int .i64 c.kept]
  ok : c.Ok
theorem CoilAt.keep {S : Nat → Prop} {g g' : GW} {t b : Nat} {c : CoilS} (h : CoilAt g t b c) (d : Mod S g g') (hs : ¬ S t) : CoilAt g' t b c := ⟨h.blk.keep d hs, h.ok⟩
theorem CoilAt.pt {g : GW} {t b : Nat} {c : CoilS} (h : CoilAt g t b c) (X : Extra) : CoilAt (g.pt X) t b c := h.keep (S := fun _ => False) (Mod.pt (Mod.refl _ _) X) id

theorem coil_current (g : GW) (t b : Nat) (c : CoilS) (h : CoilAt g t b c) :
    Calls Tryz.prog 26 #[.pointer (some ⟨b, 0, none⟩)] g.w (fun e w' => e = .returned (.int .i64 c.cur) ∧ g.w = w') := by
  have c1 := h.blk.cell (i := 1) rfl
  clear h
  go_enter Tryz.func26, Tryz.ntmps26
  go_wp2_with fail
  go_ret
  exact ⟨rfl, rfl⟩
theorem coil_used (g : GW) (t b s : Nat) (c : CoilS) (h : CoilAt g t b c) (hs : s < 2) :
    Calls Tryz.prog 192 #[.pointer (some ⟨b, 0, none⟩), .int .i64 s] g.w (fun e w' => e = .returned (.int .i64 (c.used s)) ∧ g.w = w') := by
  have c2 := h.blk.cell (i := 2) rfl
  have c3 := h.blk.cell (i := 3) rfl
  clear h
  rcases (show s = 0 ∨ s = 1 by omega) with rfl | rfl
  · have HV := Lib.hid (show c.used 0 = c.u0 from rfl)
    go_enter Tryz.func192, Tryz.ntmps192
    go_wp2_with fail
    go_ret
    exact ⟨by rw [HV.out]; try rfl, rfl⟩
  · have HV := Lib.hid (show c.used 1 = c.u1 from rfl)
    go_enter Tryz.func192, Tryz.ntmps192
    go_wp2_with fail
    go_ret
    exact ⟨by rw [HV.out]; try rfl, rfl⟩
theorem coil_room (g : GW) (t b : Nat) (c : CoilS) (h : CoilAt g t b c) :
    Calls Tryz.prog 27 #[.pointer (some ⟨b, 0, none⟩)] g.w (Gives (.int .i64 c.room) g.w) := by
  have c0 := h.blk.cell (i := 0) rfl
  have c1 := h.blk.cell (i := 1) rfl
  have c2 := h.blk.cell (i := 2) rfl
  have c3 := h.blk.cell (i := 3) rfl
  have c4 := h.blk.cell (i := 4) rfl
  have hbl := h.blk.lt
  obtain ⟨o1, ⟨_, _⟩, ⟨_, _⟩, ⟨_, _⟩, ⟨_, _⟩, _⟩ := h.ok
  clear h
  obtain ⟨size, cur, u0, u1, kept⟩ := c
  simp only at *
  rcases (show cur = 0 ∨ cur = 1 by omega) with rfl | rfl
  · replace c1 : g.w.cell? ⟨b, 1, none⟩ = some (.int .i64 0) := c1
    have HV := Lib.hid (show CoilS.room ⟨size, 0, u0, u1, kept⟩ = size - u0 - kept from rfl)
    go_enter Tryz.func27, Tryz.ntmps27
    go_wp2_with fail
    refine wp_region_mixed [true, true, true, true, true, true, true, true, true, true, true, true, true, true, true, true, true, true, true, true] 0 20 (by kernel_rfl) (by kernel_rfl) (by kernel_rfl) ?_ (by decide) (by decide) (by decide) (by kernel_rfl) ?_
    · intro c a d v w h; cases d <;> exact h
    intro X00
    simp only [pickOps]
    repeat (go_big_quiet_step (fail))
    refine wpQuiet_nil (fun X0 => ?_)
    clear X00
    refine wpAnyM_done (by kernel_rfl) (fun X0' => ?_) _
    go_wp2_with fail
    go_ret
    exact Gives.int (by rw [HV.out]; try rfl) (by (repeat (first | (with_reducible (first | assumption | exact zR _ | exact zM _ _ _ _)) | apply zA | refine zS ?_ (by first | exact zL _ | exact zK _ _ | assumption) _ | apply zP | apply zD | apply zN)))
  · replace c1 : g.w.cell? ⟨b, 1, none⟩ = some (.int .i64 1) := c1
    have HV := Lib.hid (show CoilS.room ⟨size, 1, u0, u1, kept⟩ = size - u1 - kept from rfl)
    go_enter Tryz.func27, Tryz.ntmps27
    go_wp2_with fail
    refine wp_region_mixed [true, true, true, true, true, true, true, true, true, true, true, true, true, true, true, true, true, true, true, true] 0 20 (by kernel_rfl) (by kernel_rfl) (by kernel_rfl) ?_ (by decide) (by decide) (by decide) (by kernel_rfl) ?_
    · intro c a d v w h; cases d <;> exact h
    intro X00
    simp only [pickOps]
    repeat (go_big_quiet_step (fail))
    refine wpQuiet_nil (fun X0 => ?_)
    clear X00
    refine wpAnyM_done (by kernel_rfl) (fun X0' => ?_) _
    go_wp2_with fail
    go_ret
    exact Gives.int (by rw [HV.out]; try rfl) (by (repeat (first | (with_reducible (first | assumption | exact zR _ | exact zM _ _ _ _)) | apply zA | refine zS ?_ (by first | exact zL _ | exact zK _ _ | assumption) _ | apply zP | apply zD | apply zN)))
theorem coil_lays (g : GW) (t b : Nat) (n : Int) (c : CoilS) (h : CoilAt g t b c) (hn : 0 ≤ n ∧ n ≤ 4096) (hok : (c.lays n).Ok) :
    Calls Tryz.prog 158 #[.pointer (some ⟨b, 0, none⟩), .int .i64 n] g.w (Does (.int .i64 (c.used c.cur)) g (fun x => x = t) (fun g' => CoilAt g' t b (c.lays n))) := by
  have c0 := h.blk.cell (i := 0) rfl
  have c1 := h.blk.cell (i := 1) rfl
  have c2 := h.blk.cell (i := 2) rfl
  have c3 := h.blk.cell (i := 3) rfl
  have c4 := h.blk.cell (i := 4) rfl
  have f2 := h.blk.live 2
  have f3 := h.blk.live 3
  have hbl := h.blk.lt
  obtain ⟨o1, ⟨_, _⟩, ⟨_, _⟩, ⟨_, _⟩, ⟨_, _⟩, _⟩ := h.ok
  have HO := Lib.hid h.blk.own
  have HB := Lib.hid h.blk
  have HK := Lib.hid hok
  obtain ⟨hn0, hn1⟩ := hn
  clear h hok
  obtain ⟨size, cur, u0, u1, kept⟩ := c
  simp only at *
  rcases (show cur = 0 ∨ cur = 1 by omega) with rfl | rfl
  · replace c1 : g.w.cell? ⟨b, 1, none⟩ = some (.int .i64 0) := c1
    have HT := Lib.hid (show CoilS.lays ⟨size, 0, u0, u1, kept⟩ n = ⟨size, 0, u0 + n, u1, kept⟩ from rfl)
    rw [HT.out] at HK
    go_enter Tryz.func158, Tryz.ntmps158
    go_wp2_with fail
    refine wp_region_mixed [true, true, true, true, true, true, true, true, true, true] 0 10 (by kernel_rfl) (by kernel_rfl) (by kernel_rfl) ?_ (by decide) (by decide) (by decide) (by kernel_rfl) ?_
    · intro c a d v w h; cases d <;> exact h
    intro X00
    simp only [pickOps]
    repeat (go_big_quiet_step (fail))
    refine wpQuiet_nil (fun X0 => ?_)
    clear X00
    refine wpAnyM_done (by kernel_rfl) (fun X0' => ?_) _
    go_wp2_with fail
    refine wp_region_mixed [true, true, true, true, true, true, true, true, true, true, true, true, true, true, false] 1 14 (by kernel_rfl) (by kernel_rfl) (by kernel_rfl) ?_ (by decide) (by decide) (by decide) (by kernel_rfl) ?_
    · intro c a d v w h; cases d <;> exact h
    intro X00
    simp only [pickOps]
    repeat (go_big_quiet_step (fail))
    refine wpQuiet_nil (fun X0 => ?_)
    clear X00
    refine wpAnyM_last 14 _ (by kernel_rfl) (by kernel_rfl) rfl rfl (fun X1 K Q' hK => ?_)
    go_simp
    refine hK _ _ (fun X2 => ?_)
    clear hK K Q'
    go_wp2_with fail
    go_ret
    (try rw [World.patch_patch])
    refine Does.of (GW.pt ⟨g.own, _⟩ _) rfl rfl (Mod.pt (Mod.st Mod.self HO.out) _) ?_
    rw [HT.out]
    exact CoilAt.pt ⟨HB.out.set 2 _, HK.out⟩ _
  · replace c1 : g.w.cell? ⟨b, 1, none⟩ = some (.int .i64 1) := c1
    have HT := Lib.hid (show CoilS.lays ⟨size, 1, u0, u1, kept⟩ n = ⟨size, 1, u0, u1 + n, kept⟩ from rfl)
    rw [HT.out] at HK
    go_enter Tryz.func158, Tryz.ntmps158
    go_wp2_with fail
    refine wp_region_mixed [true, true, true, true, true, true, true, true, true, true] 0 10 (by kernel_rfl) (by kernel_rfl) (by kernel_rfl) ?_ (by decide) (by decide) (by decide) (by kernel_rfl) ?_
    · intro c a d v w h; cases d <;> exact h
    intro X00
    simp only [pickOps]
    repeat (go_big_quiet_step (fail))
    refine wpQuiet_nil (fun X0 => ?_)
    clear X00
    refine wpAnyM_done (by kernel_rfl) (fun X0' => ?_) _
    go_wp2_with fail
    refine wp_region_mixed [true, true, true, true, true, true, true, true, true, true, true, true, true, true, false] 1 14 (by kernel_rfl) (by kernel_rfl) (by kernel_rfl) ?_ (by decide) (by decide) (by decide) (by kernel_rfl) ?_
    · intro c a d v w h; cases d <;> exact h
    intro X00
    simp only [pickOps]
    repeat (go_big_quiet_step (fail))
    refine wpQuiet_nil (fun X0 => ?_)
    clear X00
    refine wpAnyM_last 14 _ (by kernel_rfl) (by kernel_rfl) rfl rfl (fun X1 K Q' hK => ?_)
    go_simp
    refine hK _ _ (fun X2 => ?_)
    clear hK K Q'
    go_wp2_with fail
    go_ret
    (try rw [World.patch_patch])
    refine Does.of (GW.pt ⟨g.own, _⟩ _) rfl rfl (Mod.pt (Mod.st Mod.self HO.out) _) ?_
    rw [HT.out]
    exact CoilAt.pt ⟨HB.out.set 3 _, HK.out⟩ _
theorem CoilS.Ok.take {c : CoilS} (h : c.Ok) {n : Int} (hn : c.takeable n = true) : (c.lays n).Ok := by
  obtain ⟨size, cur, u0, u1, kept⟩ := c
  obtain ⟨o1, o2, o3, o4, o5, o6⟩ := h
  have hn' : 1 ≤ n ∧ n ≤ CoilS.room ⟨size, cur, u0, u1, kept⟩ := by simpa [CoilS.takeable] using hn
  obtain ⟨hn1, hn2⟩ := hn'
  unfold CoilS.room at hn2
  simp only at o1 o2 o3 o4 o5 o6 hn2
  rcases (show cur = 0 ∨ cur = 1 by omega) with rfl | rfl
  · have e : CoilS.used ⟨size, 0, u0, u1, kept⟩ 0 = u0 := rfl
    rw [e] at o6 hn2
    exact ⟨by show 0 < 2; decide, o2, ⟨by show 0 ≤ u0 + n; omega, by show u0 + n ≤ 2048; omega⟩, o4, o5, by show u0 + n + kept ≤ size; omega⟩
  · have e : CoilS.used ⟨size, 1, u0, u1, kept⟩ 1 = u1 := rfl
    rw [e] at o6 hn2
    exact ⟨by show 1 < 2; decide, o2, o3, ⟨by show 0 ≤ u1 + n; omega, by show u1 + n ≤ 2048; omega⟩, o5, by show u1 + n + kept ≤ size; omega⟩
theorem CoilS.takenAt_no {c : CoilS} {n : Int} (h : c.takeable n = false) : c.takenAt n = 0 := by unfold CoilS.takenAt; rw [h]; rfl
theorem CoilS.takenAt_yes {c : CoilS} {n : Int} (h : c.takeable n = true) : c.takenAt n = c.used c.cur := by unfold CoilS.takenAt; rw [h]; rfl
theorem coil_take (g : GW) (t b : Nat) (n : Int) (c : CoilS) (h : CoilAt g t b c) (hn : n ≤ 1099511627776) :
    Calls Tryz.prog 203 #[.pointer (some ⟨b, 0, none⟩), .int .i64 n] g.w (Does (.tuple #[.int .i64 (c.takenAt n), .bool (c.takeable n)]) g (fun x => x = t) (fun g' => CoilAt g' t b (c.take n))) := by
  have H := Lib.hid h
  by_cases h1 : n < 1
  · have HV := Lib.hid (show c.takeable n = false by unfold CoilS.takeable; simp; omega)
    have HT := Lib.hid (show c.take n = c by unfold CoilS.take; rw [HV.out]; try rfl)
    clear h
    go_enter Tryz.func203, Tryz.ntmps203
    go_wp2_with fail
    go_ret2
    exact Does.of g rfl (by rw [CoilS.takenAt_no HV.out, HV.out]; try rfl) (Mod.refl _ _) (by rw [HT.out]; exact H.out)
  · have HR := Lib.hid (coil_room g t b c h)
    by_cases h2 : c.room < n
    · have HV := Lib.hid (show c.takeable n = false by unfold CoilS.takeable; simp; omega)
      have HT := Lib.hid (show c.take n = c by unfold CoilS.take; rw [HV.out]; try rfl)
      generalize c.room = rm at *
      clear h
      go_enter Tryz.func203, Tryz.ntmps203
      go_wp2_with fail
      refine (HR.out).mono ?_
      rintro e w1 ⟨rfl, X1, rfl⟩
      go_wp2_with fail
      go_ret2
      exact Does.ext g (by (repeat (first | (with_reducible (first | assumption | exact zR _ | exact zM _ _ _ _)) | apply zA | refine zS ?_ (by first | exact zL _ | exact zK _ _ | assumption) _ | apply zP | apply zD | apply zN))) (by rw [CoilS.takenAt_no HV.out, HV.out]; try rfl) (Mod.refl _ _) (fun g2 m => by rw [HT.out]; exact H.out.keep m id)
    · have hv : c.takeable n = true := by unfold CoilS.takeable; simp; omega
      have hok := CoilS.Ok.take h.ok hv
      have hrm : c.room ≤ 4096 := by
        obtain ⟨o1, ⟨_, _⟩, ⟨_, _⟩, ⟨_, _⟩, ⟨_, _⟩, o6⟩ := h.ok
        unfold CoilS.room CoilS.used
        split <;> omega
      have HL := Lib.hid (fun X => coil_lays (g.pt X) t b n c (h.pt X) (by omega) hok)
      have HV := Lib.hid hv
      have HT := Lib.hid (show c.take n = c.lays n by unfold CoilS.take; rw [HV.out]; try rfl)
      have h2' : n ≤ c.room := by omega
      generalize c.room = rm at *
      clear h hok hv h2
      go_enter Tryz.func203, Tryz.ntmps203
      go_wp2_with fail
      refine (HR.out).mono ?_
      rintro e w1 ⟨rfl, X1, rfl⟩
      go_wp2_with fail
      refine (HL.out X1).mono ?_
      rintro e w1 ⟨rfl, own1, m1, a1⟩
      have M := Lib.hid m1
      have Q := Lib.hid a1
      clear m1 a1
      go_wp2_with fail
      go_ret2
      exact Does.of ⟨own1, _⟩ rfl (by rw [CoilS.takenAt_yes HV.out, HV.out]; try rfl) (Mod.trans (Mod.pt (Mod.refl _ _) _) M.out) (by rw [HT.out]; exact Q.out)
theorem coil_turn (g : GW) (t b : Nat) (c : CoilS) (h : CoilAt g t b c) :
    Calls Tryz.prog 146 #[.pointer (some ⟨b, 0, none⟩)] g.w (Does (.bool c.turnable) g (fun x => x = t) (fun g' => CoilAt g' t b c.turn)) := by
  have c0 := h.blk.cell (i := 0) rfl
  have c1 := h.blk.cell (i := 1) rfl
  have c2 := h.blk.cell (i := 2) rfl
  have c3 := h.blk.cell (i := 3) rfl
  have c4 := h.blk.cell (i := 4) rfl
  have f1 := h.blk.live 1
  have f4 := h.blk.live 4
  have hbl := h.blk.lt
  obtain ⟨o1, ⟨_, _⟩, ⟨_, _⟩, ⟨_, _⟩, ⟨_, _⟩, o6⟩ := h.ok
  have HO := Lib.hid h.blk.own
  have HB := Lib.hid h.blk
  have H := Lib.hid h
  clear h
  obtain ⟨size, cur, u0, u1, kept⟩ := c
  simp only at *
  rcases (show cur = 0 ∨ cur = 1 by omega) with rfl | rfl
  · replace c1 : g.w.cell? ⟨b, 1, none⟩ = some (.int .i64 0) := c1
    by_cases hz : 0 < u1
    · have HV := Lib.hid (show CoilS.turnable ⟨size, 0, u0, u1, kept⟩ = false by unfold CoilS.turnable CoilS.used; simp; omega)
      have HT := Lib.hid (show CoilS.turn ⟨size, 0, u0, u1, kept⟩ = ⟨size, 0, u0, u1, kept⟩ by unfold CoilS.turn; rw [HV.out]; try rfl)
      have hd : decide (0 < u1) = true := decide_eq_true hz
      clear o6
      go_enter Tryz.func146, Tryz.ntmps146
      go_wp2_with fail
      refine wp_region_mixed [true, true, true, true, true, true, true, true, true, true, true] 0 11 (by kernel_rfl) (by kernel_rfl) (by kernel_rfl) ?_ (by decide) (by decide) (by decide) (by kernel_rfl) ?_
      · intro c a d v w h; cases d <;> exact h
      intro X00
      simp only [pickOps]
      repeat (go_big_quiet_step (fail))
      refine wpQuiet_nil (fun X0 => ?_)
      clear X00
      refine wpAnyM_done (by kernel_rfl) (fun X0' => ?_) _
      go_wp2_with fail
      go_ret
      exact Does.ext g (by (repeat (first | (with_reducible (first | assumption | exact zR _ | exact zM _ _ _ _)) | apply zA | refine zS ?_ (by first | exact zL _ | exact zK _ _ | assumption) _ | apply zP | apply zD | apply zN))) (by rw [HV.out]; try rfl) (Mod.refl _ _) (fun g2 m => by rw [HT.out]; exact H.out.keep m id)
    · have HV := Lib.hid (show CoilS.turnable ⟨size, 0, u0, u1, kept⟩ = true by unfold CoilS.turnable CoilS.used; simp; omega)
      have HT := Lib.hid (show CoilS.turn ⟨size, 0, u0, u1, kept⟩ = ⟨size, 1, u0, u1, u0⟩ by unfold CoilS.turn; rw [HV.out]; try rfl)
      have HK := Lib.hid (show CoilS.Ok ⟨size, 1, u0, u1, u0⟩ from ⟨by simp, by simp only; omega, by simp only; omega, by simp only; omega, by simp only; omega, by simp only [CoilS.used, if_true, if_false, Nat.one_ne_zero] at *; omega⟩)
      have hd : decide (0 < u1) = false := decide_eq_false hz
      clear o6
      go_enter Tryz.func146, Tryz.ntmps146
      go_wp2_with fail
      refine wp_region_mixed [true, true, true, true, true, true, true, true, true, true, true] 0 11 (by kernel_rfl) (by kernel_rfl) (by kernel_rfl) ?_ (by decide) (by decide) (by decide) (by kernel_rfl) ?_
      · intro c a d v w h; cases d <;> exact h
      intro X00
      simp only [pickOps]
      repeat (go_big_quiet_step (fail))
      refine wpQuiet_nil (fun X0 => ?_)
      clear X00
      refine wpAnyM_done (by kernel_rfl) (fun X0' => ?_) _
      go_wp2_with fail
      refine wp_region_mixed [true, true, true, true, true, true, true, true, true, true, true, true, false] 1 12 (by kernel_rfl) (by kernel_rfl) (by kernel_rfl) ?_ (by decide) (by decide) (by decide) (by kernel_rfl) ?_
      · intro c a d v w h; cases d <;> exact h
      intro X00
      simp only [pickOps]
      repeat (go_big_quiet_step (fail))
      refine wpQuiet_nil (fun X0 => ?_)
      clear X00
      refine wpAnyM_last 12 _ (by kernel_rfl) (by kernel_rfl) rfl rfl (fun X1 K Q' hK => ?_)
      go_simp
      refine hK _ _ (fun X2 => ?_)
      clear hK K Q'
      go_wp2_with fail
      go_ret
      (try rw [World.patch_patch])
      refine Does.of (GW.pt ⟨g.own, _⟩ _) rfl (by rw [HV.out]; try rfl) (Mod.pt (Mod.st (Mod.st Mod.self HO.out) HO.out) _) ?_
      rw [HT.out]
      exact CoilAt.pt ⟨(HB.out.set 4 _).set 1 _, HK.out⟩ _
  · replace c1 : g.w.cell? ⟨b, 1, none⟩ = some (.int .i64 1) := c1
    by_cases hz : 0 < u0
    · have HV := Lib.hid (show CoilS.turnable ⟨size, 1, u0, u1, kept⟩ = false by unfold CoilS.turnable CoilS.used; simp; omega)
      have HT := Lib.hid (show CoilS.turn ⟨size, 1, u0, u1, kept⟩ = ⟨size, 1, u0, u1, kept⟩ by unfold CoilS.turn; rw [HV.out]; try rfl)
      have hd : decide (0 < u0) = true := decide_eq_true hz
      clear o6
      go_enter Tryz.func146, Tryz.ntmps146
      go_wp2_with fail
      refine wp_region_mixed [true, true, true, true, true, true, true, true, true, true, true] 0 11 (by kernel_rfl) (by kernel_rfl) (by kernel_rfl) ?_ (by decide) (by decide) (by decide) (by kernel_rfl) ?_
      · intro c a d v w h; cases d <;> exact h
      intro X00
      simp only [pickOps]
      repeat (go_big_quiet_step (fail))
      refine wpQuiet_nil (fun X0 => ?_)
      clear X00
      refine wpAnyM_done (by kernel_rfl) (fun X0' => ?_) _
      go_wp2_with fail
      go_ret
      exact Does.ext g (by (repeat (first | (with_reducible (first | assumption | exact zR _ | exact zM _ _ _ _)) | apply zA | refine zS ?_ (by first | exact zL _ | exact zK _ _ | assumption) _ | apply zP | apply zD | apply zN))) (by rw [HV.out]; try rfl) (Mod.refl _ _) (fun g2 m => by rw [HT.out]; exact H.out.keep m id)
    · have HV := Lib.hid (show CoilS.turnable ⟨size, 1, u0, u1, kept⟩ = true by unfold CoilS.turnable CoilS.used; simp; omega)
      have HT := Lib.hid (show CoilS.turn ⟨size, 1, u0, u1, kept⟩ = ⟨size, 0, u0, u1, u1⟩ by unfold CoilS.turn; rw [HV.out]; try rfl)
      have HK := Lib.hid (show CoilS.Ok ⟨size, 0, u0, u1, u1⟩ from ⟨by simp, by simp only; omega, by simp only; omega, by simp only; omega, by simp only; omega, by simp only [CoilS.used, if_true, if_false, Nat.one_ne_zero] at *; omega⟩)
      have hd : decide (0 < u0) = false := decide_eq_false hz
      clear o6
      go_enter Tryz.func146, Tryz.ntmps146
      go_wp2_with fail
      refine wp_region_mixed [true, true, true, true, true, true, true, true, true, true, true] 0 11 (by kernel_rfl) (by kernel_rfl) (by kernel_rfl) ?_ (by decide) (by decide) (by decide) (by kernel_rfl) ?_
      · intro c a d v w h; cases d <;> exact h
      intro X00
      simp only [pickOps]
      repeat (go_big_quiet_step (fail))
      refine wpQuiet_nil (fun X0 => ?_)
      clear X00
      refine wpAnyM_done (by kernel_rfl) (fun X0' => ?_) _
      go_wp2_with fail
      refine wp_region_mixed [true, true, true, true, true, true, true, true, true, true, true, true, false] 1 12 (by kernel_rfl) (by kernel_rfl) (by kernel_rfl) ?_ (by decide) (by decide) (by decide) (by kernel_rfl) ?_
      · intro c a d v w h; cases d <;> exact h
      intro X00
      simp only [pickOps]
      repeat (go_big_quiet_step (fail))
      refine wpQuiet_nil (fun X0 => ?_)
      clear X00
      refine wpAnyM_last 12 _ (by kernel_rfl) (by kernel_rfl) rfl rfl (fun X1 K Q' hK => ?_)
      go_simp
      refine hK _ _ (fun X2 => ?_)
      clear hK K Q'
      go_wp2_with fail
      go_ret
      (try rw [World.patch_patch])
      refine Does.of (GW.pt ⟨g.own, _⟩ _) rfl (by rw [HV.out]; try rfl) (Mod.pt (Mod.st (Mod.st Mod.self HO.out) HO.out) _) ?_
      rw [HT.out]
      exact CoilAt.pt ⟨(HB.out.set 4 _).set 1 _, HK.out⟩ _
def CoilMade (n : Int) (t : Nat) (g : GW) (e : Ending) (w' : World) : Prop :=
  if 0 ≤ n ∧ n ≤ 2048 then ∃ own' b, e = .returned (.tuple #[.pointer (some ⟨b, 0, none⟩), .int .i64 0]) ∧ Mod (fun _ => False) g ⟨own', w'⟩ ∧ CoilAt ⟨own', w'⟩ t b ⟨n, 0, 0, 0, 0⟩
  else e = .returned (.tuple #[.pointer none, .int .i64 1]) ∧ Ext g.w w'
theorem coil_new (n : Int) (t : Nat) (g : GW) : Calls Tryz.prog 47 #[.int .i64 n] g.w (CoilMade n t g) := by
  by_cases h0 : n < 0
  · have HV := Lib.hid (show ¬ (0 ≤ n ∧ n ≤ 2048) by omega)
    go_enter Tryz.func47, Tryz.ntmps47
    go_wp2_with fail
    go_ret2
    unfold CoilMade
    rw [if_neg HV.out]
    exact ⟨rfl, Ext.refl _⟩
  by_cases h1 : 2048 < n
  · have HV := Lib.hid (show ¬ (0 ≤ n ∧ n ≤ 2048) by omega)
    go_enter Tryz.func47, Tryz.ntmps47
    go_wp2_with fail
    go_ret2
    unfold CoilMade
    rw [if_neg HV.out]
    exact ⟨rfl, Ext.refl _⟩
  have HV := Lib.hid (show (0 : Int) ≤ n ∧ n ≤ 2048 by omega)
  go_enter Tryz.func47, Tryz.ntmps47
  go_wp2_with fail
  go_ret2
  unfold CoilMade
  rw [if_pos HV.out]
  obtain ⟨_, _⟩ := HV.out
  exact ⟨_, _, rfl, Mod.ext (show Ext g.w _ by (repeat (first | (with_reducible (first | assumption | exact zR _ | exact zM _ _ _ _)) | apply zA | refine zS ?_ (by first | exact zL _ | exact zK _ _ | assumption) _ | apply zP | apply zD | apply zN))) t, Blk.made (World.row_alloc_new _) (Nat.le_refl _), ⟨by simp, by simp only; omega, by simp, by simp, by simp, by simp [CoilS.used]; omega⟩⟩
end Go.Proofs.YtcpeoflomdhidaaGreat

/-
  pool: what is free.
-/
namespace Go.Proofs.YtcpeoflomdhidaaGreat
open Go Go.RowKit
set_option linter.unusedVariables false
set_option linter.unnecessarySimpa false
set_option linter.unusedSimpArgs false
set_option maxHeartbeats 2000000

structure PoolAt (g : GW) (t b : Nat) (p : PoolS) : Prop where
  ex : ∃ A c, Blk g t b 183 [.slice A p.l.length c, .int .i64 p.free] ∧ Row g t 4 1 (.slice A p.l.length c) p.l.length (p.l.map Value.bool)
  len : p.l.length ≤ 1024
theorem PoolAt.keep {S : Nat → Prop} {g g' : GW} {t b : Nat} {p : PoolS} (h : PoolAt g t b p) (d : Mod S g g') (hs : ¬ S t) : PoolAt g' t b p := by
  obtain ⟨A, c, h1, h2⟩ := h.ex
  exact ⟨⟨A, c, h1.keep d hs, h2.keep d hs⟩, h.len⟩
theorem pool_free (g : GW) (t b : Nat) (p : PoolS) (h : PoolAt g t b p) :
    Calls Tryz.prog 85 #[.pointer (some ⟨b, 0, none⟩)] g.w (fun e w' => e = .returned (.int .i64 p.free) ∧ g.w = w') := by
  obtain ⟨A, c, hb, hr⟩ := h.ex
  have c1 := hb.cell (i := 1) rfl
  clear hb hr h
  go_enter Tryz.func85, Tryz.ntmps85
  go_wp2_with fail
  go_ret
  exact ⟨rfl, rfl⟩

theorem PoolAt.place {g : GW} {t b : Nat} {p : PoolS} (h : PoolAt g t b p) {k : Nat} (hk : k < p.l.length) : ∃ r c, Blk g t b 183 [.slice (some ⟨r, 0, none⟩) p.l.length c, .int .i64 p.free] ∧
    Row g t 4 1 (.slice (some ⟨r, 0, none⟩) p.l.length c) p.l.length (p.l.map Value.bool) ∧ r < g.w.heap.size ∧ g.w.cell? ⟨r, k, none⟩ = some (.bool (p.l.getD k false)) ∧ g.w.frozen? ⟨r, k, none⟩ = false ∧ b ≠ r := by
  obtain ⟨A, c, hb, hr⟩ := h.ex
  obtain ⟨r, rfl, hl, ho, hc, hf⟩ := hr.block (by omega)
  exact ⟨r, c, hb, hr, hl, hc _ _ (by simp [List.getD_eq_getElem?_getD, hk]), hf _, hr.ne_type hb (by decide) rfl⟩

theorem PoolAt.stored {g : GW} {t b r c k : Nat} {x : Bool} {n : Int} {p : PoolS} (h : PoolAt g t b p) (hk : k < p.l.length) (hb : Blk g t b 183 [.slice (some ⟨r, 0, none⟩) p.l.length c, .int .i64 p.free])
    (hn : n = (PoolS.free ⟨p.l.set k x⟩ : Nat)) : PoolAt ⟨g.own, (g.w.setCell ⟨r, k, none⟩ (.bool x)).setCell ⟨b, 1, none⟩ (.int .i64 n)⟩ t b ⟨p.l.set k x⟩ := by
  obtain ⟨A', c', hb', hr⟩ := h.ex
  have e := hb'.same hb
  injection e with e _
  injection e with e1 _ e2
  subst e1 e2 hn
  have hne : r ≠ b := fun e => hr.ne_type hb' (by decide) rfl e.symm
  refine ⟨⟨some ⟨r, 0, none⟩, c', ?_, ?_⟩, by simpa using h.len⟩
  · simp only [List.length_set]
    exact (hb'.setOther k (.bool x) hne).set 1 _
  · simp only [List.length_set]
    rw [List.map_set]
    exact (hr.store k (.bool x)).setOther _ _ (fun y hy e => hne (by injection hy with hy; exact hy.trans e.symm))
theorem PoolS.free_set {l : List Bool} {k : Nat} (hk : k < l.length) (x : Bool) : ((PoolS.free ⟨l.set k x⟩ : Nat) : Int) = (PoolS.free ⟨l⟩ : Int) - (if l.getD k false then 1 else 0) + (if x then 1 else 0) := by
  unfold PoolS.free
  simp only
  rw [List.countP_set hk, List.getD_eq_getElem?_getD, List.getElem?_eq_getElem hk]
  simp only [Option.getD_some, id]
  have : l[k] = true → 0 < l.countP id := fun h => List.countP_pos_iff.2 ⟨_, List.getElem_mem hk, h⟩
  by_cases h1 : l[k] = true
  · have := this h1
    rw [if_pos h1, if_pos h1]
    split <;> omega
  · rw [if_neg h1, if_neg h1]
    split <;> omega

theorem pool_takes (g : GW) (t b k : Nat) (p : PoolS) (h : PoolAt g t b p) (hk : k < p.l.length) (hx : p.l.getD k false = true) :
    Calls Tryz.prog 205 #[.pointer (some ⟨b, 0, none⟩), .int .i64 k] g.w (Does (.tuple #[]) g (fun x => x = t) (fun g' => PoolAt g' t b ⟨p.l.set k false⟩)) := by
  obtain ⟨r, c, hb, hr, hrl, k0, kf, hne⟩ := h.place hk
  have HO := Lib.hid hb.own
  have HR := Lib.hid (hr.own r rfl)
  have H := Lib.hid (PoolAt.stored (x := false) h hk hb (n := (p.free : Int) - 1) (by rw [PoolS.free_set hk, hx]; simp))
  have hne' : r ≠ b := fun e => hne e.symm
  have c0 := hb.cell (i := 0) rfl
  have c1 := hb.cell (i := 1) rfl
  have f1 := hb.live 1
  have hbl := hb.lt
  have hlen := h.len
  have hfr : p.free ≤ 1024 := Nat.le_trans List.countP_le_length hlen
  clear hb h hr hx
  go_enter Tryz.func205, Tryz.ntmps205
  go_wp2_with fail
  refine bodyPost_end (results_none rfl _ _ _) rfl (Does.of ⟨g.own, _⟩ rfl rfl (Mod.st (Mod.st Mod.self HR.out) HO.out) H.out)

theorem pool_give (g : GW) (t b : Nat) (i : Int) (p : PoolS) (h : PoolAt g t b p) :
    Calls Tryz.prog 215 #[.pointer (some ⟨b, 0, none⟩), .int .i64 i] g.w (Does (.bool (inB i p.l.length && !p.l.getD i.toNat false)) g (fun x => x = t) (fun g' => PoolAt g' t b (p.give i))) := by
  cases hin : inB i p.l.length
  · have HT := Lib.hid (show p.give i = p by unfold PoolS.give; rw [hin]; rfl)
    obtain ⟨A, c, hb, hr⟩ := h.ex
    have H := Lib.hid h
    have c0 := hb.cell (i := 0) rfl
    have hc := inB_false hin
    clear hb hr h hin
    by_cases h0 : i < 0
    · clear hc
      go_enter Tryz.func215, Tryz.ntmps215
      go_wp2_with fail
      go_ret
      exact Does.of g rfl rfl (Mod.refl _ _) (by rw [HT.out]; exact H.out)
    · have h1 : (p.l.length : Int) ≤ i := by omega
      clear hc
      go_enter Tryz.func215, Tryz.ntmps215
      go_wp2_with fail
      go_ret
      exact Does.of g rfl rfl (Mod.refl _ _) (by rw [HT.out]; exact H.out)
  · obtain ⟨k, rfl, hk⟩ := inB_true hin
    obtain ⟨r, c, hb, hr, hrl, k0, kf, hne⟩ := h.place hk
    have HO := Lib.hid hb.own
    have HR := Lib.hid (hr.own r rfl)
    have hne' : r ≠ b := fun e => hne e.symm
    have c0 := hb.cell (i := 0) rfl
    have c1 := hb.cell (i := 1) rfl
    have f1 := hb.live 1
    have hbl := hb.lt
    have hlen := h.len
    have hfr : p.free ≤ 1024 := Nat.le_trans List.countP_le_length hlen
    have HT := Lib.hid (show p.give k = ⟨p.l.set k true⟩ by unfold PoolS.give; rw [hin, if_pos rfl, Int.toNat_natCast])
    rw [Int.toNat_natCast]
    cases hx : p.l.getD k false
    · have H := Lib.hid (PoolAt.stored (x := true) h hk hb (n := (p.free : Int) + 1) (by rw [PoolS.free_set hk, hx]; simp))
      rw [hx] at k0
      clear hb h hr hx
      go_enter Tryz.func215, Tryz.ntmps215
      go_wp2_with fail
      go_ret
      exact Does.of ⟨g.own, _⟩ rfl rfl (Mod.st (Mod.st Mod.self HR.out) HO.out) (by rw [HT.out]; exact H.out)
    · have HE := Lib.hid (show p.l.set k true = p.l from by
        apply List.ext_getElem?
        intro j
        by_cases hj : k = j
        · subst hj
          rw [List.getElem?_set_self hk, List.getElem?_eq_getElem hk]
          rw [List.getD_eq_getElem?_getD, List.getElem?_eq_getElem hk] at hx
          simpa using hx.symm
        · rw [List.getElem?_set_ne hj])
      have H := Lib.hid h
      rw [hx] at k0
      clear hb h hr hx
      go_enter Tryz.func215, Tryz.ntmps215
      go_wp2_with fail
      go_ret
      exact Does.of g rfl rfl (Mod.refl _ _) (by rw [HT.out, HE.out]; exact H.out)

theorem runGo_zero (l : List Bool) (k m : Nat) : PoolS.runGo l k 0 m = none := rfl
theorem runGo_no {l : List Bool} {k j m : Nat} (h : l.getD j false = false) : PoolS.runGo l k (j + 1) m = PoolS.runGo l k j 0 := by
  rw [PoolS.runGo, if_neg (by rw [h]; simp)]
theorem runGo_more {l : List Bool} {k j m : Nat} (h : l.getD j false = true) (hm : ¬ m + 1 = k) : PoolS.runGo l k (j + 1) m = PoolS.runGo l k j (m + 1) := by
  rw [PoolS.runGo, if_pos h, if_neg hm]
theorem runGo_here {l : List Bool} {k j m : Nat} (h : l.getD j false = true) (hm : m + 1 = k) : PoolS.runGo l k (j + 1) m = some j := by
  rw [PoolS.runGo, if_pos h, if_pos hm]
def runVal (o : Option Nat) : Value := .tuple #[.int .i64 ((o.getD 0 : Nat) : Int), .bool o.isSome]
theorem pool_run_go (g : GW) (t b k : Nat) (p : PoolS) (h : PoolAt g t b p) (hk : 1 ≤ k) (hk2 : k ≤ 1099511627776) :
    Calls Tryz.prog 200 #[.pointer (some ⟨b, 0, none⟩), .int .i64 k] g.w (fun e w' => e = .returned (runVal (PoolS.runGo p.l k p.l.length 0)) ∧ g.w = w') := by
  obtain ⟨A, c, hb, hr⟩ := h.ex
  have HC := Lib.hid (fun j (hj : j < p.l.length) => h.place hj)
  have HB := Lib.hid hb
  have c0 := hb.cell (i := 0) rfl
  have hlen := h.len
  clear hr hb h
  go_enter Tryz.func200, Tryz.ntmps200
  go_wp2_with fail
  go_loop [6, 7] (fun n i => ∃ j m : Nat, j ≤ p.l.length ∧ m < k ∧ i = .int .i64 ((j : Int) - 1) ∧ n = .int .i64 m ∧ Hid (PoolS.runGo p.l k p.l.length 0 = PoolS.runGo p.l k j m)) (fun _ i => (intOf i + 1).toNat)
  case atStart => exact ⟨p.l.length, 0, Nat.le_refl _, by omega, rfl, rfl, Lib.hid rfl⟩
  case round =>
    obtain ⟨j, m, hj, hm, rfl, rfl, HJ⟩ := hrel
    rcases j with _ | j
    · have HV := Lib.hid (HJ.out.trans (runGo_zero _ _ _))
      rw [show (((0 : Nat) : Int) - 1) = -1 by omega]
      go_wp2_with fail
      go_ret2
      exact ⟨by rw [HV.out]; try rfl, rfl⟩
    · rw [show (((j + 1 : Nat) : Int) - 1) = (j : Int) by omega]
      obtain ⟨r, c', hb', -, hrl, k0, -, -⟩ := HC.out j hj
      have e := HB.out.same hb'
      injection e with e _
      injection e with e1 _ e2
      subst e1
      cases hx : p.l.getD j false
      · rw [hx] at k0
        have HV := Lib.hid (HJ.out.trans (runGo_no hx))
        clear hx hb' e2
        go_wp2_with fail
        go_round
        case rel => exact ⟨j, 0, by omega, by omega, by go_num, rfl, HV⟩
        case measure => simp [intOf]
      · rw [hx] at k0
        clear hb' e2
        by_cases hm2 : m + 1 = k
        · have HV := Lib.hid (HJ.out.trans (runGo_here hx hm2))
          have hd : ((m : Int) + 1 == (k : Int)) = true := by simp; omega
          clear hx hm2
          go_wp2_with fail
          go_ret2
          exact ⟨by rw [HV.out]; try rfl, rfl⟩
        · have HV := Lib.hid (HJ.out.trans (runGo_more hx hm2))
          have hd : ((m : Int) + 1 == (k : Int)) = false := by simp; omega
          have hm3 : m + 1 < k := by omega
          clear hx hm2
          go_wp2_with fail
          go_round
          case rel => exact ⟨j, m + 1, by omega, by omega, by go_num, by go_num, HV⟩
          case measure => simp [intOf]
theorem pool_run (g : GW) (t b : Nat) (k : Int) (p : PoolS) (h : PoolAt g t b p) (hk2 : k ≤ 1099511627776) :
    Calls Tryz.prog 200 #[.pointer (some ⟨b, 0, none⟩), .int .i64 k] g.w (fun e w' => e = .returned (runVal (p.run k)) ∧ g.w = w') := by
  by_cases h1 : k < 1
  · have HV := Lib.hid (show p.run k = none by unfold PoolS.run; rw [if_pos h1])
    clear h
    go_enter Tryz.func200, Tryz.ntmps200
    go_wp2_with fail
    go_ret2
    exact ⟨by rw [HV.out]; try rfl, rfl⟩
  · obtain ⟨n, rfl⟩ := Int.eq_ofNat_of_zero_le (show 0 ≤ k by omega)
    rw [show p.run n = PoolS.runGo p.l n p.l.length 0 by unfold PoolS.run; rw [if_neg h1, Int.toNat_natCast]]
    exact pool_run_go g t b n p h (by omega) (by omega)
end Go.Proofs.YtcpeoflomdhidaaGreat

/-
  shape, word, num: small functions that only compute.
-/
namespace Go.Proofs.YtcpeoflomdhidaaGreat
open Go Go.RowKit

end Go.Proofs.YtcpeoflomdhidaaGreat

/-
  shape, word, num, stock.Side: small functions that only compute.
-/
namespace Go.Proofs.YtcpeoflomdhidaaGreat
open Go Go.RowKit

theorem none_any (w : World) : Calls Tryz.prog 165 #[] w (Gives wNone w) := by
  go_enter Tryz.func165, Tryz.ntmps165
  go_wp2
  go_ret
  exact Gives.mk rfl (by (repeat (first | (with_reducible (first | assumption | exact zR _ | exact zM _ _ _ _)) | apply zA | refine zS ?_ (by first | exact zL _ | exact zK _ _ | assumption) _ | apply zP | apply zD | apply zN)))

theorem ref_any (i : Int) (w : World) : Calls Tryz.prog 240 #[.int .i64 i] w (Gives (wRef i) w) := by
  by_cases h : i < 0 ∨ 1099511627776 < i
  · rw [show wRef i = wNone by unfold wRef; rw [if_pos h]]
    by_cases h' : i < 0
    · go_enter Tryz.func240, Tryz.ntmps240
      go_wp2_with (go_at_call 165; refine (none_any _).mono ?_; rintro e w1 ⟨rfl, X1, rfl⟩)
      go_ret
      exact Gives.mk rfl (by (repeat (first | (with_reducible (first | assumption | exact zR _ | exact zM _ _ _ _)) | apply zA | refine zS ?_ (by first | exact zL _ | exact zK _ _ | assumption) _ | apply zP | apply zD | apply zN)))
    · have h'' : 1099511627776 < i := by omega
      clear h
      go_enter Tryz.func240, Tryz.ntmps240
      go_wp2_with (go_at_call 165; refine (none_any _).mono ?_; rintro e w1 ⟨rfl, X1, rfl⟩)
      go_ret
      exact Gives.mk rfl (by (repeat (first | (with_reducible (first | assumption | exact zR _ | exact zM _ _ _ _)) | apply zA | refine zS ?_ (by first | exact zL _ | exact zK _ _ | assumption) _ | apply zP | apply zD | apply zN)))
  · have HV := Lib.hid (show wRef i = .complex .f64 (floatOfInt .f64 (i + 1)) 4607182418800017408 by unfold wRef; rw [if_neg h])
    have h1 : 0 ≤ i := by omega
    have h2 : i ≤ 1099511627776 := by omega
    clear h
    go_enter Tryz.func240, Tryz.ntmps240
    go_wp2
    go_ret
    rw [HV.out]
    exact Gives.mk rfl (by (repeat (first | (with_reducible (first | assumption | exact zR _ | exact zM _ _ _ _)) | apply zA | refine zS ?_ (by first | exact zL _ | exact zK _ _ | assumption) _ | apply zP | apply zD | apply zN)))

theorem whole_any (n : Int) (w : World) : Calls Tryz.prog 243 #[.int .i64 n] w (Gives (wWhole n) w) := by
  by_cases h : n < -9007199254740992
  · have HV := Lib.hid (show wWhole n = wZero by unfold wWhole; rw [if_pos (by omega)])
    go_enter Tryz.func243, Tryz.ntmps243
    go_wp2
    go_ret
    rw [HV.out]
    exact Gives.mk rfl (by (repeat (first | (with_reducible (first | assumption | exact zR _ | exact zM _ _ _ _)) | apply zA | refine zS ?_ (by first | exact zL _ | exact zK _ _ | assumption) _ | apply zP | apply zD | apply zN)))
  · by_cases h' : 9007199254740992 < n
    · have HV := Lib.hid (show wWhole n = wZero by unfold wWhole; rw [if_pos (by omega)])
      go_enter Tryz.func243, Tryz.ntmps243
      go_wp2
      go_ret
      rw [HV.out]
      exact Gives.mk rfl (by (repeat (first | (with_reducible (first | assumption | exact zR _ | exact zM _ _ _ _)) | apply zA | refine zS ?_ (by first | exact zL _ | exact zK _ _ | assumption) _ | apply zP | apply zD | apply zN)))
    · have HV := Lib.hid (show wWhole n = .complex .f64 (floatOfInt .f64 n) 0 by unfold wWhole; rw [if_neg (by omega)])
      go_enter Tryz.func243, Tryz.ntmps243
      go_wp2
      go_ret
      rw [HV.out]
      exact Gives.mk rfl (by (repeat (first | (with_reducible (first | assumption | exact zR _ | exact zM _ _ _ _)) | apply zA | refine zS ?_ (by first | exact zL _ | exact zK _ _ | assumption) _ | apply zP | apply zD | apply zN)))

end Go.Proofs.YtcpeoflomdhidaaGreat

/-
  slices.Clone at bools and ints; conf.copied, conf.Shape.
-/
namespace Go.Proofs.YtcpeoflomdhidaaGreat
open Go Go.RowKit

attribute [local go_sem] Lib.run_eql_slice_nil
theorem infoBool : (Tryz.prog.info? 4).map (fun i => (i.zero, i.size, i.bytes)) = some (some (.bool false), 1, 1) := by kernel_rfl

theorem cloneBool_any (A : Option Addr) (cap : Nat) (l : List Bool) (w : World) (hc : CellsAt w A (l.map Value.bool)) (hl : l.length ≤ 140737488355328) :
    Calls Tryz.prog 207 #[.slice A l.length cap] w (fun e w' => ∃ A' cap', e = .returned (.slice A' l.length cap') ∧ CellsAt w' A' (l.map Value.bool) ∧ l.length ≤ cap' ∧ (∀ a, A' = some a → w.heap.size ≤ a.block) ∧ Ext w w') := by
  obtain ⟨i0, hi, hz0, hz1, hz2⟩ := info_parts infoBool
  have hq := fun w => Lib.run_eql_slice_nil (P := Tryz.prog) w 96 4 A l.length cap 0 0 Tryz.underlying96
  rcases A with _ | ad
  · obtain rfl : l = [] := by
      rcases l with _ | ⟨x, l⟩
      · rfl
      · obtain ⟨b, o, h, _⟩ := hc.at_ (i := 0) (by simp)
        cases h
    go_enter Tryz.func207, Tryz.ntmps207
    go_wp2_with fail
    go_ret
    exact ⟨none, 0, rfl, CellsAt.nil _ _, by simp, (fun a h => by cases h), by (repeat (first | (with_reducible (first | assumption | exact zR _ | exact zM _ _ _ _)) | apply zA | refine zS ?_ (by first | exact zL _ | exact zK _ _ | assumption) _ | apply zP | apply zD | apply zN))⟩
  · go_enter Tryz.func207, Tryz.ntmps207
    go_wp2_with (at_builtin; refine wpList_append_own _ rfl (.tmp 5) (.tmp 6) 96 rfl w.heap.size 4 i0 (.bool false) 1 1 Tryz.underlying96 hi hz0 hz1 hz2 rfl (by decide) _ _ _ rfl (World.ownsRow_made (cap := 0) _ #[] (Nat.le_refl _) (by decide) rfl) ad l.length cap (l.map Value.bool) rfl (by simp) (cells_add (hc.alloc _)) (by intro u hu; simp at hu; rcases hu with ⟨_, rfl⟩ | ⟨_, rfl⟩ <;> rfl) (by unfold maxLen; omega) (by omega) (by simp) ?_; intro v' w1 hown hgrow hn)
    simp only [Nat.zero_add, List.nil_append] at hown
    obtain ⟨A', c', hv⟩ := own_form hown
    rw [hv] at hown
    have HV := Lib.hid hv
    clear hv
    go_ret
    exact ⟨A', c', congrArg Ending.returned HV.out, cellsAt_of_own hown, (own_len hown).1, own_fresh hown, ext_grown (Ext.alloc (Ext.refl _) _) hgrow (fun k hk => by cases hk; exact Nat.le_refl _)⟩

theorem copied_any (s : Shp) (w : World) (hs : s.Ok w) :
    Calls Tryz.prog 122 #[s.val] w (fun e w' => ∃ s' : Shp, e = .returned s'.val ∧ s'.arr = s.arr ∧ s'.refs = s.refs ∧ (∀ a, s'.A = some a → w.heap.size ≤ a.block) ∧ s'.Ok w' ∧ Ext w w') := by
  have hl : s.refs.length ≤ 140737488355328 := hs.max
  have HC := Lib.hid (fun w' (he : Ext w w') => cloneBool_any s.A s.cap s.refs w' (hs.refs.ext he) hl)
  obtain ⟨arr, A, cap, refs⟩ := s
  unfold Shp.val
  simp only at HC ⊢
  go_enter Tryz.func122, Tryz.ntmps122
  go_wp2_with fail
  refine wp_region_mixed [true, true, true, true, false, false, false] 3 6 (by kernel_rfl) (by kernel_rfl) (by kernel_rfl) ?_ (by decide) (by decide) (by decide) (by kernel_rfl) ?_
  · intro c a d v w h; cases d <;> exact h
  intro X00
  simp only [pickOps]
  repeat (go_big_quiet_step (fail))
  refine wpQuiet_nil (fun X0 => ?_)
  clear X00
  refine wpAnyM_one 4 _ (by kernel_rfl) rfl rfl (by decide) (fun X1 K Q' hK => ?_)
  go_simp
  refine (HC.out _ (by (repeat (first | (with_reducible (first | assumption | exact zR _ | exact zM _ _ _ _)) | apply zA | refine zS ?_ (by first | exact zL _ | exact zK _ _ | assumption) _ | apply zP | apply zD | apply zN)))).mono ?_; rintro e w1 ⟨A', cap', rfl, hcell, hle, hfr, X3, rfl⟩
  refine hK _ _ ?_ ?_
  · (repeat (first | (with_reducible (first | assumption | exact zR _ | exact zM _ _ _ _)) | apply zA | refine zS ?_ (by first | exact zL _ | exact zK _ _ | assumption) _ | apply zP | apply zD | apply zN))
  clear hK K Q'
  refine wpAnyM_one 5 _ (by kernel_rfl) rfl rfl (by decide) (fun X1 K Q' hK => ?_)
  go_simp
  refine hK _ _ ?_ ?_
  · (repeat (first | (with_reducible (first | assumption | exact zR _ | exact zM _ _ _ _)) | apply zA | refine zS ?_ (by first | exact zL _ | exact zK _ _ | assumption) _ | apply zP | apply zD | apply zN))
  clear hK K Q'
  refine wpAnyM_last 6 _ (by kernel_rfl) (by kernel_rfl) rfl rfl (fun X1 K Q' hK => ?_)
  go_simp
  refine hK _ _ (fun X2 => ?_)
  clear hK K Q'
  go_wp2_with fail
  rw [World.patch_patch] at hcell ⊢
  refine bodyPost_ret (v := .agg #[.bool arr, .slice A' refs.length cap']) (by simp [results, Tryz.results122, go_sem]) rfl ⟨⟨arr, A', cap', refs⟩, rfl, rfl, rfl, (fun a ha => Nat.le_trans (Ext.size (by (repeat (first | (with_reducible (first | assumption | exact zR _ | exact zM _ _ _ _)) | apply zA | refine zS ?_ (by first | exact zL _ | exact zK _ _ | assumption) _ | apply zP | apply zD | apply zN)))) (hfr a ha)), ⟨hcell.rebase (fun a ha => Nat.le_trans (Ext.size ⟨_, rfl⟩) (hfr a ha)) (by simp) ⟨_, by simp only [Array.append_assoc]; rfl⟩, hle, hl⟩, by (repeat (first | (with_reducible (first | assumption | exact zR _ | exact zM _ _ _ _)) | apply zA | refine zS ?_ (by first | exact zL _ | exact zK _ _ | assumption) _ | apply zP | apply zD | apply zN))⟩

def ShapeGot (c : Cnf) (k : Int) (w : World) (e : Ending) (w' : World) : Prop :=
  ∃ s' : Shp, e = .returned (.tuple #[s'.val, .bool (c.shapeAt k).isSome]) ∧ (s'.arr, s'.refs) = (c.shapeAt k).getD (false, []) ∧ (∀ a, s'.A = some a → w.heap.size ≤ a.block) ∧ s'.Ok w' ∧ Ext w w'
end Go.Proofs.YtcpeoflomdhidaaGreat

