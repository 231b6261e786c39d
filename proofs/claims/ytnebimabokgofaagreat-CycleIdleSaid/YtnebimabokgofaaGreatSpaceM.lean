import Derived.Test.YtnebimabokgofaaGreatLineM
import Derived.Test.YtnebimabokgofaaGreatSpaceC
import Derived.Deep.RegionWith
import Derived.Deep.DeepCutAuto
/-
  Merged: XSpaceE, XSpaceF.
-/
/-
  space: Begin, End, Look.
-/
namespace Go
open Go.RowKit
def ent0 : Ent := ⟨0, 0, 0, 0, 0, 0, [], false⟩
end Go
namespace Go.Proofs.YtnebimabokgofaaGreat
open Go Go.RowKit
set_option linter.unusedVariables false
set_option linter.unnecessarySimpa false
set_option linter.unusedSimpArgs false
set_option maxHeartbeats 4000000
def beginS (S : SpaceS) : SpaceS := { S.tick with forced := false, line := S.line.map noteE }
def endS (S : SpaceS) : SpaceS := { S.tick with line := S.line.map endE }
def look (S : SpaceS) (t : Int) : AskR :=
  if placeOf (ofB t) S.line < 0 then ((3, [], -1), S.tick)
  else if (S.line.getD (placeOf (ofB t) S.line).toNat ent0).state = 0 then ((0, [], -1), S.tick)
  else if (S.line.getD (placeOf (ofB t) S.line).toNat ent0).state = 2 then ((2, [], -1), { S.tick with line := dropL t S.line })
  else ((1, (S.line.getD (placeOf (ofB t) S.line).toNat ent0).got, (S.line.getD (placeOf (ofB t) S.line).toNat ent0).at_), { S.tick with line := dropL t S.line })
theorem SpaceIn.force {g : GW} {B b bt bp bk bl cs : Nat} {S : SpaceS} {A : Option Addr} {cm : Cnf} {bs : List Nat} (h : SpaceIn g B b bt S bp bk bl A cs cm bs) (v : Bool) : SpaceIn ⟨g.own, g.w.setCell ⟨b, 2, none⟩ (.bool v)⟩ B b bt { S with forced := v } bp bk bl A cs cm bs := by
  have m : Mod (fun x => x = B) g ⟨g.own, g.w.setCell ⟨b, 2, none⟩ (.bool v)⟩ := Mod.set h.blk.own
  exact ⟨h.blk.set 2 _, h.row.setOther 2 _ (fun x hx => h.row.ne_type h.blk (by decide) hx), h.tab.keep m (by omega), h.pool.keep m (by omega), h.coil.keep m (by omega), h.line.keep m (by omega) (by omega), h.cnf.keep m (by omega), h.same, h.blen, fun j x s hx hs => (h.stock j x s hx hs).keep m (by omega), h.check, h.few⟩
theorem space_begin (g : GW) (B b bt : Nat) (S : SpaceS) (h : SpaceAt g B b bt S) (hB : 100 ≤ B) (hc : 0 ≤ S.count ∧ S.count ≤ 1099511627776) :
    Calls Tryz.prog 100 #[.pointer (some ⟨b, 0, none⟩)] g.w (Does (.tuple #[]) g (inst B) (fun g' => SpaceAt g' B b bt (beginS S))) := by
  obtain ⟨bp, bk, bl, A, cs, cm, bs, h⟩ := h
  obtain ⟨hc0, hc1⟩ := hc
  have H0 := Lib.hid (show SpaceIn ⟨g.own, (g.w.setCell ⟨b, 3, none⟩ (.int .i64 (S.count + 1))).setCell ⟨b, 2, none⟩ (.bool false)⟩ B b bt { S.tick with forced := false } bp bk bl A cs cm bs from h.tick.force false)
  have M0 := Lib.hid (show Mod (inst B) g ⟨g.own, (g.w.setCell ⟨b, 3, none⟩ (.int .i64 (S.count + 1))).setCell ⟨b, 2, none⟩ (.bool false)⟩ from Mod.st (Mod.set (by rw [h.blk.own]; exact ⟨by omega, by omega⟩)) (by rw [h.blk.own]; exact ⟨by omega, by omega⟩))
  have a0 := h.blk.cell (i := 0) rfl
  have a1 := h.blk.cell (i := 1) rfl
  have a2 := h.blk.cell (i := 2) rfl
  have a3 := h.blk.cell (i := 3) rfl
  have a4 := h.blk.cell (i := 4) rfl
  have a5 := h.blk.cell (i := 5) rfl
  have a6 := h.blk.cell (i := 6) rfl
  have a7 := h.blk.cell (i := 7) rfl
  have a8 := h.blk.cell (i := 8) rfl
  have a9 := h.blk.cell (i := 9) rfl
  have a10 := h.blk.cell (i := 10) rfl
  have a11 := h.blk.cell (i := 11) rfl
  have a12 := h.blk.cell (i := 12) rfl
  have a13 := h.blk.cell (i := 13) rfl
  have a14 := h.blk.cell (i := 14) rfl
  have a15 := h.blk.cell (i := 15) rfl
  have af2 := h.blk.live 2
  have af3 := h.blk.live 3
  have al := h.blk.lt
  (try simp only [GW.to] at a0 a1 a2 a3 a4 a5 a6 a7 a8 a9 a10 a11 a12 a13 a14 a15 af2 af3 al)
  clear h
  go_enter Tryz.func100, Tryz.ntmps100
  go_wp2_with fail
  refine (line_begin ⟨g.own, _⟩ (B + 3) bl S.line H0.out.line).mono ?_
  rintro e w1 ⟨rfl, own1, m1, l1⟩
  have M1 := Lib.hid (M0.out.trans (m1.mono (fun x (hx : x = B + 3) => (⟨by omega, by omega⟩ : inst B x))))
  have H1 := Lib.hid (H0.out.withLine (m1.mono (fun x hx => Or.inl hx)) l1)
  clear m1 l1
  go_wp2_with fail
  exact bodyPost_end (results_none rfl _ _ _) rfl (Does.of ⟨own1, w1⟩ rfl rfl M1.out ⟨_, _, _, _, _, _, _, H1.out⟩)
theorem space_end (g : GW) (B b bt : Nat) (S : SpaceS) (h : SpaceAt g B b bt S) (hB : 100 ≤ B) (hc : 0 ≤ S.count ∧ S.count ≤ 1099511627776) (hcy : ∀ e ∈ S.line, 0 ≤ e.cycles ∧ e.cycles ≤ 1099511627776) :
    Calls Tryz.prog 121 #[.pointer (some ⟨b, 0, none⟩)] g.w (Does (.tuple #[]) g (inst B) (fun g' => SpaceAt g' B b bt (endS S))) := by
  obtain ⟨bp, bk, bl, A, cs, cm, bs, h⟩ := h
  obtain ⟨hc0, hc1⟩ := hc
  have HCY := Lib.hid hcy
  have H0 := Lib.hid (show SpaceIn ⟨g.own, g.w.setCell ⟨b, 3, none⟩ (.int .i64 (S.count + 1))⟩ B b bt S.tick bp bk bl A cs cm bs from h.tick)
  have M0 := Lib.hid (show Mod (inst B) g ⟨g.own, g.w.setCell ⟨b, 3, none⟩ (.int .i64 (S.count + 1))⟩ from Mod.set (by rw [h.blk.own]; exact ⟨by omega, by omega⟩))
  have a0 := h.blk.cell (i := 0) rfl
  have a1 := h.blk.cell (i := 1) rfl
  have a2 := h.blk.cell (i := 2) rfl
  have a3 := h.blk.cell (i := 3) rfl
  have a4 := h.blk.cell (i := 4) rfl
  have a5 := h.blk.cell (i := 5) rfl
  have a6 := h.blk.cell (i := 6) rfl
  have a7 := h.blk.cell (i := 7) rfl
  have a8 := h.blk.cell (i := 8) rfl
  have a9 := h.blk.cell (i := 9) rfl
  have a10 := h.blk.cell (i := 10) rfl
  have a11 := h.blk.cell (i := 11) rfl
  have a12 := h.blk.cell (i := 12) rfl
  have a13 := h.blk.cell (i := 13) rfl
  have a14 := h.blk.cell (i := 14) rfl
  have a15 := h.blk.cell (i := 15) rfl
  have af3 := h.blk.live 3
  have al := h.blk.lt
  (try simp only [GW.to] at a0 a1 a2 a3 a4 a5 a6 a7 a8 a9 a10 a11 a12 a13 a14 a15 af3 al)
  clear h hcy
  go_enter Tryz.func121, Tryz.ntmps121
  go_wp2_with fail
  refine (line_end ⟨g.own, _⟩ (B + 3) bl S.line H0.out.line HCY.out).mono ?_
  rintro e w1 ⟨rfl, own1, m1, l1⟩
  have M1 := Lib.hid (M0.out.trans (m1.mono (fun x (hx : x = B + 3) => (⟨by omega, by omega⟩ : inst B x))))
  have H1 := Lib.hid (H0.out.withLine (m1.mono (fun x hx => Or.inl hx)) l1)
  clear m1 l1
  go_wp2_with fail
  exact bodyPost_end (results_none rfl _ _ _) rfl (Does.of ⟨own1, w1⟩ rfl rfl M1.out ⟨_, _, _, _, _, _, _, H1.out⟩)
set_option maxRecDepth 100000 in
theorem space_look (t : Int) (g : GW) (B b bt : Nat) (S : SpaceS) (h : SpaceAt g B b bt S) (hB : 100 ≤ B) (hc : 0 ≤ S.count ∧ S.count ≤ 1099511627776) :
    Calls Tryz.prog 140 #[.pointer (some ⟨b, 0, none⟩), .int .i64 t] g.w (Makes g (inst B) (fun v g' => GrantIs (look S t).1 v g' ∧ SpaceAt g' B b bt (look S t).2)) := by
  obtain ⟨bp, bk, bl, A, cs, cm, bs, h⟩ := h
  obtain ⟨hc0, hc1⟩ := hc
  have H := Lib.hid h
  have a0 := h.blk.cell (i := 0) rfl
  have a1 := h.blk.cell (i := 1) rfl
  have a2 := h.blk.cell (i := 2) rfl
  have a3 := h.blk.cell (i := 3) rfl
  have a4 := h.blk.cell (i := 4) rfl
  have a5 := h.blk.cell (i := 5) rfl
  have a6 := h.blk.cell (i := 6) rfl
  have a7 := h.blk.cell (i := 7) rfl
  have a8 := h.blk.cell (i := 8) rfl
  have a9 := h.blk.cell (i := 9) rfl
  have a10 := h.blk.cell (i := 10) rfl
  have a11 := h.blk.cell (i := 11) rfl
  have a12 := h.blk.cell (i := 12) rfl
  have a13 := h.blk.cell (i := 13) rfl
  have a14 := h.blk.cell (i := 14) rfl
  have a15 := h.blk.cell (i := 15) rfl
  have af3 := h.blk.live 3
  have al := h.blk.lt
  (try simp only [GW.to] at a0 a1 a2 a3 a4 a5 a6 a7 a8 a9 a10 a11 a12 a13 a14 a15 af3 al)
  clear h
  go_enter Tryz.func140, Tryz.ntmps140
  go_wp2_with fail
  obtain ⟨own0, m0, b0, h0⟩ : ∃ own0, Mod (inst B) g ⟨own0, (g.w.setCell ⟨b, 3, none⟩ (.int .i64 (S.count + 1))).alloc (.cells #[.int .i64 0, .slice none 0 0, .int .i64 0] 175)⟩ ∧ Blk ⟨own0, (g.w.setCell ⟨b, 3, none⟩ (.int .i64 (S.count + 1))).alloc (.cells #[.int .i64 0, .slice none 0 0, .int .i64 0] 175)⟩ 9 g.w.heap.size 175 [.int .i64 0, .slice none 0 0, .int .i64 0] ∧ SpaceIn ⟨own0, (g.w.setCell ⟨b, 3, none⟩ (.int .i64 (S.count + 1))).alloc (.cells #[.int .i64 0, .slice none 0 0, .int .i64 0] 175)⟩ B b bt S.tick bp bk bl A cs cm bs := by
    have m1 : Mod (inst B) g ⟨g.own, g.w.setCell ⟨b, 3, none⟩ (.int .i64 (S.count + 1))⟩ := Mod.set (by rw [H.out.blk.own]; exact ⟨by omega, by omega⟩)
    have hE : Ext (g.w.setCell ⟨b, 3, none⟩ (.int .i64 (S.count + 1))) ((g.w.setCell ⟨b, 3, none⟩ (.int .i64 (S.count + 1))).alloc (.cells #[.int .i64 0, .slice none 0 0, .int .i64 0] 175)) := by (repeat (first | (with_reducible assumption) | (with_reducible exact Ext.refl _) | (with_reducible exact Ext.more _ _ _ _) | apply Ext.alloc | refine Ext.setCell ?_ (by first | exact Nat.le_refl _ | exact Nat.le_add_right _ _ | assumption) _ | apply Ext.patch | apply Ext.drew | apply Ext.drewN))
    have b1 := Blk.new (⟨g.own, g.w.setCell ⟨b, 3, none⟩ (.int .i64 (S.count + 1))⟩ : GW) 9 175 [.int .i64 0, .slice none 0 0, .int .i64 0]
    simp only [World.size_setCell] at b1
    exact ⟨_, m1.trans (Mod.ext hE 9), b1, H.out.tick.keep (Mod.ext (T := fun _ => False) hE 9) (fun x hx => hx.elim)⟩
  generalize (g.w.setCell ⟨b, 3, none⟩ (.int .i64 (S.count + 1))).alloc (.cells #[.int .i64 0, .slice none 0 0, .int .i64 0] 175) = W0 at *
  have M0 := Lib.hid m0
  have B0 := Lib.hid b0
  have H0 := Lib.hid h0
  have hBX := Lib.hid (Nat.le_refl g.w.heap.size)
  clear m0 b0 h0 a0 a1 a2 a3 a4 a5 a6 a7 a8 a9 a10 a11 a12 a13 a14 a15 af3 al
  refine (line_Of ⟨own0, W0⟩ (B + 3) bl t S.line H0.out.line).mono ?_
  rintro e w1 ⟨v, own1, rfl, m1, r, ok, rfl, hn, hp⟩
  have M1 := Lib.hid (M0.out.trans (m1.mono (fun x hx => hx.elim)))
  have B1 := Lib.hid (B0.out.keep m1 id)
  have H1 := Lib.hid (H0.out.keep m1 (fun x hx => hx.elim))
  clear m1
  by_cases hi : placeOf (ofB t) S.line < 0
  · obtain ⟨rfl, rfl⟩ := hn hi
    have HK := Lib.hid (show look S t = ((3, [], -1), S.tick) from if_pos hi)
    clear hn hp hi
    go_wp2_with fail
    refine (space_none 3 _).mono ?_
    rintro e wz ⟨rfl, hX⟩
    obtain ⟨ownz, mz⟩ := Mod.ofExt ((show Ext w1 _ by (repeat (first | (with_reducible assumption) | (with_reducible exact Ext.refl _) | (with_reducible exact Ext.more _ _ _ _) | apply Ext.alloc | refine Ext.setCell ?_ (by first | exact Nat.le_refl _ | exact Nat.le_add_right _ _ | assumption) _ | apply Ext.patch | apply Ext.drew | apply Ext.drewN))).trans (show Ext _ wz from hX)) own1
    have Mz := Lib.hid (M1.out.trans (mz.mono (fun x hx => hx.elim)))
    have Bz := Lib.hid (B1.out.keep mz id)
    have Hz := Lib.hid (H1.out.keep mz (fun x hx => hx.elim))
    clear mz hX
    have y0 := Bz.out.cell (i := 0) rfl
    have y1 := Bz.out.cell (i := 1) rfl
    have y2 := Bz.out.cell (i := 2) rfl
    have yf0 := Bz.out.live 0
    have yf1 := Bz.out.live 1
    have yf2 := Bz.out.live 2
    have yl := Bz.out.lt
    (try simp only [GW.to] at y0 y1 y2 yf0 yf1 yf2 yl)
    go_wp2_with fail
    refine bodyPost_ret (v := .agg #[.int .i64 3, .slice none 0 0, .int .i64 (-1)]) (by simp [results, Tryz.results140, go_sem, y0, y1, y2]) rfl ?_
    obtain ⟨p1, p2⟩ := put3 (v0 := .int .i64 3) (v1 := .slice none 0 0) (v2 := .int .i64 (-1)) Mz.out (Nat.le_refl _) Bz.out.own
    refine ⟨_, ownz, rfl, p1, ?_, ?_⟩
    · rw [HK.out]; exact ⟨none, 0, rfl, Row.nil _ _ _ _⟩
    · rw [HK.out]; exact ⟨_, _, _, _, _, _, _, Hz.out.keep p2 (fun x (hx : x = 9) => by omega)⟩
  · obtain ⟨rfl, ee, A', c', hL', rfl, hr⟩ := hp (by omega)
    have he0 : S.line.getD (placeOf (ofB t) S.line).toNat ent0 = ee := by rw [List.getD_eq_getElem?_getD, hL']; rfl
    have HR1 := Lib.hid hr
    have HI := Lib.hid hi
    have HE0 := Lib.hid he0
    clear hn hr hL' hi he0
    by_cases h1 : ee.state = 0
    · have HK := Lib.hid (show look S t = ((0, [], -1), S.tick) by unfold look; rw [if_neg (by have := HI.out; omega), HE0.out, if_pos h1])
      have hz1 : (ee.state == 0) = true := by simp [h1]
      clear h1
      go_wp2_with fail
      refine (space_none 0 _).mono ?_
      rintro e wz ⟨rfl, hX⟩
      obtain ⟨ownz, mz⟩ := Mod.ofExt ((show Ext w1 _ by (repeat (first | (with_reducible assumption) | (with_reducible exact Ext.refl _) | (with_reducible exact Ext.more _ _ _ _) | apply Ext.alloc | refine Ext.setCell ?_ (by first | exact Nat.le_refl _ | exact Nat.le_add_right _ _ | assumption) _ | apply Ext.patch | apply Ext.drew | apply Ext.drewN))).trans (show Ext _ wz from hX)) own1
      have Mz := Lib.hid (M1.out.trans (mz.mono (fun x hx => hx.elim)))
      have Bz := Lib.hid (B1.out.keep mz id)
      have Hz := Lib.hid (H1.out.keep mz (fun x hx => hx.elim))
      clear mz hX
      have y0 := Bz.out.cell (i := 0) rfl
      have y1 := Bz.out.cell (i := 1) rfl
      have y2 := Bz.out.cell (i := 2) rfl
      have yf0 := Bz.out.live 0
      have yf1 := Bz.out.live 1
      have yf2 := Bz.out.live 2
      have yl := Bz.out.lt
      (try simp only [GW.to] at y0 y1 y2 yf0 yf1 yf2 yl)
      go_wp2_with fail
      refine bodyPost_ret (v := .agg #[.int .i64 0, .slice none 0 0, .int .i64 (-1)]) (by simp [results, Tryz.results140, go_sem, y0, y1, y2]) rfl ?_
      obtain ⟨p1, p2⟩ := put3 (v0 := .int .i64 0) (v1 := .slice none 0 0) (v2 := .int .i64 (-1)) Mz.out (Nat.le_refl _) Bz.out.own
      refine ⟨_, ownz, rfl, p1, ?_, ?_⟩
      · rw [HK.out]; exact ⟨none, 0, rfl, Row.nil _ _ _ _⟩
      · rw [HK.out]; exact ⟨_, _, _, _, _, _, _, Hz.out.keep p2 (fun x (hx : x = 9) => by omega)⟩
    · have hz1 : (ee.state == 0) = false := by simp [h1]
      have HKA := Lib.hid (show ee.state = 2 → look S t = ((2, [], -1), { S.tick with line := dropL t S.line }) from fun h2 => by unfold look; rw [if_neg (by have := HI.out; omega), HE0.out, if_neg h1, if_pos h2])
      have HKB := Lib.hid (show ¬ ee.state = 2 → look S t = ((1, ee.got, ee.at_), { S.tick with line := dropL t S.line }) from fun h2 => by unfold look; rw [if_neg (by have := HI.out; omega), HE0.out, if_neg h1, if_neg h2])
      clear h1
      obtain ⟨own2, m2, q2⟩ : ∃ own2, Mod (fun _ => False) ⟨own1, w1⟩ ⟨own2, w1.alloc (.cells #[.int .i64 ee.thread, .int .i64 ee.frags, .int .i64 ee.spine, .int .i64 ee.state, .int .i64 ee.cycles, .int .i64 ee.at_, .slice A' ee.got.length c'] 198)⟩ ∧ Blk ⟨own2, w1.alloc (.cells #[.int .i64 ee.thread, .int .i64 ee.frags, .int .i64 ee.spine, .int .i64 ee.state, .int .i64 ee.cycles, .int .i64 ee.at_, .slice A' ee.got.length c'] 198)⟩ 9 w1.heap.size 198 [.int .i64 ee.thread, .int .i64 ee.frags, .int .i64 ee.spine, .int .i64 ee.state, .int .i64 ee.cycles, .int .i64 ee.at_, .slice A' ee.got.length c'] := ⟨_, Mod.ext (g := ⟨own1, w1⟩) (by (repeat (first | (with_reducible assumption) | (with_reducible exact Ext.refl _) | (with_reducible exact Ext.more _ _ _ _) | apply Ext.alloc | refine Ext.setCell ?_ (by first | exact Nat.le_refl _ | exact Nat.le_add_right _ _ | assumption) _ | apply Ext.patch | apply Ext.drew | apply Ext.drewN))) 9, Blk.new ⟨own1, w1⟩ 9 198 [.int .i64 ee.thread, .int .i64 ee.frags, .int .i64 ee.spine, .int .i64 ee.state, .int .i64 ee.cycles, .int .i64 ee.at_, .slice A' ee.got.length c']⟩
      have M2 := Lib.hid (M1.out.trans (m2.mono (fun x hx => hx.elim)))
      have B2 := Lib.hid (B1.out.keep m2 id)
      have H2 := Lib.hid (H1.out.keep m2 (fun x hx => hx.elim))
      have R2 := Lib.hid (HR1.out.keep m2 id)
      have Q2 := Lib.hid q2
      clear m2 q2
      have a0 := H2.out.blk.cell (i := 0) rfl
      have a1 := H2.out.blk.cell (i := 1) rfl
      have a2 := H2.out.blk.cell (i := 2) rfl
      have a3 := H2.out.blk.cell (i := 3) rfl
      have a4 := H2.out.blk.cell (i := 4) rfl
      have a5 := H2.out.blk.cell (i := 5) rfl
      have a6 := H2.out.blk.cell (i := 6) rfl
      have a7 := H2.out.blk.cell (i := 7) rfl
      have a8 := H2.out.blk.cell (i := 8) rfl
      have a9 := H2.out.blk.cell (i := 9) rfl
      have a10 := H2.out.blk.cell (i := 10) rfl
      have a11 := H2.out.blk.cell (i := 11) rfl
      have a12 := H2.out.blk.cell (i := 12) rfl
      have a13 := H2.out.blk.cell (i := 13) rfl
      have a14 := H2.out.blk.cell (i := 14) rfl
      have a15 := H2.out.blk.cell (i := 15) rfl
      have al := H2.out.blk.lt
      (try simp only [GW.to] at a0 a1 a2 a3 a4 a5 a6 a7 a8 a9 a10 a11 a12 a13 a14 a15 al)
      go_wp2_with fail
      refine (line_drop ⟨own2, _⟩ (B + 3) bl t S.line H2.out.line).mono ?_
      rintro e w3 ⟨rfl, own3, m3, l3⟩
      have M3 := Lib.hid (M2.out.trans (m3.mono (fun x (hx : x = B + 3) => (⟨by omega, by omega⟩ : inst B x))))
      have B3 := Lib.hid (B2.out.keep m3 (by omega))
      have H3 := Lib.hid (H2.out.withLine (m3.mono (fun x hx => Or.inl hx)) l3)
      have R3 := Lib.hid (R2.out.keep m3 (by omega))
      have Q3 := Lib.hid (Q2.out.keep m3 (by omega))
      clear m3 l3 a0 a1 a2 a3 a4 a5 a6 a7 a8 a9 a10 a11 a12 a13 a14 a15 al
      have q0 := Q3.out.cell (i := 0) rfl
      have q1 := Q3.out.cell (i := 1) rfl
      have q2 := Q3.out.cell (i := 2) rfl
      have q3 := Q3.out.cell (i := 3) rfl
      have q4 := Q3.out.cell (i := 4) rfl
      have q5 := Q3.out.cell (i := 5) rfl
      have q6 := Q3.out.cell (i := 6) rfl
      have ql := Q3.out.lt
      (try simp only [GW.to] at q0 q1 q2 q3 q4 q5 q6 ql)
      by_cases h2 : ee.state = 2
      · have HK := Lib.hid (HKA.out h2)
        have hz2 : (ee.state == 2) = true := by simp [h2]
        clear h2
        go_wp2_with fail
        refine (space_none 2 _).mono ?_
        rintro e wz ⟨rfl, hX⟩
        obtain ⟨ownz, mz⟩ := Mod.ofExt ((show Ext w3 _ by (repeat (first | (with_reducible assumption) | (with_reducible exact Ext.refl _) | (with_reducible exact Ext.more _ _ _ _) | apply Ext.alloc | refine Ext.setCell ?_ (by first | exact Nat.le_refl _ | exact Nat.le_add_right _ _ | assumption) _ | apply Ext.patch | apply Ext.drew | apply Ext.drewN))).trans (show Ext _ wz from hX)) own3
        have Mz := Lib.hid (M3.out.trans (mz.mono (fun x hx => hx.elim)))
        have Bz := Lib.hid (B3.out.keep mz id)
        have Hz := Lib.hid (H3.out.keep mz (fun x hx => hx.elim))
        clear mz hX
        have y0 := Bz.out.cell (i := 0) rfl
        have y1 := Bz.out.cell (i := 1) rfl
        have y2 := Bz.out.cell (i := 2) rfl
        have yf0 := Bz.out.live 0
        have yf1 := Bz.out.live 1
        have yf2 := Bz.out.live 2
        have yl := Bz.out.lt
        (try simp only [GW.to] at y0 y1 y2 yf0 yf1 yf2 yl)
        go_wp2_with fail
        refine bodyPost_ret (v := .agg #[.int .i64 2, .slice none 0 0, .int .i64 (-1)]) (by simp [results, Tryz.results140, go_sem, y0, y1, y2]) rfl ?_
        obtain ⟨p1, p2⟩ := put3 (v0 := .int .i64 2) (v1 := .slice none 0 0) (v2 := .int .i64 (-1)) Mz.out (Nat.le_refl _) Bz.out.own
        refine ⟨_, ownz, rfl, p1, ?_, ?_⟩
        · rw [HK.out]; exact ⟨none, 0, rfl, Row.nil _ _ _ _⟩
        · rw [HK.out]; exact ⟨_, _, _, _, _, _, _, Hz.out.keep p2 (fun x (hx : x = 9) => by omega)⟩
      · have HK := Lib.hid (HKB.out h2)
        have hz2 : (ee.state == 2) = false := by simp [h2]
        clear h2
        have y0 := B3.out.cell (i := 0) rfl
        have y1 := B3.out.cell (i := 1) rfl
        have y2 := B3.out.cell (i := 2) rfl
        have yf0 := B3.out.live 0
        have yf1 := B3.out.live 1
        have yf2 := B3.out.live 2
        have yl := B3.out.lt
        (try simp only [GW.to] at y0 y1 y2 yf0 yf1 yf2 yl)
        go_wp2_with fail
        refine bodyPost_ret (v := .agg #[.int .i64 1, .slice A' ee.got.length c', .int .i64 ee.at_]) (by simp [results, Tryz.results140, go_sem, y0, y1, y2]) rfl ?_
        obtain ⟨p1, p2⟩ := put3 (v0 := .int .i64 1) (v1 := .slice A' ee.got.length c') (v2 := .int .i64 ee.at_) M3.out (Nat.le_refl _) B3.out.own
        refine ⟨_, own3, rfl, p1, ?_, ?_⟩
        · rw [HK.out]; exact ⟨A', c', rfl, R3.out.keep p2 (by omega)⟩
        · rw [HK.out]; exact ⟨_, _, _, _, _, _, _, H3.out.keep p2 (fun x (hx : x = 9) => by omega)⟩
end Go.Proofs.YtnebimabokgofaaGreat
/-
  space: Serve.
-/
namespace Go
/-- Who waits asked for something that may be. -/
def Ent.fair2 (e : Ent) : Prop := 1 ≤ e.frags ∧ 0 ≤ e.spine
def Ent.fair (e : Ent) : Prop := 1 ≤ e.frags ∧ e.frags ≤ 1099511627776 ∧ 0 ≤ e.spine ∧ e.spine ≤ 1099511627776
end Go
namespace Go.Proofs.YtnebimabokgofaaGreat
open Go Go.RowKit
set_option linter.unusedVariables false
set_option linter.unnecessarySimpa false
set_option linter.unusedSimpArgs false
set_option maxHeartbeats 4000000
def serveE (S : SpaceS) : Ent := S.line.getD (placeOf waitB S.line).toNat ent0
def serveYes (S : SpaceS) (got : List Int) (sp : Int) (sense : Bool) : SpaceS := { takesS S got sp with tab := S.tab.setAll got 2 sense, line := grantL S.line got (takesAt S got sp) }
def serve (S : SpaceS) (sense : Bool) : Bool × SpaceS :=
  if placeOf waitB S.line < 0 then (false, S.tick)
  else if S.fits (serveE S).frags (serveE S).spine then (true, serveYes S.tick (askGot S (serveE S).frags) (serveE S).spine sense)
  else if 2 ≤ (serveE S).cycles then (true, { S.tick with line := failL S.line })
  else (false, S.tick)
set_option maxRecDepth 100000 in
theorem space_serve_any (sense : Bool) (g : GW) (B b bt : Nat) (S : SpaceS) (h : SpaceAt g B b bt S) (hB : 100 ≤ B) (hc : 0 ≤ S.count ∧ S.count ≤ 1099511627776) (hfair : ∀ e ∈ S.line, e.fair2) :
    Calls Tryz.prog 122 #[.pointer (some ⟨b, 0, none⟩), .bool sense] g.w (Does (.bool (serve S sense).1) g (inst B) (fun g' => SpaceAt g' B b bt (serve S sense).2)) := by
  obtain ⟨bp, bk, bl, A, cs, cm, bs, h⟩ := h
  obtain ⟨hc0, hc1⟩ := hc
  have H0 := Lib.hid (show SpaceIn ⟨g.own, g.w.setCell ⟨b, 3, none⟩ (.int .i64 (S.count + 1))⟩ B b bt S.tick bp bk bl A cs cm bs from h.tick)
  have M0 := Lib.hid (show Mod (inst B) g ⟨g.own, g.w.setCell ⟨b, 3, none⟩ (.int .i64 (S.count + 1))⟩ from Mod.set (by rw [h.blk.own]; exact ⟨by omega, by omega⟩))
  have HFA := Lib.hid hfair
  have a0 := h.blk.cell (i := 0) rfl
  have a1 := h.blk.cell (i := 1) rfl
  have a2 := h.blk.cell (i := 2) rfl
  have a3 := h.blk.cell (i := 3) rfl
  have a4 := h.blk.cell (i := 4) rfl
  have a5 := h.blk.cell (i := 5) rfl
  have a6 := h.blk.cell (i := 6) rfl
  have a7 := h.blk.cell (i := 7) rfl
  have a8 := h.blk.cell (i := 8) rfl
  have a9 := h.blk.cell (i := 9) rfl
  have a10 := h.blk.cell (i := 10) rfl
  have a11 := h.blk.cell (i := 11) rfl
  have a12 := h.blk.cell (i := 12) rfl
  have a13 := h.blk.cell (i := 13) rfl
  have a14 := h.blk.cell (i := 14) rfl
  have a15 := h.blk.cell (i := 15) rfl
  have af3 := h.blk.live 3
  have al := h.blk.lt
  (try simp only [GW.to] at a0 a1 a2 a3 a4 a5 a6 a7 a8 a9 a10 a11 a12 a13 a14 a15 af3 al)
  clear h hfair
  go_enter Tryz.func122, Tryz.ntmps122
  go_wp2_with fail
  refine (line_First ⟨g.own, _⟩ (B + 3) bl S.line H0.out.line).mono ?_
  rintro e w1 ⟨v, own1, rfl, m1, r, ok, rfl, hn, hp⟩
  have M1 := Lib.hid (M0.out.trans (m1.mono (fun x hx => hx.elim)))
  have H1 := Lib.hid (H0.out.keep m1 (fun x hx => hx.elim))
  clear m1 a0 a1 a2 a3 a4 a5 a6 a7 a8 a9 a10 a11 a12 a13 a14 a15 af3 al
  by_cases hi : placeOf waitB S.line < 0
  · obtain ⟨rfl, rfl⟩ := hn hi
    have HK := Lib.hid (show serve S sense = (false, S.tick) from if_pos hi)
    clear hn hp hi
    go_wp2_with fail
    go_ret
    rw [HK.out]
    refine Does.ext ⟨own1, w1⟩ (by (repeat (first | (with_reducible assumption) | (with_reducible exact Ext.refl _) | (with_reducible exact Ext.more _ _ _ _) | apply Ext.alloc | refine Ext.setCell ?_ (by first | exact Nat.le_refl _ | exact Nat.le_add_right _ _ | assumption) _ | apply Ext.patch | apply Ext.drew | apply Ext.drewN))) rfl M1.out (fun g2 m => ⟨_, _, _, _, _, _, _, H1.out.keep m (fun x hx => hx.elim)⟩)
  · obtain ⟨rfl, ee, A', c', hL', rfl, hr⟩ := hp (by omega)
    have he0 : serveE S = ee := by unfold serveE; rw [List.getD_eq_getElem?_getD, hL']; rfl
    obtain ⟨f1, f3⟩ := HFA.out ee (List.mem_of_getElem? hL')
    have HKA := Lib.hid (show S.fits ee.frags ee.spine = true → serve S sense = (true, serveYes S.tick (askGot S ee.frags) ee.spine sense) from fun h2 => by unfold serve; rw [if_neg hi, he0, h2]; rfl)
    have HKB := Lib.hid (show S.fits ee.frags ee.spine = false → 2 ≤ ee.cycles → serve S sense = (true, { S.tick with line := failL S.line }) from fun h2 h3 => by unfold serve; rw [if_neg hi, he0, h2, if_neg (by simp), if_pos h3])
    have HKC := Lib.hid (show S.fits ee.frags ee.spine = false → ¬ 2 ≤ ee.cycles → serve S sense = (false, S.tick) from fun h2 h3 => by unfold serve; rw [if_neg hi, he0, h2, if_neg (by simp), if_neg h3])
    have HIP := Lib.hid (show decide (0 ≤ placeOf waitB S.line) = true from decide_eq_true (by omega))
    obtain ⟨own2, m2, q2⟩ : ∃ own2, Mod (fun _ => False) ⟨own1, w1⟩ ⟨own2, w1.alloc (.cells #[.int .i64 ee.thread, .int .i64 ee.frags, .int .i64 ee.spine, .int .i64 ee.state, .int .i64 ee.cycles, .int .i64 ee.at_, .slice A' ee.got.length c'] 198)⟩ ∧ Blk ⟨own2, w1.alloc (.cells #[.int .i64 ee.thread, .int .i64 ee.frags, .int .i64 ee.spine, .int .i64 ee.state, .int .i64 ee.cycles, .int .i64 ee.at_, .slice A' ee.got.length c'] 198)⟩ 9 w1.heap.size 198 [.int .i64 ee.thread, .int .i64 ee.frags, .int .i64 ee.spine, .int .i64 ee.state, .int .i64 ee.cycles, .int .i64 ee.at_, .slice A' ee.got.length c'] := ⟨_, Mod.ext (g := ⟨own1, w1⟩) (by (repeat (first | (with_reducible assumption) | (with_reducible exact Ext.refl _) | (with_reducible exact Ext.more _ _ _ _) | apply Ext.alloc | refine Ext.setCell ?_ (by first | exact Nat.le_refl _ | exact Nat.le_add_right _ _ | assumption) _ | apply Ext.patch | apply Ext.drew | apply Ext.drewN))) 9, Blk.new ⟨own1, w1⟩ 9 198 [.int .i64 ee.thread, .int .i64 ee.frags, .int .i64 ee.spine, .int .i64 ee.state, .int .i64 ee.cycles, .int .i64 ee.at_, .slice A' ee.got.length c']⟩
    have M2 := Lib.hid (M1.out.trans (m2.mono (fun x hx => hx.elim)))
    have H2 := Lib.hid (H1.out.keep m2 (fun x hx => hx.elim))
    have Q2 := Lib.hid q2
    clear m2 q2 hn hr hL' hi he0 H1 M1
    go_wp2_with fail
    have qx : w1.heap.size < (w1.alloc (.cells #[.int .i64 ee.thread, .int .i64 ee.frags, .int .i64 ee.spine, .int .i64 ee.state, .int .i64 ee.cycles, .int .i64 ee.at_, .slice A' ee.got.length c'] 198)).heap.size := by rw [World.size_alloc]; omega
    generalize w1.heap.size = bq at *
    generalize w1.alloc (.cells #[.int .i64 ee.thread, .int .i64 ee.frags, .int .i64 ee.spine, .int .i64 ee.state, .int .i64 ee.cycles, .int .i64 ee.at_, .slice A' ee.got.length c'] 198) = w2 at *
    have q0 := Q2.out.cell (i := 0) rfl
    have q1 := Q2.out.cell (i := 1) rfl
    have q2 := Q2.out.cell (i := 2) rfl
    have q3 := Q2.out.cell (i := 3) rfl
    have q4 := Q2.out.cell (i := 4) rfl
    have q5 := Q2.out.cell (i := 5) rfl
    have q6 := Q2.out.cell (i := 6) rfl
    have ql := Q2.out.lt
    (try simp only [GW.to] at q0 q1 q2 q3 q4 q5 q6 ql)
    have HFT := Lib.hid (fun X => (show Calls Tryz.prog 165 #[shelves cm bp bk bl, .int .i64 ee.frags, .int .i64 ee.spine] ((⟨own2, w2⟩ : GW).pt X).w (Gives (.bool (S.fits ee.frags ee.spine)) _) from sh_fits (S := S.tick) ee.frags ee.spine (H2.out.keep (Mod.pt (Mod.refl (fun _ => False) _) X) (fun x hx => hx.elim))))
    unfold shelves at HFT
    have a0 := H2.out.blk.cell (i := 0) rfl
    have a1 := H2.out.blk.cell (i := 1) rfl
    have a2 := H2.out.blk.cell (i := 2) rfl
    have a3 := H2.out.blk.cell (i := 3) rfl
    have a4 := H2.out.blk.cell (i := 4) rfl
    have a5 := H2.out.blk.cell (i := 5) rfl
    have a6 := H2.out.blk.cell (i := 6) rfl
    have a7 := H2.out.blk.cell (i := 7) rfl
    have a8 := H2.out.blk.cell (i := 8) rfl
    have a9 := H2.out.blk.cell (i := 9) rfl
    have a10 := H2.out.blk.cell (i := 10) rfl
    have a11 := H2.out.blk.cell (i := 11) rfl
    have a12 := H2.out.blk.cell (i := 12) rfl
    have a13 := H2.out.blk.cell (i := 13) rfl
    have a14 := H2.out.blk.cell (i := 14) rfl
    have a15 := H2.out.blk.cell (i := 15) rfl
    have al := H2.out.blk.lt
    (try simp only [GW.to] at a0 a1 a2 a3 a4 a5 a6 a7 a8 a9 a10 a11 a12 a13 a14 a15 al)
    refine wp_region_mixed [true, true, true, true, true, true, true, true, true, true] 0 10 (by kernel_rfl) (by kernel_rfl) (by kernel_rfl) ?_ (by decide) (by decide) (by decide) (by kernel_rfl) ?_
    · intro c a d v w h; cases d <;> exact h
    intro X00
    simp only [pickOps]
    repeat (go_big_quiet_step ((go_at_call 165; exact Calls.added (HFT.out _))))
    refine wpQuiet_nil (fun X0 => ?_)
    clear X00
    refine wpAnyM_done (by kernel_rfl) (fun X0' => ?_) _
    generalize hW : World.patch (World.patch _ _) _ = w3
    have hX : Ext w2 w3 := by rw [← hW]; exact Ext.trans ⟨_, rfl⟩ ⟨_, rfl⟩
    clear hW
    obtain ⟨own3, m3⟩ := Mod.ofExt hX own2
    have M3 := Lib.hid (M2.out.trans (m3.mono (fun x hx => hx.elim)))
    have H3 := Lib.hid (H2.out.keep m3 (fun x hx => hx.elim))
    have Q3 := Lib.hid (Q2.out.keep m3 id)
    clear m3 hX a0 a1 a2 a3 a4 a5 a6 a7 a8 a9 a10 a11 a12 a13 a14 a15 al q0 q1 q2 q3 q4 q5 q6 ql H2 M2 Q2 HFT
    have q0 := Q3.out.cell (i := 0) rfl
    have q1 := Q3.out.cell (i := 1) rfl
    have q2 := Q3.out.cell (i := 2) rfl
    have q3 := Q3.out.cell (i := 3) rfl
    have q4 := Q3.out.cell (i := 4) rfl
    have q5 := Q3.out.cell (i := 5) rfl
    have q6 := Q3.out.cell (i := 6) rfl
    have ql := Q3.out.lt
    (try simp only [GW.to] at q0 q1 q2 q3 q4 q5 q6 ql)
    cases hft : S.fits ee.frags ee.spine
    · by_cases h2 : 2 ≤ ee.cycles
      · have HK := Lib.hid (HKB.out hft (by omega))
        have hz2 : decide ((2 : Int) ≤ ee.cycles) = true := decide_eq_true h2
        clear hft h2
        have a0 := H3.out.blk.cell (i := 0) rfl
        have a1 := H3.out.blk.cell (i := 1) rfl
        have a2 := H3.out.blk.cell (i := 2) rfl
        have a3 := H3.out.blk.cell (i := 3) rfl
        have a4 := H3.out.blk.cell (i := 4) rfl
        have a5 := H3.out.blk.cell (i := 5) rfl
        have a6 := H3.out.blk.cell (i := 6) rfl
        have a7 := H3.out.blk.cell (i := 7) rfl
        have a8 := H3.out.blk.cell (i := 8) rfl
        have a9 := H3.out.blk.cell (i := 9) rfl
        have a10 := H3.out.blk.cell (i := 10) rfl
        have a11 := H3.out.blk.cell (i := 11) rfl
        have a12 := H3.out.blk.cell (i := 12) rfl
        have a13 := H3.out.blk.cell (i := 13) rfl
        have a14 := H3.out.blk.cell (i := 14) rfl
        have a15 := H3.out.blk.cell (i := 15) rfl
        have al := H3.out.blk.lt
        (try simp only [GW.to] at a0 a1 a2 a3 a4 a5 a6 a7 a8 a9 a10 a11 a12 a13 a14 a15 al)
        go_wp2_with fail
        refine (line_fail ⟨own3, w3⟩ (B + 3) bl S.line H3.out.line).mono ?_
        rintro e w4 ⟨rfl, own4, m4, l4⟩
        have M4 := Lib.hid (M3.out.trans (m4.mono (fun x (hx : x = B + 3) => (⟨by omega, by omega⟩ : inst B x))))
        have H4 := Lib.hid (H3.out.withLine (m4.mono (fun x hx => Or.inl hx)) l4)
        clear m4 l4
        go_wp2_with fail
        go_ret
        rw [HK.out]
        exact Does.of ⟨own4, w4⟩ rfl (by rw [HIP.out]; try rfl) M4.out ⟨_, _, _, _, _, _, _, H4.out⟩
      · have HK := Lib.hid (HKC.out hft (by omega))
        have hz2 : decide ((2 : Int) ≤ ee.cycles) = false := decide_eq_false h2
        clear hft h2
        go_wp2_with fail
        go_ret
        rw [HK.out]
        exact Does.of ⟨own3, w3⟩ rfl rfl M3.out ⟨_, _, _, _, _, _, _, H3.out⟩
    · have HK := Lib.hid (HKA.out hft)
      have hfree : ee.frags ≤ (S.pool.free : Int) := by
        unfold SpaceS.fits at hft
        simp only [Bool.and_eq_true, decide_eq_true_eq] at hft
        exact hft.1
      obtain ⟨got, hgot⟩ := PoolS.taken_some (p := S.pool) (k := ee.frags) f1 hfree
      have HG := Lib.hid (show askGot S ee.frags = got by unfold askGot; rw [hgot]; rfl)
      have HGL := Lib.hid (show got.length ≤ 1024 from Nat.le_trans (PoolS.taken_len hgot) H3.out.pool.len)
      have HSD := Lib.hid (fits_side hft hgot (show S.pool.l.length ≤ 1024 from H3.out.pool.len) H3.out.coil.ok)
      have HT := Lib.hid (fun w' (he : Ext w3 w') => (show Calls Tryz.prog 166 #[shelves cm bp bk bl, .int .i64 ee.frags, .int .i64 ee.spine] w' (fun e w4 => ∃ s4 c4, e = .returned (.tuple #[.slice s4 got.length c4, .int .i64 (takesAt S.tick got ee.spine)]) ∧ Hid (∃ own4, Mod (inst B) g ⟨own4, w4⟩ ∧ Row ⟨own4, w4⟩ 0 3 1 (.slice s4 got.length c4) got.length (got.map (Value.int .i64)) ∧ SpaceIn ⟨own4, w4⟩ B b bt (takesS S.tick got ee.spine) bp bk bl A cs cm bs)) from by
        obtain ⟨ownp, mp⟩ := Mod.ofExt he own3
        refine (sh_takes ee.frags ee.spine got (H3.out.keep mp (fun x hx => hx.elim)) hB hgot ⟨f3, HSD.out⟩).mono ?_
        rintro e w4 ⟨v, own4, rfl, m4, s4, c4, rfl, r4, h4⟩
        exact ⟨s4, c4, rfl, Lib.hid ⟨own4, (M3.out.trans (mp.mono (fun x hx => hx.elim))).trans (m4.mono (fun x (hx : x = B + 1 ∨ x = B + 2) => (⟨by omega, by omega⟩ : inst B x))), r4, h4⟩⟩))
      unfold shelves at HT
      clear hgot hft hfree
      generalize hgn : got.length = ng at *
      have HGN := Lib.hid hgn
      clear hgn
      generalize hat4 : takesAt S.tick got ee.spine = at4 at *
      have HAT4 := Lib.hid hat4
      clear hat4
      have a0 := H3.out.blk.cell (i := 0) rfl
      have a1 := H3.out.blk.cell (i := 1) rfl
      have a2 := H3.out.blk.cell (i := 2) rfl
      have a3 := H3.out.blk.cell (i := 3) rfl
      have a4 := H3.out.blk.cell (i := 4) rfl
      have a5 := H3.out.blk.cell (i := 5) rfl
      have a6 := H3.out.blk.cell (i := 6) rfl
      have a7 := H3.out.blk.cell (i := 7) rfl
      have a8 := H3.out.blk.cell (i := 8) rfl
      have a9 := H3.out.blk.cell (i := 9) rfl
      have a10 := H3.out.blk.cell (i := 10) rfl
      have a11 := H3.out.blk.cell (i := 11) rfl
      have a12 := H3.out.blk.cell (i := 12) rfl
      have a13 := H3.out.blk.cell (i := 13) rfl
      have a14 := H3.out.blk.cell (i := 14) rfl
      have a15 := H3.out.blk.cell (i := 15) rfl
      have al := H3.out.blk.lt
      (try simp only [GW.to] at a0 a1 a2 a3 a4 a5 a6 a7 a8 a9 a10 a11 a12 a13 a14 a15 al)
      go_wp2_with fail
      go_cut [7, 8] (fun s7 s8 wx => ∃ s4 c4, s7 = .slice s4 ng c4 ∧ s8 = .int .i64 at4 ∧ Hid (∃ own4, Mod (inst B) g ⟨own4, wx⟩ ∧ Row ⟨own4, wx⟩ 0 3 1 (.slice s4 ng c4) ng (got.map (Value.int .i64)) ∧ SpaceIn ⟨own4, wx⟩ B b bt (takesS S.tick got ee.spine) bp bk bl A cs cm bs))
      case first =>
        go_region_with (go_at_call 166; refine (HT.out _ ?he).mono ?_; (case he => (repeat (first | (with_reducible assumption) | (with_reducible exact Ext.refl _) | (with_reducible exact Ext.more _ _ _ _) | apply Ext.alloc | refine Ext.setCell ?_ (by first | exact Nat.le_refl _ | exact Nat.le_add_right _ _ | assumption) _ | apply Ext.patch | apply Ext.drew | apply Ext.drewN))); rintro e w4 ⟨s4, c4, rfl, HG4⟩)
        all_goals
          go_wp2_with fail
          go_meet
          exact ⟨s4, c4, rfl, rfl, HG4⟩
      case rest =>
        obtain ⟨s4, c4, rfl, rfl, HG4⟩ := hcut
        obtain ⟨w4, rfl⟩ : ∃ w4 : World, w4 = wc := ⟨_, rfl⟩
        obtain ⟨own4, m4, r4, h4⟩ := HG4.out
        have M4 := Lib.hid m4
        have R4 := Lib.hid r4
        have H4 := Lib.hid h4
        clear m4 r4 h4 HG4 HT H3 M3 Q3 a0 a1 a2 a3 a4 a5 a6 a7 a8 a9 a10 a11 a12 a13 a14 a15 al q0 q1 q2 q3 q4 q5 q6 ql
        have HST := Lib.hid (space_set 2 sense s4 c4 got H4.out R4.out.seg hB (by rw [HGN.out]; have := HGL.out; omega))
        rw [HGN.out] at HST
        go_wp2_with fail
        refine HST.out.mono ?_
        rintro e w5 ⟨rfl, own5, m5, h5⟩
        have M5 := Lib.hid (M4.out.trans (m5.mono (fun x (hx : x = B + 50) => (⟨by omega, by omega⟩ : inst B x))))
        have R5 := Lib.hid (R4.out.keep m5 (by omega))
        have H5 := Lib.hid h5
        clear m5 h5
        have HLG := Lib.hid (line_grant ⟨own5, w5⟩ (B + 3) bl s4 c4 ng got at4 S.line H5.out.line HGN.out R5.out.cells HGL.out)
        have a0 := H5.out.blk.cell (i := 0) rfl
        have a1 := H5.out.blk.cell (i := 1) rfl
        have a2 := H5.out.blk.cell (i := 2) rfl
        have a3 := H5.out.blk.cell (i := 3) rfl
        have a4 := H5.out.blk.cell (i := 4) rfl
        have a5 := H5.out.blk.cell (i := 5) rfl
        have a6 := H5.out.blk.cell (i := 6) rfl
        have a7 := H5.out.blk.cell (i := 7) rfl
        have a8 := H5.out.blk.cell (i := 8) rfl
        have a9 := H5.out.blk.cell (i := 9) rfl
        have a10 := H5.out.blk.cell (i := 10) rfl
        have a11 := H5.out.blk.cell (i := 11) rfl
        have a12 := H5.out.blk.cell (i := 12) rfl
        have a13 := H5.out.blk.cell (i := 13) rfl
        have a14 := H5.out.blk.cell (i := 14) rfl
        have a15 := H5.out.blk.cell (i := 15) rfl
        have al := H5.out.blk.lt
        (try simp only [GW.to] at a0 a1 a2 a3 a4 a5 a6 a7 a8 a9 a10 a11 a12 a13 a14 a15 al)
        go_wp2_with fail
        refine HLG.out.mono ?_
        rintro e w6 ⟨rfl, own6, m6, l6⟩
        have M6 := Lib.hid (M5.out.trans (m6.mono (fun x (hx : x = B + 3) => (⟨by omega, by omega⟩ : inst B x))))
        have H6 := Lib.hid (H5.out.withLine (m6.mono (fun x hx => Or.inl hx)) l6)
        clear m6 l6
        go_wp2_with fail
        go_ret
        rw [HK.out, HG.out]
        exact Does.of ⟨own6, w6⟩ rfl (by rw [HIP.out]; try rfl) M6.out ⟨_, _, _, _, _, _, _, by have := H6.out; rw [← HAT4.out] at this; exact this⟩
theorem space_serve (sense : Bool) (g : GW) (B b bt : Nat) (S : SpaceS) (h : SpaceAt g B b bt S) (hB : 100 ≤ B) (hc : 0 ≤ S.count ∧ S.count ≤ 1099511627776) (hfair : ∀ e ∈ S.line, e.fair) :
    Calls Tryz.prog 122 #[.pointer (some ⟨b, 0, none⟩), .bool sense] g.w (Does (.bool (serve S sense).1) g (inst B) (fun g' => SpaceAt g' B b bt (serve S sense).2)) :=
  space_serve_any sense g B b bt S h hB hc (fun e he => ⟨(hfair e he).1, (hfair e he).2.2.1⟩)
end Go.Proofs.YtnebimabokgofaaGreat

