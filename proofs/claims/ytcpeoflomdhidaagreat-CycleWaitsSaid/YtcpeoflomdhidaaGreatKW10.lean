import Derived.Test.YtcpeoflomdhidaaGreatKW09
import Derived.Deep.RegionWith
import Derived.Deep.DeepCutAuto
/-
  Packed: SpaceM, CoilD, Made, Eval, Ints, First21, SpaceN, Moves.
-/
open Go.Ext renaming alloc → zA, patch → zP, drew → zD, drewN → zN, more → zM, refl → zR, setCell → zS
open Nat renaming le_refl → zL, le_add_right → zK
/-
  Merged: XSpaceE, XSpaceF.
-/
/-
  space: Begin, End, Look.
-/
namespace Go
open Go.RowKit
def ent0 : Ent := ⟨0, 0, 0, 0, 0, 0, [], false⟩
end Go
namespace Go.Proofs.YtcpeoflomdhidaaGreat
open Go Go.RowKit
set_option linter.unusedVariables false
set_option linter.unnecessarySimpa false
set_option linter.unusedSimpArgs false
set_option maxHeartbeats 4000000
def beginS (S : SpaceS) : SpaceS := { S.tick with forced := false, line := S.line.map noteE }
def endS (S : SpaceS) : SpaceS := { S.tick with line := S.line.map endE }
def look (S : SpaceS) (t : Int) : AskR :=
  if placeOf (ofB t) S.line < 0 then ((3, [], -1), S.tick)
  else if (S.line.getD (placeOf (ofB t) S.line).toNat ent0).state = 0 then ((0, [], -1), S.tick)
  else if (S.line.getD (placeOf (ofB t) S.line).toNat ent0).state = 2 then ((2, [], -1), { S.tick with line := dropL t S.line })
  else ((1, (S.line.getD (placeOf (ofB t) S.line).toNat ent0).got, (S.line.getD (placeOf (ofB t) S.line).toNat ent0).at_), { S.tick with line := dropL t S.line })
theorem SpaceIn.force {g : GW} {B b bt bp bk bl cs : Nat} {S : SpaceS} {A : Option Addr} {cm : Cnf} {bs : List Nat} (h : SpaceIn g B b bt S bp bk bl A cs cm bs) (v : Bool) : SpaceIn ⟨g.own, g.w.setCell ⟨b, 2, none⟩ (.bool v)⟩ B b bt { S with forced := v } bp bk bl A cs cm bs := by
  have m : Mod (fun x => x = B) g ⟨g.own, g.w.setCell ⟨b, 2, none⟩ (.bool v)⟩ := Mod.set h.blk.own
  exact ⟨h.blk.set 2 _, h.row.setOther 2 _ (fun x hx => h.row.ne_type h.blk (by decide) hx), h.tab.keep m (by omega), h.pool.keep m (by omega), h.coil.keep m (by omega), h.line.keep m (by omega) (by omega), h.cnf.keep m (by omega), h.same, h.blen, fun j x s hx hs => (h.stock j x s hx hs).keep m (by omega), h.check, h.few⟩
theorem space_begin (g : GW) (B b bt : Nat) (S : SpaceS) (h : SpaceAt g B b bt S) (hB : 100 ≤ B) (hc : 0 ≤ S.count ∧ S.count ≤ 1099511627776) :
    Calls Tryz.prog 65 #[.pointer (some ⟨b, 0, none⟩)] g.w (Does (.tuple #[]) g (inst B) (fun g' => SpaceAt g' B b bt (beginS S))) := by
  obtain ⟨bp, bk, bl, A, cs, cm, bs, h⟩ := h
  obtain ⟨hc0, hc1⟩ := hc
  have H0 := Lib.hid (show SpaceIn ⟨g.own, (g.w.setCell ⟨b, 3, none⟩ (.int .i64 (S.count + 1))).setCell ⟨b, 2, none⟩ (.bool false)⟩ B b bt { S.tick with forced := false } bp bk bl A cs cm bs from h.tick.force false)
  have M0 := Lib.hid (show Mod (inst B) g ⟨g.own, (g.w.setCell ⟨b, 3, none⟩ (.int .i64 (S.count + 1))).setCell ⟨b, 2, none⟩ (.bool false)⟩ from Mod.st (Mod.set (by rw [h.blk.own]; exact ⟨by omega, by omega⟩)) (by rw [h.blk.own]; exact ⟨by omega, by omega⟩))
  obtain ⟨a0, a1, a2, a3, a4, a5, a6, a7, a8, a9, a10, a11, a12, a13, a14, a15, al⟩ := h.blk.c16
  have af2 := h.blk.live 2
  have af3 := h.blk.live 3
  (try simp only [GW.to] at a0 a1 a2 a3 a4 a5 a6 a7 a8 a9 a10 a11 a12 a13 a14 a15 af2 af3 al)
  clear h
  go_enter Tryz.func65, Tryz.ntmps65
  go_wp2_with fail
  refine (line_begin ⟨g.own, _⟩ (B + 3) bl S.line H0.out.line).mono ?_
  rintro e w1 ⟨rfl, own1, m1, l1⟩
  have M1 := Lib.hid (M0.out.trans (m1.mono (fun x (hx : x = B + 3) => (⟨by omega, by omega⟩ : inst B x))))
  have H1 := Lib.hid (H0.out.withLine (m1.mono (fun x hx => Or.inl hx)) l1)
  clear m1 l1
  go_wp2_with fail
  exact bodyPost_end (results_none rfl _ _ _) rfl (Does.of ⟨own1, w1⟩ rfl rfl M1.out ⟨_, _, _, _, _, _, _, H1.out⟩)
theorem space_end (g : GW) (B b bt : Nat) (S : SpaceS) (h : SpaceAt g B b bt S) (hB : 100 ≤ B) (hc : 0 ≤ S.count ∧ S.count ≤ 1099511627776) (hcy : ∀ e ∈ S.line, 0 ≤ e.cycles ∧ e.cycles ≤ 1099511627776) :
    Calls Tryz.prog 73 #[.pointer (some ⟨b, 0, none⟩)] g.w (Does (.tuple #[]) g (inst B) (fun g' => SpaceAt g' B b bt (endS S))) := by
  obtain ⟨bp, bk, bl, A, cs, cm, bs, h⟩ := h
  obtain ⟨hc0, hc1⟩ := hc
  have HCY := Lib.hid hcy
  have H0 := Lib.hid (show SpaceIn ⟨g.own, g.w.setCell ⟨b, 3, none⟩ (.int .i64 (S.count + 1))⟩ B b bt S.tick bp bk bl A cs cm bs from h.tick)
  have M0 := Lib.hid (show Mod (inst B) g ⟨g.own, g.w.setCell ⟨b, 3, none⟩ (.int .i64 (S.count + 1))⟩ from Mod.set (by rw [h.blk.own]; exact ⟨by omega, by omega⟩))
  obtain ⟨a0, a1, a2, a3, a4, a5, a6, a7, a8, a9, a10, a11, a12, a13, a14, a15, al⟩ := h.blk.c16
  have af3 := h.blk.live 3
  (try simp only [GW.to] at a0 a1 a2 a3 a4 a5 a6 a7 a8 a9 a10 a11 a12 a13 a14 a15 af3 al)
  clear h hcy
  go_enter Tryz.func73, Tryz.ntmps73
  go_wp2_with fail
  refine (line_end ⟨g.own, _⟩ (B + 3) bl S.line H0.out.line HCY.out).mono ?_
  rintro e w1 ⟨rfl, own1, m1, l1⟩
  have M1 := Lib.hid (M0.out.trans (m1.mono (fun x (hx : x = B + 3) => (⟨by omega, by omega⟩ : inst B x))))
  have H1 := Lib.hid (H0.out.withLine (m1.mono (fun x hx => Or.inl hx)) l1)
  clear m1 l1
  go_wp2_with fail
  exact bodyPost_end (results_none rfl _ _ _) rfl (Does.of ⟨own1, w1⟩ rfl rfl M1.out ⟨_, _, _, _, _, _, _, H1.out⟩)
end Go.Proofs.YtcpeoflomdhidaaGreat
/-
  space: Serve.
-/
namespace Go
def Ent.fair2 (e : Ent) : Prop := 1 ≤ e.frags ∧ 0 ≤ e.spine
def Ent.fair (e : Ent) : Prop := 1 ≤ e.frags ∧ e.frags ≤ 1099511627776 ∧ 0 ≤ e.spine ∧ e.spine ≤ 1099511627776
end Go
namespace Go.Proofs.YtcpeoflomdhidaaGreat
open Go Go.RowKit
set_option linter.unusedVariables false
set_option linter.unnecessarySimpa false
set_option linter.unusedSimpArgs false
set_option maxHeartbeats 4000000
def serveE (S : SpaceS) : Ent := S.line.getD (placeOf waitB S.line).toNat ent0
def serveYes (S : SpaceS) (got : List Int) (sp : Int) (sense : Bool) : SpaceS := { takesS S got sp with tab := S.tab.setAll got 2 sense, line := grantL S.line got (takesAt S got sp) }
def serve (S : SpaceS) (sense : Bool) : Bool × SpaceS :=
  if placeOf waitB S.line < 0 then (false, S.tick)
  else if S.fits (serveE S).frags (serveE S).spine then (true, serveYes S.tick (askGot S (serveE S).frags) (serveE S).spine sense)
  else if 2 ≤ (serveE S).cycles then (true, { S.tick with line := failL S.line })
  else (false, S.tick)
set_option maxRecDepth 100000 in
theorem space_serve_any (sense : Bool) (g : GW) (B b bt : Nat) (S : SpaceS) (h : SpaceAt g B b bt S) (hB : 100 ≤ B) (hc : 0 ≤ S.count ∧ S.count ≤ 1099511627776) (hfair : ∀ e ∈ S.line, e.fair2) :
    Calls Tryz.prog 75 #[.pointer (some ⟨b, 0, none⟩), .bool sense] g.w (Does (.bool (serve S sense).1) g (inst B) (fun g' => SpaceAt g' B b bt (serve S sense).2)) := by
  obtain ⟨bp, bk, bl, A, cs, cm, bs, h⟩ := h
  obtain ⟨hc0, hc1⟩ := hc
  have H0 := Lib.hid (show SpaceIn ⟨g.own, g.w.setCell ⟨b, 3, none⟩ (.int .i64 (S.count + 1))⟩ B b bt S.tick bp bk bl A cs cm bs from h.tick)
  have M0 := Lib.hid (show Mod (inst B) g ⟨g.own, g.w.setCell ⟨b, 3, none⟩ (.int .i64 (S.count + 1))⟩ from Mod.set (by rw [h.blk.own]; exact ⟨by omega, by omega⟩))
  have HFA := Lib.hid hfair
  obtain ⟨a0, a1, a2, a3, a4, a5, a6, a7, a8, a9, a10, a11, a12, a13, a14, a15, al⟩ := h.blk.c16
  have af3 := h.blk.live 3
  (try simp only [GW.to] at a0 a1 a2 a3 a4 a5 a6 a7 a8 a9 a10 a11 a12 a13 a14 a15 af3 al)
  clear h hfair
  go_enter Tryz.func75, Tryz.ntmps75
  go_wp2_with fail
  refine (line_First ⟨g.own, _⟩ (B + 3) bl S.line H0.out.line).mono ?_
  rintro e w1 ⟨v, own1, rfl, m1, r, ok, rfl, hn, hp⟩
  have M1 := Lib.hid (M0.out.trans (m1.mono (fun x hx => hx.elim)))
  have H1 := Lib.hid (H0.out.keep m1 (fun x hx => hx.elim))
  clear m1 a0 a1 a2 a3 a4 a5 a6 a7 a8 a9 a10 a11 a12 a13 a14 a15 af3 al
  by_cases hi : placeOf waitB S.line < 0
  · obtain ⟨rfl, rfl⟩ := hn hi
    have HK := Lib.hid (show serve S sense = (false, S.tick) from if_pos hi)
    clear hn hp hi
    go_wp2_with fail
    go_ret
    rw [HK.out]
    refine Does.ext ⟨own1, w1⟩ (by (repeat (first | (with_reducible (first | assumption | exact zR _ | exact zM _ _ _ _)) | apply zA | refine zS ?_ (by first | exact zL _ | exact zK _ _ | assumption) _ | apply zP | apply zD | apply zN))) rfl M1.out (fun g2 m => ⟨_, _, _, _, _, _, _, H1.out.keep m (fun x hx => hx.elim)⟩)
  · obtain ⟨rfl, ee, A', c', hL', rfl, hr⟩ := hp (by omega)
    have he0 : serveE S = ee := by unfold serveE; rw [List.getD_eq_getElem?_getD, hL']; rfl
    obtain ⟨f1, f3⟩ := HFA.out ee (List.mem_of_getElem? hL')
    have HKA := Lib.hid (show S.fits ee.frags ee.spine = true → serve S sense = (true, serveYes S.tick (askGot S ee.frags) ee.spine sense) from fun h2 => by unfold serve; rw [if_neg hi, he0, h2]; rfl)
    have HKB := Lib.hid (show S.fits ee.frags ee.spine = false → 2 ≤ ee.cycles → serve S sense = (true, { S.tick with line := failL S.line }) from fun h2 h3 => by unfold serve; rw [if_neg hi, he0, h2, if_neg (by simp), if_pos h3])
    have HKC := Lib.hid (show S.fits ee.frags ee.spine = false → ¬ 2 ≤ ee.cycles → serve S sense = (false, S.tick) from fun h2 h3 => by unfold serve; rw [if_neg hi, he0, h2, if_neg (by simp), if_neg h3])
    have HIP := Lib.hid (show decide (0 ≤ placeOf waitB S.line) = true from decide_eq_true (by omega))
    obtain ⟨own2, m2, q2⟩ : ∃ own2, Mod (fun _ => False) ⟨own1, w1⟩ ⟨own2, w1.alloc (.cells #[.int .i64 ee.thread, .int .i64 ee.frags, .int .i64 ee.spine, .int .i64 ee.state, .int .i64 ee.cycles, .int .i64 ee.at_, .slice A' ee.got.length c'] 167)⟩ ∧ Blk ⟨own2, w1.alloc (.cells #[.int .i64 ee.thread, .int .i64 ee.frags, .int .i64 ee.spine, .int .i64 ee.state, .int .i64 ee.cycles, .int .i64 ee.at_, .slice A' ee.got.length c'] 167)⟩ 9 w1.heap.size 167 [.int .i64 ee.thread, .int .i64 ee.frags, .int .i64 ee.spine, .int .i64 ee.state, .int .i64 ee.cycles, .int .i64 ee.at_, .slice A' ee.got.length c'] := ⟨_, Mod.ext (g := ⟨own1, w1⟩) (by (repeat (first | (with_reducible (first | assumption | exact zR _ | exact zM _ _ _ _)) | apply zA | refine zS ?_ (by first | exact zL _ | exact zK _ _ | assumption) _ | apply zP | apply zD | apply zN))) 9, Blk.new ⟨own1, w1⟩ 9 167 [.int .i64 ee.thread, .int .i64 ee.frags, .int .i64 ee.spine, .int .i64 ee.state, .int .i64 ee.cycles, .int .i64 ee.at_, .slice A' ee.got.length c']⟩
    have M2 := Lib.hid (M1.out.trans (m2.mono (fun x hx => hx.elim)))
    have H2 := Lib.hid (H1.out.keep m2 (fun x hx => hx.elim))
    have Q2 := Lib.hid q2
    clear m2 q2 hn hr hL' hi he0 H1 M1
    go_wp2_with fail
    have qx : w1.heap.size < (w1.alloc (.cells #[.int .i64 ee.thread, .int .i64 ee.frags, .int .i64 ee.spine, .int .i64 ee.state, .int .i64 ee.cycles, .int .i64 ee.at_, .slice A' ee.got.length c'] 167)).heap.size := by rw [World.size_alloc]; omega
    generalize w1.heap.size = bq at *
    generalize w1.alloc (.cells #[.int .i64 ee.thread, .int .i64 ee.frags, .int .i64 ee.spine, .int .i64 ee.state, .int .i64 ee.cycles, .int .i64 ee.at_, .slice A' ee.got.length c'] 167) = w2 at *
    obtain ⟨q0, q1, q2, q3, q4, q5, q6, ql⟩ := Q2.out.c7
    (try simp only [GW.to] at q0 q1 q2 q3 q4 q5 q6 ql)
    have HFT := Lib.hid (fun X => (show Calls Tryz.prog 112 #[shelves cm bp bk bl, .int .i64 ee.frags, .int .i64 ee.spine] ((⟨own2, w2⟩ : GW).pt X).w (Gives (.bool (S.fits ee.frags ee.spine)) _) from sh_fits (S := S.tick) ee.frags ee.spine (H2.out.keep (Mod.pt (Mod.refl (fun _ => False) _) X) (fun x hx => hx.elim))))
    unfold shelves at HFT
    obtain ⟨a0, a1, a2, a3, a4, a5, a6, a7, a8, a9, a10, a11, a12, a13, a14, a15, al⟩ := H2.out.blk.c16
    (try simp only [GW.to] at a0 a1 a2 a3 a4 a5 a6 a7 a8 a9 a10 a11 a12 a13 a14 a15 al)
    refine wp_region_mixed [true, true, true, true, true, true, true, true, true, true] 0 10 (by kernel_rfl) (by kernel_rfl) (by kernel_rfl) ?_ (by decide) (by decide) (by decide) (by kernel_rfl) ?_
    · intro c a d v w h; cases d <;> exact h
    intro X00
    simp only [pickOps]
    repeat (go_big_quiet_step ((go_at_call 112; exact Calls.added (HFT.out _))))
    refine wpQuiet_nil (fun X0 => ?_)
    clear X00
    refine wpAnyM_done (by kernel_rfl) (fun X0' => ?_) _
    generalize hW : World.patch (World.patch _ _) _ = w3
    have hX : Ext w2 w3 := by rw [← hW]; exact Ext.trans ⟨_, rfl⟩ ⟨_, rfl⟩
    clear hW
    obtain ⟨own3, m3⟩ := Mod.ofExt hX own2
    have M3 := Lib.hid (M2.out.trans (m3.mono (fun x hx => hx.elim)))
    have H3 := Lib.hid (H2.out.keep m3 (fun x hx => hx.elim))
    have Q3 := Lib.hid (Q2.out.keep m3 id)
    clear m3 hX a0 a1 a2 a3 a4 a5 a6 a7 a8 a9 a10 a11 a12 a13 a14 a15 al q0 q1 q2 q3 q4 q5 q6 ql H2 M2 Q2 HFT
    obtain ⟨q0, q1, q2, q3, q4, q5, q6, ql⟩ := Q3.out.c7
    (try simp only [GW.to] at q0 q1 q2 q3 q4 q5 q6 ql)
    cases hft : S.fits ee.frags ee.spine
    · by_cases h2 : 2 ≤ ee.cycles
      · have HK := Lib.hid (HKB.out hft (by omega))
        have hz2 : decide ((2 : Int) ≤ ee.cycles) = true := decide_eq_true h2
        clear hft h2
        obtain ⟨a0, a1, a2, a3, a4, a5, a6, a7, a8, a9, a10, a11, a12, a13, a14, a15, al⟩ := H3.out.blk.c16
        (try simp only [GW.to] at a0 a1 a2 a3 a4 a5 a6 a7 a8 a9 a10 a11 a12 a13 a14 a15 al)
        go_wp2_with fail
        refine (line_fail ⟨own3, w3⟩ (B + 3) bl S.line H3.out.line).mono ?_
        rintro e w4 ⟨rfl, own4, m4, l4⟩
        have M4 := Lib.hid (M3.out.trans (m4.mono (fun x (hx : x = B + 3) => (⟨by omega, by omega⟩ : inst B x))))
        have H4 := Lib.hid (H3.out.withLine (m4.mono (fun x hx => Or.inl hx)) l4)
        clear m4 l4
        go_wp2_with fail
        go_ret
        rw [HK.out]
        exact Does.of ⟨own4, w4⟩ rfl (by rw [HIP.out]; try rfl) M4.out ⟨_, _, _, _, _, _, _, H4.out⟩
      · have HK := Lib.hid (HKC.out hft (by omega))
        have hz2 : decide ((2 : Int) ≤ ee.cycles) = false := decide_eq_false h2
        clear hft h2
        go_wp2_with fail
        go_ret
        rw [HK.out]
        exact Does.of ⟨own3, w3⟩ rfl rfl M3.out ⟨_, _, _, _, _, _, _, H3.out⟩
    · have HK := Lib.hid (HKA.out hft)
      have hfree : ee.frags ≤ (S.pool.free : Int) := by
        unfold SpaceS.fits at hft
        simp only [Bool.and_eq_true, decide_eq_true_eq] at hft
        exact hft.1
      obtain ⟨got, hgot⟩ := PoolS.taken_some (p := S.pool) (k := ee.frags) f1 hfree
      have HG := Lib.hid (show askGot S ee.frags = got by unfold askGot; rw [hgot]; rfl)
      have HGL := Lib.hid (show got.length ≤ 1024 from Nat.le_trans (PoolS.taken_len hgot) H3.out.pool.len)
      have HSD := Lib.hid (fits_side hft hgot (show S.pool.l.length ≤ 1024 from H3.out.pool.len) H3.out.coil.ok)
      have HT := Lib.hid (fun w' (he : Ext w3 w') => (show Calls Tryz.prog 114 #[shelves cm bp bk bl, .int .i64 ee.frags, .int .i64 ee.spine] w' (fun e w4 => ∃ s4 c4, e = .returned (.tuple #[.slice s4 got.length c4, .int .i64 (takesAt S.tick got ee.spine)]) ∧ Hid (∃ own4, Mod (inst B) g ⟨own4, w4⟩ ∧ Row ⟨own4, w4⟩ 0 3 1 (.slice s4 got.length c4) got.length (got.map (Value.int .i64)) ∧ SpaceIn ⟨own4, w4⟩ B b bt (takesS S.tick got ee.spine) bp bk bl A cs cm bs)) from by
        obtain ⟨ownp, mp⟩ := Mod.ofExt he own3
        refine (sh_takes ee.frags ee.spine got (H3.out.keep mp (fun x hx => hx.elim)) hB hgot ⟨f3, HSD.out⟩).mono ?_
        rintro e w4 ⟨v, own4, rfl, m4, s4, c4, rfl, r4, h4⟩
        exact ⟨s4, c4, rfl, Lib.hid ⟨own4, (M3.out.trans (mp.mono (fun x hx => hx.elim))).trans (m4.mono (fun x (hx : x = B + 1 ∨ x = B + 2) => (⟨by omega, by omega⟩ : inst B x))), r4, h4⟩⟩))
      unfold shelves at HT
      clear hgot hft hfree
      generalize hgn : got.length = ng at *
      have HGN := Lib.hid hgn
      clear hgn
      generalize hat4 : takesAt S.tick got ee.spine = at4 at *
      have HAT4 := Lib.hid hat4
      clear hat4
      obtain ⟨a0, a1, a2, a3, a4, a5, a6, a7, a8, a9, a10, a11, a12, a13, a14, a15, al⟩ := H3.out.blk.c16
      (try simp only [GW.to] at a0 a1 a2 a3 a4 a5 a6 a7 a8 a9 a10 a11 a12 a13 a14 a15 al)
      go_wp2_with fail
      go_cut [7, 8] (fun s7 s8 wx => ∃ s4 c4, s7 = .slice s4 ng c4 ∧ s8 = .int .i64 at4 ∧ Hid (∃ own4, Mod (inst B) g ⟨own4, wx⟩ ∧ Row ⟨own4, wx⟩ 0 3 1 (.slice s4 ng c4) ng (got.map (Value.int .i64)) ∧ SpaceIn ⟨own4, wx⟩ B b bt (takesS S.tick got ee.spine) bp bk bl A cs cm bs))
      case first =>
        go_region_with (go_at_call 114; refine (HT.out _ ?he).mono ?_; (case he => (repeat (first | (with_reducible (first | assumption | exact zR _ | exact zM _ _ _ _)) | apply zA | refine zS ?_ (by first | exact zL _ | exact zK _ _ | assumption) _ | apply zP | apply zD | apply zN))); rintro e w4 ⟨s4, c4, rfl, HG4⟩)
        all_goals
          go_wp2_with fail
          go_meet
          exact ⟨s4, c4, rfl, rfl, HG4⟩
      case rest =>
        obtain ⟨s4, c4, rfl, rfl, HG4⟩ := hcut
        obtain ⟨w4, rfl⟩ : ∃ w4 : World, w4 = wc := ⟨_, rfl⟩
        obtain ⟨own4, m4, r4, h4⟩ := HG4.out
        have M4 := Lib.hid m4
        have R4 := Lib.hid r4
        have H4 := Lib.hid h4
        clear m4 r4 h4 HG4 HT H3 M3 Q3 a0 a1 a2 a3 a4 a5 a6 a7 a8 a9 a10 a11 a12 a13 a14 a15 al q0 q1 q2 q3 q4 q5 q6 ql
        have HST := Lib.hid (space_set 2 sense s4 c4 got H4.out R4.out.seg hB (by rw [HGN.out]; have := HGL.out; omega))
        rw [HGN.out] at HST
        go_wp2_with fail
        refine HST.out.mono ?_
        rintro e w5 ⟨rfl, own5, m5, h5⟩
        have M5 := Lib.hid (M4.out.trans (m5.mono (fun x (hx : x = B + 50) => (⟨by omega, by omega⟩ : inst B x))))
        have R5 := Lib.hid (R4.out.keep m5 (by omega))
        have H5 := Lib.hid h5
        clear m5 h5
        have HLG := Lib.hid (line_grant ⟨own5, w5⟩ (B + 3) bl s4 c4 ng got at4 S.line H5.out.line HGN.out R5.out.cells HGL.out)
        obtain ⟨a0, a1, a2, a3, a4, a5, a6, a7, a8, a9, a10, a11, a12, a13, a14, a15, al⟩ := H5.out.blk.c16
        (try simp only [GW.to] at a0 a1 a2 a3 a4 a5 a6 a7 a8 a9 a10 a11 a12 a13 a14 a15 al)
        go_wp2_with fail
        refine HLG.out.mono ?_
        rintro e w6 ⟨rfl, own6, m6, l6⟩
        have M6 := Lib.hid (M5.out.trans (m6.mono (fun x (hx : x = B + 3) => (⟨by omega, by omega⟩ : inst B x))))
        have H6 := Lib.hid (H5.out.withLine (m6.mono (fun x hx => Or.inl hx)) l6)
        clear m6 l6
        go_wp2_with fail
        go_ret
        rw [HK.out, HG.out]
        exact Does.of ⟨own6, w6⟩ rfl (by rw [HIP.out]; try rfl) M6.out ⟨_, _, _, _, _, _, _, by have := H6.out; rw [← HAT4.out] at this; exact this⟩
theorem space_serve (sense : Bool) (g : GW) (B b bt : Nat) (S : SpaceS) (h : SpaceAt g B b bt S) (hB : 100 ≤ B) (hc : 0 ≤ S.count ∧ S.count ≤ 1099511627776) (hfair : ∀ e ∈ S.line, e.fair) :
    Calls Tryz.prog 75 #[.pointer (some ⟨b, 0, none⟩), .bool sense] g.w (Does (.bool (serve S sense).1) g (inst B) (fun g' => SpaceAt g' B b bt (serve S sense).2)) :=
  space_serve_any sense g B b bt S h hB hc (fun e he => ⟨(hfair e he).1, (hfair e he).2.2.1⟩)
end Go.Proofs.YtcpeoflomdhidaaGreat

/-
  coil: Left, Done.
-/
namespace Go.Proofs.YtcpeoflomdhidaaGreat
open Go Go.RowKit
set_option linter.unusedVariables false
set_option linter.unnecessarySimpa false
set_option linter.unusedSimpArgs false
set_option maxHeartbeats 2000000
theorem coil_done (g : GW) (t b : Nat) (c : CoilS) (h : CoilAt g t b c) (hk : c.kept ≤ 0) :
    Calls Tryz.prog 148 #[.pointer (some ⟨b, 0, none⟩)] g.w (Does (.bool true) g (fun x => x = t) (fun g' => CoilAt g' t b c.done)) := by
  have c0 := h.blk.cell (i := 0) rfl
  have c1 := h.blk.cell (i := 1) rfl
  have c2 := h.blk.cell (i := 2) rfl
  have c3 := h.blk.cell (i := 3) rfl
  have c4 := h.blk.cell (i := 4) rfl
  have f2 := h.blk.live 2
  have f3 := h.blk.live 3
  have hbl := h.blk.lt
  obtain ⟨o1, ⟨_, _⟩, ⟨_, _⟩, ⟨_, _⟩, ⟨_, _⟩, o6⟩ := h.ok
  have HO := Lib.hid h.blk.own
  have HB := Lib.hid h.blk
  have H := Lib.hid h
  clear h
  obtain ⟨size, cur, u0, u1, kept⟩ := c
  simp only at *
  have hd : decide (0 < kept) = false := decide_eq_false (by omega)
  rcases (show cur = 0 ∨ cur = 1 by omega) with rfl | rfl
  · replace c1 : g.w.cell? ⟨b, 1, none⟩ = some (.int .i64 0) := c1
    have HT := Lib.hid (show CoilS.done ⟨size, 0, u0, u1, kept⟩ = ⟨size, 0, u0, 0, kept⟩ by unfold CoilS.done CoilS.doneable; simp only; rw [if_pos (decide_eq_true hk)]; rfl)
    have HK := Lib.hid (show CoilS.Ok ⟨size, 0, u0, 0, kept⟩ from ⟨by simp, by simp only; omega, by simp only; omega, by simp only; omega, by simp only; omega, by simp only [CoilS.used, if_true, if_false, Nat.one_ne_zero] at *; omega⟩)
    clear o6
    go_enter Tryz.func148, Tryz.ntmps148
    go_wp2_with fail
    refine wp_region_mixed [true, true, true, true, true, true, true, true, true, false] 1 9 (by kernel_rfl) (by kernel_rfl) (by kernel_rfl) ?_ (by decide) (by decide) (by decide) (by kernel_rfl) ?_
    · intro c a d v w h; cases d <;> exact h
    intro X00
    simp only [pickOps]
    repeat (go_big_quiet_step (fail))
    refine wpQuiet_nil (fun X0 => ?_)
    clear X00
    refine wpAnyM_last 9 _ (by kernel_rfl) (by kernel_rfl) rfl rfl (fun X1 K Q' hK => ?_)
    go_simp
    refine hK _ _ (fun X2 => ?_)
    clear hK K Q'
    go_wp2_with fail
    go_ret
    (try rw [World.patch_patch])
    refine Does.of (GW.pt ⟨g.own, _⟩ _) rfl rfl (Mod.pt (Mod.st Mod.self HO.out) _) ?_
    rw [HT.out]
    exact CoilAt.pt ⟨HB.out.set 3 _, HK.out⟩ _
  · replace c1 : g.w.cell? ⟨b, 1, none⟩ = some (.int .i64 1) := c1
    have HT := Lib.hid (show CoilS.done ⟨size, 1, u0, u1, kept⟩ = ⟨size, 1, 0, u1, kept⟩ by unfold CoilS.done CoilS.doneable; simp only; rw [if_pos (decide_eq_true hk)]; rfl)
    have HK := Lib.hid (show CoilS.Ok ⟨size, 1, 0, u1, kept⟩ from ⟨by simp, by simp only; omega, by simp only; omega, by simp only; omega, by simp only; omega, by simp only [CoilS.used, if_true, if_false, Nat.one_ne_zero] at *; omega⟩)
    clear o6
    go_enter Tryz.func148, Tryz.ntmps148
    go_wp2_with fail
    refine wp_region_mixed [true, true, true, true, true, true, true, true, true, false] 1 9 (by kernel_rfl) (by kernel_rfl) (by kernel_rfl) ?_ (by decide) (by decide) (by decide) (by kernel_rfl) ?_
    · intro c a d v w h; cases d <;> exact h
    intro X00
    simp only [pickOps]
    repeat (go_big_quiet_step (fail))
    refine wpQuiet_nil (fun X0 => ?_)
    clear X00
    refine wpAnyM_last 9 _ (by kernel_rfl) (by kernel_rfl) rfl rfl (fun X1 K Q' hK => ?_)
    go_simp
    refine hK _ _ (fun X2 => ?_)
    clear hK K Q'
    go_wp2_with fail
    go_ret
    (try rw [World.patch_patch])
    refine Does.of (GW.pt ⟨g.own, _⟩ _) rfl rfl (Mod.pt (Mod.st Mod.self HO.out) _) ?_
    rw [HT.out]
    exact CoilAt.pt ⟨HB.out.set 2 _, HK.out⟩ _
end Go.Proofs.YtcpeoflomdhidaaGreat

/-
  spolaw21: made.
-/
namespace Go.Proofs.YtcpeoflomdhidaaGreat
open Go Go.RowKit
set_option linter.unusedVariables false
set_option linter.unnecessarySimpa false
set_option linter.unusedSimpArgs false
set_option maxHeartbeats 4000000
end Go.Proofs.YtcpeoflomdhidaaGreat

/-
  space: what asking comes to at small states. No walk here.
-/
namespace Go.Proofs.YtcpeoflomdhidaaGreat
open Go Go.RowKit
set_option linter.unusedVariables false
def c4 (A : Option Addr) : Cnf := ⟨4, 0, 0, 1, 1, 0, 1, 0, A, 1, [⟨false, none, 0, []⟩]⟩
def s4 (A : Option Addr) : SpaceS := SpaceS.fresh (c4 A) (TabS.fresh 4)
def cS (frags spine cache : Int) (A : Option Addr) : Cnf := ⟨frags, spine, 0, 3, 1, cache, 1, 0, A, 1, [⟨false, none, 0, []⟩]⟩
def sR (room : Int) (A : Option Addr) : SpaceS := SpaceS.fresh (cS 20 room 0 A) (TabS.fresh 20)
def sR1 (room sp : Int) (A : Option Addr) : SpaceS := (ask (sR room A) 0 6 sp true).2
def sRn (room sp : Int) (A : Option Addr) : Nat → SpaceS
  | 0 => sR1 room sp A
  | n + 1 => (ask (sRn room sp A n) 1 1 0 true).2
end Go.Proofs.YtcpeoflomdhidaaGreat

/-
  sporef.Ints.
-/
namespace Go
end Go
namespace Go.Proofs.YtcpeoflomdhidaaGreat
open Go Go.RowKit
set_option linter.unusedVariables false

end Go.Proofs.YtcpeoflomdhidaaGreat

/-
  space: Sweep; spolaw21.first.
-/
namespace Go
end Go
namespace Go.Proofs.YtcpeoflomdhidaaGreat
open Go Go.RowKit
set_option linter.unusedVariables false
set_option linter.unnecessarySimpa false
set_option linter.unusedSimpArgs false
set_option maxHeartbeats 4000000
def sweeps (S : SpaceS) (i : Int) (sense : Bool) : Bool := S.tab.state i == 2 && !S.tab.black i sense
def sweepS (S : SpaceS) (i : Int) (sense : Bool) : SpaceS := if sweeps S i sense then { S.tick with tab := S.tab.set i 0 false false, pool := S.pool.give i } else S.tick
theorem space_sweep (i : Int) (sense : Bool) (g : GW) (B b bt : Nat) (S : SpaceS) (h : SpaceAt g B b bt S) (hB : 100 ≤ B) (hc : 0 ≤ S.count ∧ S.count ≤ 1099511627776) :
    Calls Tryz.prog 71 #[.pointer (some ⟨b, 0, none⟩), .int .i64 i, .bool sense] g.w (Does (.bool (sweeps S i sense)) g (inst B) (fun g' => SpaceAt g' B b bt (sweepS S i sense))) := by
  obtain ⟨bp, bk, bl, A, cs, cm, bs, h⟩ := h
  obtain ⟨hc0, hc1⟩ := hc
  have H := Lib.hid h
  have M0 := Lib.hid (show Mod (inst B) g ⟨g.own, g.w.setCell ⟨b, 3, none⟩ (.int .i64 (S.count + 1))⟩ from Mod.set (by rw [h.blk.own]; exact ⟨by omega, by omega⟩))
  have H0 := Lib.hid h.tick
  obtain ⟨a0, a1, a2, a3, a4, a5, a6, a7, a8, a9, a10, a11, a12, a13, a14, a15, al⟩ := h.blk.c16
  have af3 := h.blk.live 3
  (try simp only [GW.to] at a0 a1 a2 a3 a4 a5 a6 a7 a8 a9 a10 a11 a12 a13 a14 a15 af3 al)
  have k0 := (h.tick.blk.cell (i := 0) rfl)
  have k13 := (h.tick.blk.cell (i := 13) rfl)
  simp only at k0 k13
  have HST := Lib.hid (tab_state ⟨g.own, g.w.setCell ⟨b, 3, none⟩ (.int .i64 (S.count + 1))⟩ (B + 50) bt i S.tab h.tick.tab)
  have HBL := Lib.hid (tab_black ⟨g.own, g.w.setCell ⟨b, 3, none⟩ (.int .i64 (S.count + 1))⟩ (B + 50) bt i sense S.tab h.tick.tab)
  have HFR := Lib.hid (space_frees i h.tick hB)
  clear h
  cases hst : (S.tab.state i == 2)
  · have HV := Lib.hid (show sweeps S i sense = false by unfold sweeps; rw [hst]; rfl)
    have HW := Lib.hid (show sweepS S i sense = S.tick by unfold sweepS; rw [HV.out]; rfl)
    have hz : ((S.tab.state i : Int) != 2) = true := by rw [bne, show (2 : Int) = ((2 : Nat) : Int) from rfl, beq_cast]; simpa using hst
    generalize S.tab.state i = x at *
    clear hst
    go_enter Tryz.func71, Tryz.ntmps71
    go_wp2_with fail
    refine HST.out.mono ?_
    rintro e w1 ⟨rfl, rfl⟩
    go_wp2_with fail
    go_ret
    exact Does.of ⟨g.own, _⟩ rfl (by rw [HV.out]; try rfl) M0.out (by rw [HW.out]; exact ⟨_, _, _, _, _, _, _, H0.out⟩)
  · have hz : ((S.tab.state i : Int) != 2) = false := by rw [bne, show (2 : Int) = ((2 : Nat) : Int) from rfl, beq_cast]; simpa using hst
    cases hbl : S.tab.black i sense
    · have HV := Lib.hid (show sweeps S i sense = true by unfold sweeps; rw [hst, hbl]; rfl)
      have HW := Lib.hid (show sweepS S i sense = { S.tick with tab := S.tab.set i 0 false false, pool := S.pool.give i } by unfold sweepS; rw [HV.out]; rfl)
      rw [hbl] at HBL
      generalize S.tab.state i = x at *
      clear hst hbl
      go_enter Tryz.func71, Tryz.ntmps71
      go_wp2_with fail
      refine HST.out.mono ?_
      rintro e w1 ⟨rfl, rfl⟩
      go_wp2_with fail
      refine HBL.out.mono ?_
      rintro e w1 ⟨rfl, rfl⟩
      go_wp2_with fail
      refine HFR.out.mono ?_
      rintro e w1 ⟨rfl, own1, m1, h1⟩
      have M1 := Lib.hid (M0.out.trans (m1.mono (fun y (hy : y = B + 50 ∨ y = B + 1) => (⟨by omega, by omega⟩ : inst B y))))
      have H1 := Lib.hid h1
      clear m1 h1
      go_wp2_with fail
      go_ret
      exact Does.of ⟨own1, _⟩ rfl (by rw [HV.out]; try rfl) M1.out (by rw [HW.out]; exact ⟨_, _, _, _, _, _, _, H1.out⟩)
    · have HV := Lib.hid (show sweeps S i sense = false by unfold sweeps; rw [hst, hbl]; rfl)
      have HW := Lib.hid (show sweepS S i sense = S.tick by unfold sweepS; rw [HV.out]; rfl)
      rw [hbl] at HBL
      generalize S.tab.state i = x at *
      clear hst hbl
      go_enter Tryz.func71, Tryz.ntmps71
      go_wp2_with fail
      refine HST.out.mono ?_
      rintro e w1 ⟨rfl, rfl⟩
      go_wp2_with fail
      refine HBL.out.mono ?_
      rintro e w1 ⟨rfl, rfl⟩
      go_wp2_with fail
      go_ret
      exact Does.of ⟨g.own, _⟩ rfl (by rw [HV.out]; try rfl) M0.out (by rw [HW.out]; exact ⟨_, _, _, _, _, _, _, H0.out⟩)

end Go.Proofs.YtcpeoflomdhidaaGreat

/-
  space: Force, Turn, Done, Wants of any state.
-/
namespace Go.Proofs.YtcpeoflomdhidaaGreat
open Go Go.RowKit
set_option linter.unusedVariables false
set_option linter.unnecessarySimpa false
set_option linter.unusedSimpArgs false
set_option maxHeartbeats 4000000
def forceS (S : SpaceS) : SpaceS := { S.tick with forced := true }
def turnS (S : SpaceS) : SpaceS := { S.tick with coil := S.coil.turn }
def doneS (S : SpaceS) : SpaceS := { S.tick with coil := S.coil.done }
def wantsS (S : SpaceS) : Bool := decide (0 < Ent.wait S.line) || (decide ((S.pool.free : Int) < S.c.low) || S.forced)
theorem space_force (g : GW) (B b bt : Nat) (S : SpaceS) (h : SpaceAt g B b bt S) (hB : 100 ≤ B) (hc : 0 ≤ S.count ∧ S.count ≤ 1099511627776) :
    Calls Tryz.prog 34 #[.pointer (some ⟨b, 0, none⟩)] g.w (Does (.tuple #[]) g (inst B) (fun g' => SpaceAt g' B b bt (forceS S))) := by
  obtain ⟨bp, bk, bl, A, cs, cm, bs, h⟩ := h
  obtain ⟨hc0, hc1⟩ := hc
  have H0 := Lib.hid (show SpaceIn ⟨g.own, (g.w.setCell ⟨b, 3, none⟩ (.int .i64 (S.count + 1))).setCell ⟨b, 2, none⟩ (.bool true)⟩ B b bt { S.tick with forced := true } bp bk bl A cs cm bs from h.tick.force true)
  have M0 := Lib.hid (show Mod (inst B) g ⟨g.own, (g.w.setCell ⟨b, 3, none⟩ (.int .i64 (S.count + 1))).setCell ⟨b, 2, none⟩ (.bool true)⟩ from Mod.st (Mod.set (by rw [h.blk.own]; exact ⟨by omega, by omega⟩)) (by rw [h.blk.own]; exact ⟨by omega, by omega⟩))
  obtain ⟨a0, a1, a2, a3, a4, a5, a6, a7, a8, a9, a10, a11, a12, a13, a14, a15, al⟩ := h.blk.c16
  have af2 := h.blk.live 2
  have af3 := h.blk.live 3
  (try simp only [GW.to] at a0 a1 a2 a3 a4 a5 a6 a7 a8 a9 a10 a11 a12 a13 a14 a15 af2 af3 al)
  clear h
  go_enter Tryz.func34, Tryz.ntmps34
  go_wp2_with fail
  exact bodyPost_end (results_none rfl _ _ _) rfl (Does.of ⟨g.own, _⟩ rfl rfl M0.out ⟨_, _, _, _, _, _, _, H0.out⟩)
theorem space_turn (g : GW) (B b bt : Nat) (S : SpaceS) (h : SpaceAt g B b bt S) (hB : 100 ≤ B) (hc : 0 ≤ S.count ∧ S.count ≤ 1099511627776) :
    Calls Tryz.prog 67 #[.pointer (some ⟨b, 0, none⟩)] g.w (Does (.bool S.coil.turnable) g (inst B) (fun g' => SpaceAt g' B b bt (turnS S))) := by
  obtain ⟨bp, bk, bl, A, cs, cm, bs, h⟩ := h
  obtain ⟨hc0, hc1⟩ := hc
  have M0 := Lib.hid (show Mod (inst B) g ⟨g.own, g.w.setCell ⟨b, 3, none⟩ (.int .i64 (S.count + 1))⟩ from Mod.set (by rw [h.blk.own]; exact ⟨by omega, by omega⟩))
  have H0 := Lib.hid (show SpaceIn ⟨g.own, g.w.setCell ⟨b, 3, none⟩ (.int .i64 (S.count + 1))⟩ B b bt S.tick bp bk bl A cs cm bs from h.tick)
  obtain ⟨a0, a1, a2, a3, a4, a5, a6, a7, a8, a9, a10, a11, a12, a13, a14, a15, al⟩ := h.blk.c16
  have af3 := h.blk.live 3
  (try simp only [GW.to] at a0 a1 a2 a3 a4 a5 a6 a7 a8 a9 a10 a11 a12 a13 a14 a15 af3 al)
  clear h
  go_enter Tryz.func67, Tryz.ntmps67
  go_wp2_with fail
  refine (coil_turn ⟨g.own, _⟩ (B + 2) bk S.coil H0.out.coil).mono ?_
  rintro e w1 ⟨rfl, own1, m1, l1⟩
  have M1 := Lib.hid (M0.out.trans (m1.mono (fun x (hx : x = B + 2) => (⟨by omega, by omega⟩ : inst B x))))
  have H1 := Lib.hid (H0.out.withCoil m1 l1)
  clear m1 l1
  go_wp2_with fail
  go_ret
  exact Does.of ⟨own1, w1⟩ rfl rfl M1.out ⟨_, _, _, _, _, _, _, H1.out⟩
theorem space_done (g : GW) (B b bt : Nat) (S : SpaceS) (h : SpaceAt g B b bt S) (hB : 100 ≤ B) (hc : 0 ≤ S.count ∧ S.count ≤ 1099511627776) (hk : S.coil.kept ≤ 0) :
    Calls Tryz.prog 69 #[.pointer (some ⟨b, 0, none⟩)] g.w (Does (.bool true) g (inst B) (fun g' => SpaceAt g' B b bt (doneS S))) := by
  obtain ⟨bp, bk, bl, A, cs, cm, bs, h⟩ := h
  obtain ⟨hc0, hc1⟩ := hc
  have M0 := Lib.hid (show Mod (inst B) g ⟨g.own, g.w.setCell ⟨b, 3, none⟩ (.int .i64 (S.count + 1))⟩ from Mod.set (by rw [h.blk.own]; exact ⟨by omega, by omega⟩))
  have H0 := Lib.hid (show SpaceIn ⟨g.own, g.w.setCell ⟨b, 3, none⟩ (.int .i64 (S.count + 1))⟩ B b bt S.tick bp bk bl A cs cm bs from h.tick)
  have HK := Lib.hid hk
  obtain ⟨a0, a1, a2, a3, a4, a5, a6, a7, a8, a9, a10, a11, a12, a13, a14, a15, al⟩ := h.blk.c16
  have af3 := h.blk.live 3
  (try simp only [GW.to] at a0 a1 a2 a3 a4 a5 a6 a7 a8 a9 a10 a11 a12 a13 a14 a15 af3 al)
  clear h hk
  go_enter Tryz.func69, Tryz.ntmps69
  go_wp2_with fail
  refine (coil_done ⟨g.own, _⟩ (B + 2) bk S.coil H0.out.coil HK.out).mono ?_
  rintro e w1 ⟨rfl, own1, m1, l1⟩
  have M1 := Lib.hid (M0.out.trans (m1.mono (fun x (hx : x = B + 2) => (⟨by omega, by omega⟩ : inst B x))))
  have H1 := Lib.hid (H0.out.withCoil m1 l1)
  clear m1 l1
  go_wp2_with fail
  go_ret
  exact Does.of ⟨own1, w1⟩ rfl rfl M1.out ⟨_, _, _, _, _, _, _, H1.out⟩
theorem space_wants (g : GW) (B b bt : Nat) (S : SpaceS) (h : SpaceAt g B b bt S) (hB : 100 ≤ B) (hc : 0 ≤ S.count ∧ S.count ≤ 1099511627776) :
    Calls Tryz.prog 62 #[.pointer (some ⟨b, 0, none⟩)] g.w (Does (.bool (wantsS S)) g (inst B) (fun g' => SpaceAt g' B b bt S.tick)) := by
  obtain ⟨bp, bk, bl, A, cs, cm, bs, h⟩ := h
  obtain ⟨hc0, hc1⟩ := hc
  have M0 := Lib.hid (show Mod (inst B) g ⟨g.own, g.w.setCell ⟨b, 3, none⟩ (.int .i64 (S.count + 1))⟩ from Mod.set (by rw [h.blk.own]; exact ⟨by omega, by omega⟩))
  have H0 := Lib.hid (show SpaceIn ⟨g.own, g.w.setCell ⟨b, 3, none⟩ (.int .i64 (S.count + 1))⟩ B b bt S.tick bp bk bl A cs cm bs from h.tick)
  have HV := Lib.hid (show wantsS S = (decide (0 < Ent.wait S.line) || (decide ((S.pool.free : Int) < cm.low) || S.forced)) from by unfold wantsS; rw [h.same.low])
  have HW := Lib.hid (fun X => sh_waits ((⟨g.own, g.w.setCell ⟨b, 3, none⟩ (.int .i64 (S.count + 1))⟩ : GW).pt X) (B + 3) cm bp bk bl _ (H0.out.line.keep (Mod.pt (Mod.refl (fun _ => False) _) X) id id))
  have HR := Lib.hid (fun X => sh_free ((⟨g.own, g.w.setCell ⟨b, 3, none⟩ (.int .i64 (S.count + 1))⟩ : GW).pt X) (B + 1) cm bp bk bl S.pool (H0.out.pool.keep (Mod.pt (Mod.refl (fun _ => False) _) X) id))
  rw [show S.tick.line = S.line from rfl] at HW
  have c3 := h.blk.cell (i := 3) rfl
  have f3 := h.blk.live 3
  have hbl := h.blk.lt
  have HB0 := H0.out.blk
  rw [show S.tick.forced = S.forced from rfl] at HB0
  obtain ⟨a0, a1, a2, a3, a4, a5, a6, a7, a8, a9, a10, a11, a12, a13, a14, a15, al⟩ := HB0.c16
  (try simp only [GW.to] at a0 a1 a2 a3 a4 a5 a6 a7 a8 a9 a10 a11 a12 a13 a14 a15 al)
  unfold shelves at HW HR
  clear h HB0
  generalize S.pool.free = fr at *
  generalize Ent.wait S.line = wt at *
  generalize S.forced = fo at *
  by_cases hw : 0 < wt
  · have d1 : decide (0 < wt) = true := decide_eq_true hw
    have HV2 := Lib.hid (show wantsS S = true from by rw [HV.out, decide_eq_true hw, Bool.true_or])
    clear hw
    go_enter Tryz.func62, Tryz.ntmps62
    go_wp2_with fail
    refine wp_region_mixed [true, true, true, true, true, true, true, true, true, true, true, true, true, true, true, true, true, true, true, true, true, true, true, true, true, true, true] 0 27 (by kernel_rfl) (by kernel_rfl) (by kernel_rfl) ?_ (by decide) (by decide) (by decide) (by kernel_rfl) ?_
    · intro c a d v w h; cases d <;> exact h
    intro X00
    simp only [pickOps]
    repeat (go_big_quiet_step (first | (go_at_call 22; exact Calls.added (HW.out _)) | (go_at_call 24; exact Calls.added (HR.out _))))
    refine wpQuiet_nil (fun X0 => ?_)
    clear X00
    refine wpAnyM_done (by kernel_rfl) (fun X0' => ?_) _
    go_wp2_with fail
    go_ret
    exact Does.ext ⟨g.own, _⟩ (by (repeat (first | (with_reducible (first | assumption | exact zR _ | exact zM _ _ _ _)) | apply zA | refine zS ?_ (by first | exact zL _ | exact zK _ _ | assumption) _ | apply zP | apply zD | apply zN))) (by rw [HV2.out]; try rfl) M0.out (fun g2 m => ⟨_, _, _, _, _, _, _, H0.out.keep m (fun x hx => hx.elim)⟩)
  · have d1 : decide (0 < wt) = false := decide_eq_false hw
    by_cases hl : (fr : Int) < cm.low
    · have d2 : decide ((fr : Int) < cm.low) = true := decide_eq_true hl
      have HV2 := Lib.hid (show wantsS S = true from by rw [HV.out, decide_eq_true hl]; simp)
      clear hw hl
      go_enter Tryz.func62, Tryz.ntmps62
      go_wp2_with fail
      refine wp_region_mixed [true, true, true, true, true, true, true, true, true, true, true, true, true, true, true, true, true, true, true, true, true, true, true, true, true, true, true] 0 27 (by kernel_rfl) (by kernel_rfl) (by kernel_rfl) ?_ (by decide) (by decide) (by decide) (by kernel_rfl) ?_
      · intro c a d v w h; cases d <;> exact h
      intro X00
      simp only [pickOps]
      repeat (go_big_quiet_step (first | (go_at_call 22; exact Calls.added (HW.out _)) | (go_at_call 24; exact Calls.added (HR.out _))))
      refine wpQuiet_nil (fun X0 => ?_)
      clear X00
      refine wpAnyM_done (by kernel_rfl) (fun X0' => ?_) _
      go_wp2_with fail
      go_ret
      exact Does.ext ⟨g.own, _⟩ (by (repeat (first | (with_reducible (first | assumption | exact zR _ | exact zM _ _ _ _)) | apply zA | refine zS ?_ (by first | exact zL _ | exact zK _ _ | assumption) _ | apply zP | apply zD | apply zN))) (by rw [HV2.out]; try rfl) M0.out (fun g2 m => ⟨_, _, _, _, _, _, _, H0.out.keep m (fun x hx => hx.elim)⟩)
    · have d2 : decide ((fr : Int) < cm.low) = false := decide_eq_false hl
      have HV2 := Lib.hid (show wantsS S = fo from by rw [HV.out, decide_eq_false hl, decide_eq_false hw]; simp)
      clear hw hl
      go_enter Tryz.func62, Tryz.ntmps62
      go_wp2_with fail
      refine wp_region_mixed [true, true, true, true, true, true, true, true, true, true, true, true, true, true, true, true, true, true, true, true, true, true, true, true, true, true, true] 0 27 (by kernel_rfl) (by kernel_rfl) (by kernel_rfl) ?_ (by decide) (by decide) (by decide) (by kernel_rfl) ?_
      · intro c a d v w h; cases d <;> exact h
      intro X00
      simp only [pickOps]
      repeat (go_big_quiet_step (first | (go_at_call 22; exact Calls.added (HW.out _)) | (go_at_call 24; exact Calls.added (HR.out _))))
      refine wpQuiet_nil (fun X0 => ?_)
      clear X00
      refine wpAnyM_done (by kernel_rfl) (fun X0' => ?_) _
      go_wp2_with fail
      go_ret
      exact Does.ext ⟨g.own, _⟩ (by (repeat (first | (with_reducible (first | assumption | exact zR _ | exact zM _ _ _ _)) | apply zA | refine zS ?_ (by first | exact zL _ | exact zK _ _ | assumption) _ | apply zP | apply zD | apply zN))) (by rw [HV2.out]; try rfl) M0.out (fun g2 m => ⟨_, _, _, _, _, _, _, H0.out.keep m (fun x hx => hx.elim)⟩)
end Go.Proofs.YtcpeoflomdhidaaGreat

/-
  Moves that may come late: taken first. No program here.
-/
namespace Go
section
variable {P : Program} {ops : Array Oper} {Q : Exit → Act → World → Prop} {md : Region.Mode} {w0 : World}
def moveOf (ops : Array Oper) (i : Nat) : Option (Option Tmp × Operand) := match ops[i]? with
  | some o => match o.op, o.guard with
    | .move x, none => some (o.dst, x)
    | _, _ => none
  | none => none
def movesOk (md : Region.Mode) (ops : Array Oper) : List Nat → Array Bool → Bool
  | [], _ => true
  | i :: E, l => (moveOf ops i).isSome && (Region.ready md ops l).contains i && Region.free md ops l i && movesOk md ops E (l.setIfInBounds i true)
def movesAct (ops : Array Oper) : List Nat → Act → Act
  | [], a => a
  | i :: E, a => match moveOf ops i with
    | some (d, x) => movesAct ops E (a.put d (a.eval x))
    | none => movesAct ops E a
def movesList : List Nat → Array Bool → Array Bool
  | [], l => l
  | i :: E, l => movesList E (l.setIfInBounds i true)
theorem moveOf_spec {i : Nat} {d : Option Tmp} {x : Operand} (h : moveOf ops i = some (d, x)) : ∃ o, ops[i]? = some o ∧ o.op = .move x ∧ o.guard = none ∧ o.dst = d := by
  unfold moveOf at h
  split at h
  · rename_i o ho
    split at h
    · rename_i y h1 h2
      simp only [Option.some.injEq, Prod.mk.injEq] at h
      obtain ⟨rfl, rfl⟩ := h
      exact ⟨o, ho, h1, h2, rfl⟩
    · cases h
  · cases h
theorem yields_move {o : Oper} {x : Operand} {a : Act} (h1 : o.op = .move x) (h2 : o.guard = none) : Yields P ops o (a.eval x) a := by
  unfold Yields
  refine Or.inl ⟨by simp [Region.wanted, h2], fun w => ?_⟩
  unfold execOp
  rw [h1]
  rfl
theorem wpAny_moves (hs : Region.noSelect ops = true) (hQ : ∀ (c : List PanicEntry) (a : Act) (d : Option Tmp) (v : Value) (w : World), Q (.panic c) (a.put d v) w → Q (.panic c) a w) : ∀ (E : List Nat) (fuel : Nat) (listed : Array Bool) (a : Act) (w : World), movesOk md ops E listed = true →
    wpAny P md ops Q fuel (movesList E listed) (movesAct ops E a) w → wpAny P md ops Q (fuel + E.length) listed a w
  | [], _, _, _, _, _, h => h
  | i :: E, fuel, listed, a, w, hm, h => by
    simp only [movesOk, Bool.and_eq_true] at hm
    obtain ⟨⟨⟨h1, h2⟩, h3⟩, h4⟩ := hm
    obtain ⟨⟨d, x⟩, hx⟩ := Option.isSome_iff_exists.1 h1
    obtain ⟨o, ho, hop, hg, rfl⟩ := moveOf_spec hx
    simp only [movesAct, hx, movesList] at h
    exact wpAny_take (v := a.eval x) ho hs h3 h2 (fun c a w h => hQ c a _ _ w h) (yields_move hop hg) (wpAny_moves hs hQ E fuel _ _ w h4 h)
def Region.sinkE (md : Region.Mode) (ops : Array Oper) (E : List Nat) (n : Nat) : Bool :=
  (List.range n).all fun i => E.contains i || (List.range (n + 1)).any fun j => decide (i < j) && Region.waitsFor md ops j i
def Region.treeB (md : Region.Mode) (ops : Array Oper) (L : Nat) : Bool := (List.range ops.size).all fun t => decide (t ≤ L) || (List.range t).any fun s => decide (L ≤ s) && Region.waitsFor md ops t s
def Region.lastE (md : Region.Mode) (ops : Array Oper) (E : List Nat) (L : Nat) : Bool := Region.sinkE md ops E L && Region.treeB md ops L && decide (L < ops.size)
theorem listed_tree {L : Nat} {listed : Array Bool} (hc : Closed md ops listed) (hC : Region.treeB md ops L = true) : ∀ (d t : Nat), t - L = d → L ≤ t → listed.getD t false = true → listed.getD L false = true := by
  intro d
  induction d using Nat.strongRecOn with
  | _ d ih =>
    intro t hd hL hl
    by_cases htL : t = L
    · rw [← htL]; exact hl
    · have htlt : t < ops.size := by
        rw [← hc.1]
        rcases Nat.lt_or_ge t listed.size with h | h
        · exact h
        · simp [Array.getElem?_eq_none h] at hl
      have h1 := List.all_eq_true.1 hC t (List.mem_range.2 htlt)
      simp only [Bool.or_eq_true, decide_eq_true_eq] at h1
      rcases h1 with h1 | h1
      · omega
      · obtain ⟨s, hs, hs2⟩ := List.any_eq_true.1 h1
        simp only [Bool.and_eq_true, decide_eq_true_eq] at hs2
        obtain ⟨oj, hoj, e, he, hb, hon⟩ := Region.waitsFor_spec hs2.2
        have h2 := hc.2 t oj hoj hl e he hb
        rw [hon] at h2
        have h3 := List.mem_range.1 hs
        exact ih (s - L) (by omega) s rfl hs2.1 h2
theorem belowE {L : Nat} {E : List Nat} {listed : Array Bool} (hc : Closed md ops listed) (hs : Region.sinkE md ops E L = true) (hE : ∀ i, E.contains i = true → listed.getD i false = true) (hL : ∀ oj, ops[L]? = some oj → ∀ e ∈ oj.after, Region.binds md e = true → listed.getD e.on false = true) : ∀ (d i : Nat), L - i = d → i < L → listed.getD i false = true := by
  intro d
  induction d using Nat.strongRecOn with
  | _ d ih =>
    intro i hd hi
    have h1 := List.all_eq_true.1 hs i (List.mem_range.2 hi)
    rw [Bool.or_eq_true] at h1
    rcases h1 with h1 | h1
    · exact hE i h1
    · obtain ⟨j, hj, hj2⟩ := List.any_eq_true.1 h1
      simp only [Bool.and_eq_true, decide_eq_true_eq] at hj2
      obtain ⟨oj, hoj, e, he, hb, hon⟩ := Region.waitsFor_spec hj2.2
      have hjle : j ≤ L := by have := List.mem_range.1 hj; omega
      rw [← hon]
      by_cases hjL : j = L
      · subst hjL
        exact hL oj hoj e he hb
      · exact hc.2 j oj hoj (ih (L - j) (by omega) j rfl (by omega)) e he hb
theorem last_waitsE {L : Nat} {E : List Nat} (hL : Region.lastE md ops E L = true) {listed : Array Bool} (hc : Closed md ops listed) (hE : ∀ i, E.contains i = true → listed.getD i false = true) {i : Nat} (hi : i ∈ Region.ready md ops listed) (hne : i < L) : ∀ j ∈ Region.ready md ops listed, j < L := by
  intro j hr
  simp only [Region.lastE, Bool.and_eq_true, decide_eq_true_eq] at hL
  obtain ⟨⟨hs, hC⟩, hz⟩ := hL
  obtain ⟨hun, -⟩ := mem_ready.1 hi
  refine Nat.lt_of_not_le fun hLj => ?_
  obtain ⟨hjun, oj, hoj, hall⟩ := mem_ready.1 hr
  have hbelow : listed.getD i false = true := by
    by_cases hjL : j = L
    · subst hjL
      exact belowE hc hs hE (fun o ho e he hb => by rw [hoj] at ho; injection ho with ho; subst ho; exact hall e he hb) _ i rfl hne
    · have h1 := List.all_eq_true.1 hC j (List.mem_range.2 (Array.getElem?_eq_some_iff.1 hoj).1)
      simp only [Bool.or_eq_true, decide_eq_true_eq] at h1
      rcases h1 with h1 | h1
      · omega
      · obtain ⟨s, hs', hs2⟩ := List.any_eq_true.1 h1
        simp only [Bool.and_eq_true, decide_eq_true_eq] at hs2
        obtain ⟨oj', hoj', e, he, hb, hon⟩ := Region.waitsFor_spec hs2.2
        rw [hoj] at hoj'
        injection hoj' with hoj'
        subst hoj'
        have h2 := hall e he hb
        rw [hon] at h2
        have h3 := listed_tree hc hC _ s rfl hs2.1 h2
        exact belowE hc hs hE (fun o ho e he hb => hc.2 L o ho h3 e he hb) _ i rfl hne
  rw [getD_both hun] at hbelow
  cases hbelow
theorem wpAnyM_firstE {L : Nat} {E : List Nat} {i : Nat} {oi : Oper} {v : Value} (hLast : Region.lastE md ops E L = true) (hiL : i < L) (hi : ops[i]? = some oi) (hsel : ∀ (j : Nat) (o : Oper) cs b, ops[j]? = some o → o.op ≠ .select cs b)
    (hQ : ∀ c a w, Q (.panic c) (a.put oi.dst v) w → Q (.panic c) a w) :
    ∀ (fuel : Nat) (listed : Array Bool) (a : Act) (w : World), Closed md ops listed → (∀ i, E.contains i = true → listed.getD i false = true) →
      (∀ j oj, ops[j]? = some oj → j ≠ i → listed.getD j true = false → (∀ e ∈ oj.after, Region.binds md e = true → e.on ≠ i) → oi.apart ops oj = true) →
      i ∈ Region.ready md ops listed → YieldsE P ops w0 oi v a → Ext w0 w →
      wpAnyM P md ops Q w0 L fuel (listed.setIfInBounds i true) (a.put oi.dst v) w → wpAnyM P md ops Q w0 L (fuel + 1) listed a w := by
  intro fuel
  induction fuel with
  | zero =>
    intro listed a w hcl _ _ hr hy hS H w1 hw1
    refine ⟨fun h => (by rw [h] at hr; cases hr), fun j hj => ?_⟩
    by_cases hji : j = i
    · subst hji
      exact ⟨fun _ => hy.wpOp hi (hS.trans hw1) (fun w' hw' => ⟨(hS.trans hw1).trans hw', H.ext (hw1.trans hw')⟩), fun h => by omega⟩
    · have := ready_mono hj hji
      rw [H.1] at this
      cases this
  | succ fuel ih =>
    intro listed a w hcl hEl hfree hr hy hS H w1 hw1
    refine ⟨fun h => (by rw [h] at hr; cases hr), fun j hj => ?_⟩
    have hjL : j < L := last_waitsE hLast hcl hEl hr hiL j hj
    refine ⟨fun _ => ?_, fun h => by omega⟩
    by_cases hji : j = i
    · subst hji
      exact hy.wpOp hi (hS.trans hw1) (fun w' hw' => ⟨(hS.trans hw1).trans hw', H.ext (hw1.trans hw')⟩)
    · have h1 := ((H w1 hw1).2 j (ready_mono hj hji)).1 hjL
      obtain ⟨hjun, oj, hoj, hall⟩ := mem_ready.1 hj
      have hnot : ∀ e ∈ oj.after, Region.binds md e = true → e.on ≠ i := fun e he hb heq => by
        have h1 := hall e he hb
        have h0 := (mem_ready.1 hr).1
        rw [heq] at h1
        rcases Nat.lt_or_ge i listed.size with h' | h'
        · simp [h'] at h0 h1; rw [h0] at h1; cases h1
        · simp [Array.getElem?_eq_none h'] at h1
      have h2 := wpOp_putE hoj (hfree j oj hoj hji hjun hnot) (fun cs b => hsel i oi cs b hi) (fun cs b => hsel j oj cs b hoj) hQ hy h1
      have hfree' : ∀ k ok, ops[k]? = some ok → k ≠ i → (listed.setIfInBounds j true).getD k true = false →
          (∀ e ∈ ok.after, Region.binds md e = true → e.on ≠ i) → oi.apart ops ok = true := fun k ok hk hki hun hno => by
        refine hfree k ok hk hki ?_ hno
        by_cases hjk : j = k
        · subst hjk; exact hjun
        · rw [getD_set_ne true hjk] at hun; exact hun
      refine wpOp_mono (fun a' w' h3 => ⟨h3.2.1, ih (listed.setIfInBounds j true) a' w' (hcl.set hj) (fun k hk => getD_set_true (hEl k hk)) hfree' (ready_mono hr (Ne.symm hji)) h3.1 h3.2.1 ?_⟩) h2
      rw [Array.setIfInBounds_comm _ _ hji]
      exact h3.2.2
theorem wpAnyM_lexE {L : Nat} {E : List Nat} (hLast : Region.lastE md ops E L = true) (hs : Region.noSelect ops = true) (hQ : ∀ (c : List PanicEntry) (a : Act) (d : Option Tmp) (v : Value) (w : World), Q (.panic c) (a.put d v) w → Q (.panic c) a w) (n : Nat) : ∀ (m : List Bool) (l : List Oper) (k : Nat) (listed : Array Bool) (a : Act), Closed md ops listed → (∀ i, E.contains i = true → listed.getD i false = true) → (∀ j, l[j]? = ops[k + j]?) → m.length ≤ l.length →
    lexMask md ops m k listed = true → maskBut L m k = true → wpCalm P ops w0 (fun a' => ∀ X, wpAnyM P md ops Q w0 L n (markOps m k listed) a' (w0.patch X)) (pickOps m l) a →
    ∀ X, wpAnyM P md ops Q w0 L (n + countB m) listed a (w0.patch X)
  | [], _, _, _, _, _, _, _, _, _, _, h, X => by
    simp only [pickOps, wpCalm, markOps] at h
    exact h X
  | _ :: _, [], _, _, _, _, _, _, hlen, _, _, _, _ => by simp at hlen
  | false :: m, o :: l, k, listed, a, hcl, hEl, hl, hlen, hB, hM, h, X =>
    wpAnyM_lexE hLast hs hQ n m l (k + 1) listed a hcl hEl (fun j => by have := hl (j + 1); simpa [Nat.add_assoc, Nat.add_comm 1 j] using this) (by simpa using hlen) (by simpa [lexMask] using hB) (by simpa [maskBut] using hM) (by simpa [pickOps, markOps] using h) X
  | true :: m, o :: l, k, listed, a, hcl, hEl, hl, hlen, hB, hM, h, X => by
    have h0 : ops[k]? = some o := by simpa using (hl 0).symm
    simp only [lexMask, Bool.and_eq_true] at hB
    obtain ⟨⟨hr, hf⟩, hB'⟩ := hB
    simp only [maskBut, Bool.and_eq_true, decide_eq_true_eq] at hM
    simp only [pickOps, markOps] at h
    obtain ⟨v, hy, hK⟩ := yieldsE_of_wpCalm h
    have hr' : k ∈ Region.ready md ops listed := by simpa using hr
    refine wpAnyM_firstE hLast hM.1 h0 (Region.noSelect_spec hs) (fun c a w h => hQ c a _ _ w h) (n + countB m) listed a _ hcl hEl (Region.free_spec h0 hf) hr' hy ⟨X, rfl⟩ ?_
    exact wpAnyM_lexE hLast hs hQ n m l (k + 1) _ _ (hcl.set hr') (fun k hk => getD_set_true (hEl k hk)) (fun j => by have := hl (j + 1); simpa [Nat.add_assoc, Nat.add_comm 1 j] using this) (by simpa using hlen) hB' hM.2 hK X
theorem closed_moves : ∀ (E : List Nat) (listed : Array Bool), Closed md ops listed → movesOk md ops E listed = true → Closed md ops (movesList E listed) ∧ ∀ i, listed.getD i false = true ∨ E.contains i = true → (movesList E listed).getD i false = true
  | [], listed, hc, _ => ⟨hc, fun i h => by rcases h with h | h; exact h; simp at h⟩
  | i :: E, listed, hc, hm => by
    simp only [movesOk, Bool.and_eq_true] at hm
    obtain ⟨⟨⟨h1, h2⟩, h3⟩, h4⟩ := hm
    have hr : i ∈ Region.ready md ops listed := by simpa using h2
    obtain ⟨c1, c2⟩ := closed_moves E _ (hc.set hr) h4
    refine ⟨c1, fun k hk => c2 k ?_⟩
    rcases hk with hk | hk
    · exact Or.inl (getD_set_true hk)
    · by_cases hki : k = i
      · subst hki
        refine Or.inl ?_
        obtain ⟨_, o, ho, _⟩ := mem_ready.1 hr
        have hlt : k < listed.size := by rw [hc.1]; exact (Array.getElem?_eq_some_iff.1 ho).1
        simp [hlt]
      · refine Or.inr ?_
        simpa [hki] using hk
theorem closed_lex : ∀ (m : List Bool) (k : Nat) (listed : Array Bool), Closed md ops listed → lexMask md ops m k listed = true → Closed md ops (markOps m k listed)
  | [], _, _, hc, _ => hc
  | false :: m, k, listed, hc, h => closed_lex m (k + 1) listed hc (by simpa [lexMask] using h)
  | true :: m, k, listed, hc, h => by
    simp only [lexMask, Bool.and_eq_true] at h
    obtain ⟨⟨hr, hf⟩, hB'⟩ := h
    exact closed_lex m (k + 1) _ (hc.set (by simpa using hr)) hB'
theorem maskBut_all {L : Nat} : ∀ (m : List Bool) (k : Nat), k + m.length ≤ L → maskBut L m k = true
  | [], _, _ => rfl
  | true :: m, k, h => by
    simp only [List.length_cons] at h
    simp only [maskBut, Bool.and_eq_true, decide_eq_true_eq]
    exact ⟨by omega, maskBut_all m (k + 1) (by omega)⟩
  | false :: m, k, h => by
    simp only [List.length_cons] at h
    simp only [maskBut]
    exact maskBut_all m (k + 1) (by omega)
theorem wpCalm_mono {Q1 Q2 : Act → Prop} (h : ∀ a, Q1 a → Q2 a) : ∀ (l : List Oper) (a : Act), wpCalm P ops w0 Q1 l a → wpCalm P ops w0 Q2 l a
  | [], _, hh => h _ hh
  | o :: rest, a, hh => by
    unfold wpCalm at hh ⊢
    split
    · rename_i hw
      rw [if_pos hw] at hh
      obtain ⟨v, h1, h2⟩ := hh
      exact ⟨v, h1, wpCalm_mono h rest _ h2⟩
    · rename_i hw
      rw [if_neg hw] at hh
      exact wpCalm_mono h rest _ hh
theorem wpAny_calm {n : Nat} {listed : Array Bool} {a : Act} {w : World} {l : List Oper} (hc : Closed md l.toArray listed) (hs : Region.noSelect l.toArray = true) (hQ : ∀ (c : List PanicEntry) (a : Act) (d : Option Tmp) (v : Value) (w : World), Q (.panic c) (a.put d v) w → Q (.panic c) a w) (m : List Bool) (hlen : m.length ≤ l.length) (hn : countB m = n) (hB : lexMask md l.toArray m 0 listed = true) (hr : Region.ready md l.toArray (markOps m 0 listed) = [])
    (h : ∀ X00 : Extra, wpQuiet P l.toArray (fun w' => ∃ X : Extra, w' = w.patch ⟨X00.blocks ++ X.blocks, X.drawn⟩) (fun a' => ∀ X, Q .normal a' (w.patch X)) (pickOps m l) a) : wpAny P md l.toArray Q n listed a w := by
  subst hn
  refine wpAny_of_M (w0 := w) (L := l.toArray.size) _ _ _ _ ?_
  obtain ⟨X, hX⟩ := Ext.refl w
  have h2 : wpCalm P l.toArray w (fun a' => ∀ X, wpAnyM P md l.toArray Q w l.toArray.size 0 (markOps m 0 listed) a' (w.patch X)) (pickOps m l) a :=
    wpCalm_mono (fun a' h3 X => wpAnyM_done hr (fun Y => by
      obtain ⟨Z, hZ⟩ := (show Ext w ((w.patch X).patch Y) from Ext.trans ⟨X, rfl⟩ ⟨Y, rfl⟩)
      rw [hZ]
      exact h3 Z) 0) _ _ (wpCalm_of_quiet _ _ h)
  have h4 := wpAnyM_lex (md := md) (w0 := w) (L := l.toArray.size) (by simp [Region.lastB]) hs hQ 0 m l 0 listed a hc (by simp) hlen hB (maskBut_all m 0 (by simpa using hlen)) h2 X
  rw [← hX] at h4
  simpa using h4
theorem wp_region_split {id : Nat} {a : Act} {w : World} {l : List Oper} (m : List Bool) (L : Nat) (o : Oper) (m2 : List Bool) (hm : P.follows .mixedOrders = true) (hs : Region.noSelect l.toArray = true) (hLast : Region.lastE .any l.toArray [] L = true) (hQ : ∀ (c : List PanicEntry) (a : Act) (d : Option Tmp) (v : Value) (w : World), Q (.panic c) (a.put d v) w → Q (.panic c) a w)
    (hlen : m.length ≤ l.length) (hlen2 : m2.length ≤ l.length) (hn : countB m2 + 1 + countB m = l.length) (hM : maskBut L m 0 = true) (hB : lexMask .any l.toArray m 0 (Array.replicate l.length false) = true)
    (hr : Region.ready .any l.toArray (markOps m 0 (Array.replicate l.length false)) = [L]) (ho : l[L]? = some o) (hg : o.guard = none)
    (hB2 : lexMask .any l.toArray m2 0 ((markOps m 0 (Array.replicate l.length false)).setIfInBounds L true) = true) (hr2 : Region.ready .any l.toArray (markOps m2 0 ((markOps m 0 (Array.replicate l.length false)).setIfInBounds L true)) = [])
    (h : ∀ X00 : Extra, wpQuiet P l.toArray (fun w' => ∃ X : Extra, w' = w.patch ⟨X00.blocks ++ X.blocks, X.drawn⟩) (fun a' => ∀ X, ∀ K : Act → World → Prop, ∀ Q' : Exit → Act → World → Prop,
      (∀ a2 w2, (∀ X02 : Extra, wpQuiet P l.toArray (fun w' => ∃ X : Extra, w' = w2.patch ⟨X02.blocks ++ X.blocks, X.drawn⟩) (fun a3 => ∀ Y, Q .normal a3 (w2.patch Y)) (pickOps m2 l) a2) → K a2 w2) → o.wp P a' (w.patch X) K Q') (pickOps m l) a) : (Code.region id l.toArray true).wp P Q a w := by
  have hcl := closed_lex (md := .any) (ops := l.toArray) m 0 _ (Closed.start l.length (by simp)) hB
  have hcl2 := hcl.set (i := L) (by rw [hr]; exact List.mem_singleton.2 rfl)
  obtain ⟨X, hX⟩ := Ext.drew (Ext.refl w)
  have h2 : wpCalm P l.toArray w (fun a' => ∀ X, wpAnyM P .any l.toArray Q w L (countB m2 + 1) (markOps m 0 (Array.replicate l.length false)) a' (w.patch X)) (pickOps m l) a := by
    refine wpCalm_mono (fun a' h3 X => ?_) _ _ (wpCalm_of_quiet _ _ h)
    rintro w1 ⟨Y, rfl⟩
    refine ⟨fun h0 => (by rw [hr] at h0; cases h0), fun j hj => ?_⟩
    rw [hr] at hj
    simp only [List.mem_singleton] at hj
    subst hj
    refine ⟨fun h0 => by omega, fun _ => ?_⟩
    obtain ⟨Z, hZ⟩ := (show Ext w ((w.patch X).patch Y) from Ext.trans ⟨X, rfl⟩ ⟨Y, rfl⟩)
    rw [hZ]
    have ho' : l.toArray[j]? = some o := by simpa using ho
    unfold wpOp
    simp only [ho', Region.wanted, hg, if_true]
    exact .inl (h3 Z _ Q fun a2 w2 h4 => wpAny_calm hcl2 hs hQ m2 hlen2 rfl hB2 hr2 h4)
  have h5 := wpAnyM_lexE (md := .any) hLast hs hQ (countB m2 + 1) m l 0 (Array.replicate l.length false) a (Closed.start _ (by simp)) (fun i hi => by simp at hi) (by simp) hlen hB hM h2 X
  rw [← hX] at h5
  refine wp_region_any hm ?_
  have h6 := wpAny_of_M (w0 := w) (L := L) _ _ _ _ h5
  simpa [hn] using h6
end
end Go

