/-
  CoreMade: the walk.
-/
import Derived.Test.YthebmcbpmboblaaCore2
import Derived.Test.YthebmcbpmboblaaRefCore
import Derived.Test.YthebmcbpmboblaaRefSmall
import Derived.Test.YthebmcbpmboblaaPlan1
import Derived.Test.YthebmcbpmboblaaBits
namespace Go.Proofs.Ythebmcbpmboblaa
open Go Go.RowKit
set_option linter.unusedVariables false
set_option linter.unnecessarySimpa false
set_option linter.unusedSimpArgs false
set_option maxHeartbeats 4000000
theorem sameW_self (x : Nat × Nat) : sameW x x = true := by simp [sameW]
theorem same_sig {c d : Cnf} (h : c.Same d) : c.sig = d.sig := by
  unfold Cnf.sig
  rw [h.frags, h.spine, h.globals, h.threads, h.locals, h.cache, h.stack, h.low]
  exact congrArg (Prod.mk _) h.shapes
set_option maxRecDepth 100000 in
theorem cmade_any (c : Cnf) (w : World) (hc : c.Ok w) : Calls Try.prog 3 #[c.val] w (Gives (.bool true) w) := by
  have HF := Lib.hid (fun w => first22_any w)
  have HFW := Lib.hid (fun w' (he : Ext w w') => few_any c w' (hc.ext he))
  have HC := Lib.hid hc
  unfold Cnf.val at HFW ⊢
  obtain ⟨own0, m0, b0⟩ : ∃ own0, Mod (fun _ => False) ⟨fun _ => 0, w⟩ ⟨own0, w.alloc (.cells #[.int .i64 c.frags, .int .i64 c.spine, .int .i64 c.globals, .int .i64 c.threads, .int .i64 c.locals, .int .i64 c.cache, .int .i64 c.stack, .int .i64 c.low, .slice c.A c.shapes.length c.cap] 24)⟩ ∧ Blk ⟨own0, w.alloc (.cells #[.int .i64 c.frags, .int .i64 c.spine, .int .i64 c.globals, .int .i64 c.threads, .int .i64 c.locals, .int .i64 c.cache, .int .i64 c.stack, .int .i64 c.low, .slice c.A c.shapes.length c.cap] 24)⟩ 9 w.heap.size 24 [.int .i64 c.frags, .int .i64 c.spine, .int .i64 c.globals, .int .i64 c.threads, .int .i64 c.locals, .int .i64 c.cache, .int .i64 c.stack, .int .i64 c.low, .slice c.A c.shapes.length c.cap] := ⟨_, Mod.ext (g := ⟨fun _ => 0, w⟩) (by (repeat (first | (with_reducible assumption) | (with_reducible exact Ext.refl _) | (with_reducible exact Ext.more _ _ _ _) | apply Ext.alloc | refine Ext.setCell ?_ (by first | exact Nat.le_refl _ | exact Nat.le_add_right _ _ | assumption) _ | apply Ext.patch | apply Ext.drew | apply Ext.drewN))) 9, Blk.new ⟨fun _ => 0, w⟩ 9 24 [.int .i64 c.frags, .int .i64 c.spine, .int .i64 c.globals, .int .i64 c.threads, .int .i64 c.locals, .int .i64 c.cache, .int .i64 c.stack, .int .i64 c.low, .slice c.A c.shapes.length c.cap]⟩
  have M0 := Lib.hid m0
  have B0 := Lib.hid b0
  clear hc m0 b0
  go_enter Try.func3, Try.ntmps3
  go_wp2_with fail
  refine (HF.out _).mono ?_
  rintro e w1 ⟨rfl, hX⟩
  obtain ⟨own1, m1⟩ := Mod.ofExt (show Ext _ w1 from hX) own0
  have M1 := Lib.hid (M0.out.trans m1)
  have B1 := Lib.hid (B0.out.keep m1 id)
  clear m1 hX
  have a0 := B1.out.cell (i := 0) rfl
  have a1 := B1.out.cell (i := 1) rfl
  have a2 := B1.out.cell (i := 2) rfl
  have a3 := B1.out.cell (i := 3) rfl
  have a4 := B1.out.cell (i := 4) rfl
  have a5 := B1.out.cell (i := 5) rfl
  have a6 := B1.out.cell (i := 6) rfl
  have a7 := B1.out.cell (i := 7) rfl
  have a8 := B1.out.cell (i := 8) rfl
  have al := B1.out.lt
  (try simp only [GW.to] at a0 a1 a2 a3 a4 a5 a6 a7 a8 al)
  go_wp2_with fail
  refine (HFW.out _ M1.out.toExt).mono ?_
  rintro e w2 ⟨rfl, hX⟩
  obtain ⟨own2, m2⟩ := Mod.ofExt (show Ext w1 w2 from hX) own1
  have M2 := Lib.hid (M1.out.trans m2)
  have B2 := Lib.hid (B1.out.keep m2 id)
  clear m2 hX a0 a1 a2 a3 a4 a5 a6 a7 a8 al
  have a0 := B2.out.cell (i := 0) rfl
  have a1 := B2.out.cell (i := 1) rfl
  have a2 := B2.out.cell (i := 2) rfl
  have a3 := B2.out.cell (i := 3) rfl
  have a4 := B2.out.cell (i := 4) rfl
  have a5 := B2.out.cell (i := 5) rfl
  have a6 := B2.out.cell (i := 6) rfl
  have a7 := B2.out.cell (i := 7) rfl
  have a8 := B2.out.cell (i := 8) rfl
  have al := B2.out.lt
  (try simp only [GW.to] at a0 a1 a2 a3 a4 a5 a6 a7 a8 al)
  cases hf : Few c
  case false =>
    clear hf
    go_wp2_with fail
    refine (HF.out _).mono ?_
    rintro e w9 ⟨rfl, hX⟩
    have E9 := Lib.hid (show Ext _ w9 from hX)
    clear hX
    go_wp2_with fail
    go_ret
    exact Gives.bool rfl (M2.out.toExt.trans E9.out)
  case true =>
    clear hf HFW
    have HNW := Lib.hid (core_new c 100 ⟨fun k => if k = w.heap.size then 9 else 0, w2⟩ (HC.out.ext M2.out.toExt) (by omega) (fun k _ => by simp only; split <;> omega))
    have HRN := Lib.hid (fun w' (he : Ext w w') => rcore_new c w' (HC.out.ext he))
    unfold Cnf.val at HNW HRN
    go_wp2_with fail
    refine HNW.out.mono ?_
    rintro e w3 hh
    unfold CoreMade at hh
    by_cases hck : c.check = 0
    case neg =>
      rw [if_neg hck] at hh
      obtain ⟨rfl, hX⟩ := hh
      obtain ⟨own3, m3⟩ := Mod.ofExt (show Ext w2 w3 from hX) own2
      have M3 := Lib.hid (M2.out.trans m3)
      have B3 := Lib.hid (B2.out.keep m3 id)
      clear m3 hX HNW a0 a1 a2 a3 a4 a5 a6 a7 a8 al
      have a0 := B3.out.cell (i := 0) rfl
      have a1 := B3.out.cell (i := 1) rfl
      have a2 := B3.out.cell (i := 2) rfl
      have a3 := B3.out.cell (i := 3) rfl
      have a4 := B3.out.cell (i := 4) rfl
      have a5 := B3.out.cell (i := 5) rfl
      have a6 := B3.out.cell (i := 6) rfl
      have a7 := B3.out.cell (i := 7) rfl
      have a8 := B3.out.cell (i := 8) rfl
      have al := B3.out.lt
      (try simp only [GW.to] at a0 a1 a2 a3 a4 a5 a6 a7 a8 al)
      go_wp2_with fail
      refine (HRN.out _ M3.out.toExt).mono ?_
      rintro e w4 hh
      unfold RCoreMade at hh
      rw [if_neg hck] at hh
      obtain ⟨rfl, hX⟩ := hh
      obtain ⟨own4, m4⟩ := Mod.ofExt (show Ext w3 w4 from hX) own3
      have M4 := Lib.hid (M3.out.trans m4)
      clear m4 hX hck a0 a1 a2 a3 a4 a5 a6 a7 a8 al
      generalize c.check = ck at *
      go_wp2_with fail
      refine (HF.out _).mono ?_
      rintro e w9 ⟨rfl, hX⟩
      have E9 := Lib.hid (show Ext _ w9 from hX)
      clear hX
      go_wp2_with fail
      go_ret
      exact Gives.bool rfl (M4.out.toExt.trans E9.out)
    case pos =>
      rw [if_pos hck] at hh
      obtain ⟨own3, b, rfl, m3, h3⟩ := hh
      have B3 := Lib.hid (Blk.keep (t := 9) (g := ⟨fun k => if k = w.heap.size then 9 else 0, w2⟩) ⟨B2.out.row, by simp⟩ m3 id)
      have E3 := Lib.hid (show Ext w w3 from M2.out.toExt.trans m3.toExt)
      obtain ⟨bm, bs, bt, bp, bsp, bh, cm, h3⟩ := h3
      have H3 := Lib.hid h3
      clear m3 h3 HNW a0 a1 a2 a3 a4 a5 a6 a7 a8 al M0 B0 M1 B1 M2 B2
      obtain ⟨⟨r0, r1⟩, ⟨r2, r3⟩, ⟨r4, r5⟩, ⟨r6, r7⟩, -, ⟨r8, r9⟩, ⟨r10, r11⟩, -⟩ := Cnf.ranged (Cnf.check_zero hck).1
      have HCKZ := Lib.hid hck
      have hwd : cWords c = c.frags * 8 + c.spine + c.spine + c.globals := by unfold cWords; rw [if_pos hck]
      obtain ⟨N, hN⟩ := Int.eq_ofNat_of_zero_le (show 0 ≤ cWords c by omega)
      have HNI := Lib.hid (show (N : Int) ≤ 1048576 by omega)
      have HN := Lib.hid (show (cWords c).toNat = N by omega)
      have HLN := Lib.hid (show (memLaid c c.globals.toNat).l.length = N by rw [memLaid_len]; omega)
      clear hck hwd hN
      have a0 := B3.out.cell (i := 0) rfl
      have a1 := B3.out.cell (i := 1) rfl
      have a2 := B3.out.cell (i := 2) rfl
      have a3 := B3.out.cell (i := 3) rfl
      have a4 := B3.out.cell (i := 4) rfl
      have a5 := B3.out.cell (i := 5) rfl
      have a6 := B3.out.cell (i := 6) rfl
      have a7 := B3.out.cell (i := 7) rfl
      have a8 := B3.out.cell (i := 8) rfl
      have al := B3.out.lt
      (try simp only [GW.to] at a0 a1 a2 a3 a4 a5 a6 a7 a8 al)
      go_wp2_with fail
      refine (HRN.out _ E3.out).mono ?_
      rintro e w4 hh
      unfold RCoreMade at hh
      rw [if_pos HCKZ.out] at hh
      obtain ⟨b', bm', A', cap', rfl, hX, hb', hbm', hx0, hx1, hx2⟩ := hh
      rw [HN.out] at hx1
      obtain ⟨own4, m4⟩ := Mod.ofExt (show Ext w3 w4 from hX) own3
      have E4 := Lib.hid (E3.out.trans hX)
      have B4 := Lib.hid (B3.out.keep m4 id)
      have H4 := Lib.hid (H3.out.keep m4 (fun x hx => hx.elim))
      have HX := Lib.hid (And.intro hb' (And.intro hbm' (And.intro hx0 (And.intro hx1 hx2))))
      clear m4 hX hb' hbm' hx0 hx1 hx2 a0 a1 a2 a3 a4 a5 a6 a7 a8 al B3 H3 E3 HRN
      have a0 := B4.out.cell (i := 0) rfl
      have a1 := B4.out.cell (i := 1) rfl
      have a2 := B4.out.cell (i := 2) rfl
      have a3 := B4.out.cell (i := 3) rfl
      have a4 := B4.out.cell (i := 4) rfl
      have a5 := B4.out.cell (i := 5) rfl
      have a6 := B4.out.cell (i := 6) rfl
      have a7 := B4.out.cell (i := 7) rfl
      have a8 := B4.out.cell (i := 8) rfl
      have al := B4.out.lt
      (try simp only [GW.to] at a0 a1 a2 a3 a4 a5 a6 a7 a8 al)
      have y0 := H4.out.blk.cell (i := 0) rfl
      have y1 := H4.out.blk.cell (i := 1) rfl
      have y2 := H4.out.blk.cell (i := 2) rfl
      have y3 := H4.out.blk.cell (i := 3) rfl
      have y4 := H4.out.blk.cell (i := 4) rfl
      have y5 := H4.out.blk.cell (i := 5) rfl
      have y6 := H4.out.blk.cell (i := 6) rfl
      have y7 := H4.out.blk.cell (i := 7) rfl
      have y8 := H4.out.blk.cell (i := 8) rfl
      have y9 := H4.out.blk.cell (i := 9) rfl
      have y10 := H4.out.blk.cell (i := 10) rfl
      have y11 := H4.out.blk.cell (i := 11) rfl
      have y12 := H4.out.blk.cell (i := 12) rfl
      have yl := H4.out.blk.lt
      (try simp only [GW.to] at y0 y1 y2 y3 y4 y5 y6 y7 y8 y9 y10 y11 y12 yl)
      have s0 := H4.out.sh.cell (i := 0) rfl
      have s1 := H4.out.sh.cell (i := 1) rfl
      have s2 := H4.out.sh.cell (i := 2) rfl
      have sl := H4.out.sh.lt
      (try simp only [GW.to] at s0 s1 s2 sl)
      have HTB := Lib.hid (fun w => shade_table bt w)
      have HSC := Lib.hid (fun X => (show Calls Try.prog 19 #[cm.val, c.val] ((⟨own4, w4⟩ : GW).pt X).w _ from same_any cm c ((⟨own4, w4⟩ : GW).pt X).w ((H4.out.cnf.keep (Mod.pt (Mod.refl (fun _ => False) _) X) id).ok) (HC.out.ext (E4.out.trans ⟨X, rfl⟩)) (same_sig H4.out.same)))
      have HCO := Lib.hid (fun X => (show Calls Try.prog 20 #[.pointer (some ⟨b, 0, none⟩)] ((⟨own4, w4⟩ : GW).pt X).w (Gives (.int .i64 0) _) from by
        have hm : (CoreS.fresh c).mem.count = 0 := memLaid_count c _
        have := core_count ((⟨own4, w4⟩ : GW).pt X) 100 b (CoreS.fresh c) ⟨_, _, _, _, _, _, _, H4.out.keep (Mod.pt (Mod.refl (fun _ => False) _) X) (fun x hx => hx.elim)⟩ (by rw [hm]; decide) ⟨show (0 : Int) ≤ 0 by decide, show (0 : Int) ≤ 1099511627776 by decide⟩ ⟨show (0 : Int) ≤ 0 by decide, show (0 : Int) ≤ 1099511627776 by decide⟩ ⟨show (0 : Int) ≤ 0 by decide, show (0 : Int) ≤ 1099511627776 by decide⟩
        rw [show CoreS.count (CoreS.fresh c) = 0 by unfold CoreS.count; rw [hm]; rfl] at this
        exact this))
      unfold Cnf.val at HSC
      go_wp2_with fail
      refine wp_region_mixed [true, true, true, true, true, true, true, true, true, true, true, true, true, true, true, true, true, true, true, true, true, true, true, true, true, true, true, true, true, true, true, true, true, true, true, true, true, true, true, true, true, true, true, true, true, true, true, true, true, true, true] 0 51 (by kernel_rfl) (by kernel_rfl) (by kernel_rfl) ?_ (by decide) (by decide) (by decide) (by kernel_rfl) ?_
      · intro c a d v w h; cases d <;> exact h
      intro X00
      simp only [pickOps]
      repeat (go_big_quiet_step (first | (go_at_call 18; exact Calls.added (HTB.out _)) | (go_at_call 19; exact Calls.added (HSC.out _)) | (go_at_call 20; exact Calls.added (HCO.out _))))
      refine wpQuiet_nil (fun X0 => ?_)
      clear X00
      refine wpAnyM_done (by kernel_rfl) (fun X0' => ?_) _
      go_wp2_with fail
      generalize hW : World.patch (World.patch w4 _) _ = w5
      have hX : Ext w4 w5 := by rw [← hW]; exact Ext.trans ⟨_, rfl⟩ ⟨_, rfl⟩
      clear hW
      obtain ⟨own5, m5⟩ := Mod.ofExt hX own4
      have E5 := Lib.hid (E4.out.trans hX)
      have B5 := Lib.hid (B4.out.keep m5 id)
      have H5 := Lib.hid (H4.out.keep m5 (fun x hx => hx.elim))
      have HX5 := Lib.hid (And.intro (Nat.lt_of_lt_of_le HX.out.1 hX.size) (And.intro (Nat.lt_of_lt_of_le HX.out.2.1 hX.size) (And.intro ((hX.cell HX.out.1).trans HX.out.2.2.1) (And.intro ((hX.cell HX.out.2.1).trans HX.out.2.2.2.1) (HX.out.2.2.2.2.ext hX)))))
      clear hX m5 HX HSC HCO a0 a1 a2 a3 a4 a5 a6 a7 a8 al y0 y1 y2 y3 y4 y5 y6 y7 y8 y9 y10 y11 y12 yl s0 s1 s2 sl B4 H4 E4
      have y0 := H5.out.blk.cell (i := 0) rfl
      have y1 := H5.out.blk.cell (i := 1) rfl
      have y2 := H5.out.blk.cell (i := 2) rfl
      have y3 := H5.out.blk.cell (i := 3) rfl
      have y4 := H5.out.blk.cell (i := 4) rfl
      have y5 := H5.out.blk.cell (i := 5) rfl
      have y6 := H5.out.blk.cell (i := 6) rfl
      have y7 := H5.out.blk.cell (i := 7) rfl
      have y8 := H5.out.blk.cell (i := 8) rfl
      have y9 := H5.out.blk.cell (i := 9) rfl
      have y10 := H5.out.blk.cell (i := 10) rfl
      have y11 := H5.out.blk.cell (i := 11) rfl
      have y12 := H5.out.blk.cell (i := 12) rfl
      have yl := H5.out.blk.lt
      (try simp only [GW.to] at y0 y1 y2 y3 y4 y5 y6 y7 y8 y9 y10 y11 y12 yl)
      obtain ⟨x0, x1, x2, x3, -⟩ := HX5.out
      have HL := Lib.hid (fun X => (show Calls Try.prog 21 #[.pointer (some ⟨bm, 0, none⟩)] ((⟨own5, w5⟩ : GW).pt X).w (Gives (.int .i64 N) _) from by
        have := same_gives (mem_len ((⟨own5, w5⟩ : GW).pt X) (100 + 62) bm _ (H5.out.mem.pt X))
        rw [show (CoreS.fresh c).mem.l.length = N from HLN.out] at this
        exact this))
      go_wp2_with fail
      refine wp_region_mixed [true, true, true, true, true, true, true, true, true, true, true, true, true, true] 0 14 (by kernel_rfl) (by kernel_rfl) (by kernel_rfl) ?_ (by decide) (by decide) (by decide) (by kernel_rfl) ?_
      · intro c a d v w h; cases d <;> exact h
      intro X00
      simp only [pickOps]
      repeat (go_big_quiet_step ((go_at_call 21; exact Calls.added (HL.out _))))
      refine wpQuiet_nil (fun X0 => ?_)
      clear X00
      refine wpAnyM_done (by kernel_rfl) (fun X0' => ?_) _
      go_wp2_with fail
      have E6 := Lib.hid (show Ext w5 ((w5.patch X0).patch X0') from Ext.trans ⟨_, rfl⟩ ⟨_, rfl⟩)
      clear HL y0 y1 y2 y3 y4 y5 y6 y7 y8 y9 y10 y11 y12 yl x0 x1 x2 x3
      go_loopw [7] (fun i wr => ∃ k : Nat, k ≤ N ∧ i = .int .i64 k ∧ Hid (Ext w5 wr)) (fun i _ => N - (intOf i).toNat)
      case atStart => exact ⟨0, Nat.zero_le _, rfl, by first | exact E6 | exact Lib.hid (by (repeat (first | (with_reducible assumption) | (with_reducible exact Ext.refl _) | (with_reducible exact Ext.more _ _ _ _) | (with_reducible apply Ext.alloc) | (with_reducible apply Ext.patch) | (with_reducible apply Ext.drew) | (with_reducible apply Ext.drewN) | (with_reducible refine Ext.setCell ?_ (by first | assumption | exact Nat.le_refl _ | exact Nat.le_add_right _ _) _))))⟩
      case round =>
        obtain ⟨k, hk, rfl, HE⟩ := hrel
        obtain ⟨w6, rfl⟩ : ∃ w6 : World, w6 = wr := ⟨_, rfl⟩
        clear E6
        obtain ⟨own6, m6⟩ := Mod.ofExt HE.out own5
        have B6 := Lib.hid (B5.out.keep m6 id)
        have H6 := Lib.hid (H5.out.keep m6 (fun x hx => hx.elim))
        have x0 := Nat.lt_of_lt_of_le HX5.out.1 HE.out.size
        have x1 := Nat.lt_of_lt_of_le HX5.out.2.1 HE.out.size
        have x2 := (HE.out.cell HX5.out.1).trans HX5.out.2.2.1
        have x3 := (HE.out.cell HX5.out.2.1).trans HX5.out.2.2.2.1
        have HX6 := Lib.hid (HX5.out.2.2.2.2.ext HE.out)
        clear m6
        have y0 := H6.out.blk.cell (i := 0) rfl
        have y1 := H6.out.blk.cell (i := 1) rfl
        have y2 := H6.out.blk.cell (i := 2) rfl
        have y3 := H6.out.blk.cell (i := 3) rfl
        have y4 := H6.out.blk.cell (i := 4) rfl
        have y5 := H6.out.blk.cell (i := 5) rfl
        have y6 := H6.out.blk.cell (i := 6) rfl
        have y7 := H6.out.blk.cell (i := 7) rfl
        have y8 := H6.out.blk.cell (i := 8) rfl
        have y9 := H6.out.blk.cell (i := 9) rfl
        have y10 := H6.out.blk.cell (i := 10) rfl
        have y11 := H6.out.blk.cell (i := 11) rfl
        have y12 := H6.out.blk.cell (i := 12) rfl
        have yl := H6.out.blk.lt
        (try simp only [GW.to] at y0 y1 y2 y3 y4 y5 y6 y7 y8 y9 y10 y11 y12 yl)
        by_cases hlt : k < N
        · have hkl : k < (memLaid c c.globals.toNat).l.length := by rw [HLN.out]; exact hlt
          have hg := List.getElem?_eq_getElem hkl
          have hpk := MemS.peek_in hg
          obtain ⟨z, o, rfl, hz, hcz⟩ := HX6.out k (cx (memLaid c c.globals.toNat).l[k]) (by rw [List.getElem?_map, hg]; rfl)
          generalize (memLaid c c.globals.toNat).l[k] = pq at *
          obtain ⟨p, q⟩ := pq
          simp only [cx] at hcz
          have HP := Lib.hid (fun X => (show Calls Try.prog 23 #[.pointer (some ⟨bm, 0, none⟩), .int .i64 k] ((⟨own6, w6⟩ : GW).pt X).w (Gives (.complex .f64 p q) _) from by
            have := same_gives (mem_peek ((⟨own6, w6⟩ : GW).pt X) (100 + 62) bm k _ (H6.out.mem.pt X))
            rw [show (CoreS.fresh c).mem.peek k = (p, q) from hpk] at this
            exact this))
          have HWD := Lib.hid (fun w => (show Calls Try.prog 22 #[.complex .f64 p q, .complex .f64 p q] w (Gives (.bool true) w) from by
            have := same_gives (word_any (p, q) (p, q) w)
            rw [sameW_self] at this
            exact this))
          have hk1 : (k : Int) < 1048576 := by have := HNI.out; omega
          clear hg hpk hkl
          go_wp2_with fail
          refine wp_region_mixed [true, true, true, true, true, true, true, true, true, true, true, true, true, true, true, true, true, true] 0 18 (by kernel_rfl) (by kernel_rfl) (by kernel_rfl) ?_ (by decide) (by decide) (by decide) (by kernel_rfl) ?_
          · intro c a d v w h; cases d <;> exact h
          intro X00
          simp only [pickOps]
          repeat (go_big_quiet_step (first | (go_at_call 23; exact Calls.added (HP.out _)) | (go_at_call 22; exact Calls.added (HWD.out _))))
          refine wpQuiet_nil (fun X0 => ?_)
          clear X00
          refine wpAnyM_done (by kernel_rfl) (fun X0' => ?_) _
          go_wp2_with fail
          go_roundw
          case rel => exact ⟨k + 1, by omega, by go_num, Lib.hid (HE.out.trans (by (repeat (first | (with_reducible assumption) | (with_reducible exact Ext.refl _) | (with_reducible exact Ext.more _ _ _ _) | (with_reducible apply Ext.alloc) | (with_reducible apply Ext.patch) | (with_reducible apply Ext.drew) | (with_reducible apply Ext.drewN) | (with_reducible refine Ext.setCell ?_ (by first | assumption | exact Nat.le_refl _ | exact Nat.le_add_right _ _) _)))))⟩
          case measure => simp [intOf]; omega
        · have E7 := Lib.hid (E5.out.trans HE.out)
          have s0 := H6.out.sh.cell (i := 0) rfl
          have s1 := H6.out.sh.cell (i := 1) rfl
          have s2 := H6.out.sh.cell (i := 2) rfl
          have sl := H6.out.sh.lt
          (try simp only [GW.to] at s0 s1 s2 sl)
          have hkN : k = N := by omega
          clear hlt
          subst hkN
          go_wp2_with fail
          refine (HTB.out _).mono ?_
          rintro e w7 ⟨rfl, hX⟩
          obtain ⟨own7, m7⟩ := Mod.ofExt (show Ext w6 w7 from hX) own6
          have E8 := Lib.hid (E7.out.trans (show Ext w6 w7 from hX))
          have B7 := Lib.hid (B6.out.keep m7 id)
          have H7 := Lib.hid (H6.out.keep m7 (fun x hx => hx.elim))
          clear m7 hX y0 y1 y2 y3 y4 y5 y6 y7 y8 y9 y10 y11 y12 yl s0 s1 s2 sl x0 x1 x2 x3 HX6 B6 H6
          obtain ⟨qp, qk, ql, As, cs, cq, qs, hq⟩ := H7.out.sp
          have HCN := Lib.hid (show Calls Try.prog 24 #[.pointer (some ⟨bt, 0, none⟩)] w7 (Gives (.tuple #[.int .i64 c.frags, .int .i64 0, .int .i64 0]) w7) from by
            have := tab_counts ⟨own7, w7⟩ (100 + 50) bt _ hq.tab
            have e0 : TabS.cnt (TabS.fresh c.frags.toNat) 0 = c.frags.toNat := by simp [TabS.cnt, TabS.fresh, List.countP_replicate, One.zero]
            have e1 : TabS.cnt (TabS.fresh c.frags.toNat) 1 = 0 := by simp [TabS.cnt, TabS.fresh, List.countP_replicate, One.zero]
            have e2 : TabS.cnt (TabS.fresh c.frags.toNat) 2 = 0 := by simp [TabS.cnt, TabS.fresh, List.countP_replicate, One.zero]
            rw [show (CoreS.fresh c).sp.tab = TabS.fresh c.frags.toNat from rfl, e0, e1, e2, show ((c.frags.toNat : Nat) : Int) = c.frags by omega] at this
            exact this)
          clear hq
          go_wp2_with fail
          refine HCN.out.mono ?_
          rintro e w8 ⟨rfl, hX⟩
          obtain ⟨own8, m8⟩ := Mod.ofExt (show Ext w7 w8 from hX) own7
          have E9 := Lib.hid (E8.out.trans (show Ext w7 w8 from hX))
          have B8 := Lib.hid (B7.out.keep m8 id)
          have H8 := Lib.hid (H7.out.keep m8 (fun x hx => hx.elim))
          clear m8 hX HCN B7 H7
          obtain ⟨qp, qk, ql, As, cs, cq, qs, hq⟩ := H8.out.sp
          have Q8 := Lib.hid hq
          clear hq
          have a0 := B8.out.cell (i := 0) rfl
          have a1 := B8.out.cell (i := 1) rfl
          have a2 := B8.out.cell (i := 2) rfl
          have a3 := B8.out.cell (i := 3) rfl
          have a4 := B8.out.cell (i := 4) rfl
          have a5 := B8.out.cell (i := 5) rfl
          have a6 := B8.out.cell (i := 6) rfl
          have a7 := B8.out.cell (i := 7) rfl
          have a8 := B8.out.cell (i := 8) rfl
          have al := B8.out.lt
          (try simp only [GW.to] at a0 a1 a2 a3 a4 a5 a6 a7 a8 al)
          have y0 := H8.out.blk.cell (i := 0) rfl
          have y1 := H8.out.blk.cell (i := 1) rfl
          have y2 := H8.out.blk.cell (i := 2) rfl
          have y3 := H8.out.blk.cell (i := 3) rfl
          have y4 := H8.out.blk.cell (i := 4) rfl
          have y5 := H8.out.blk.cell (i := 5) rfl
          have y6 := H8.out.blk.cell (i := 6) rfl
          have y7 := H8.out.blk.cell (i := 7) rfl
          have y8 := H8.out.blk.cell (i := 8) rfl
          have y9 := H8.out.blk.cell (i := 9) rfl
          have y10 := H8.out.blk.cell (i := 10) rfl
          have y11 := H8.out.blk.cell (i := 11) rfl
          have y12 := H8.out.blk.cell (i := 12) rfl
          have yl := H8.out.blk.lt
          (try simp only [GW.to] at y0 y1 y2 y3 y4 y5 y6 y7 y8 y9 y10 y11 y12 yl)
          have z0 := Q8.out.blk.cell (i := 0) rfl
          have z1 := Q8.out.blk.cell (i := 1) rfl
          have z2 := Q8.out.blk.cell (i := 2) rfl
          have z3 := Q8.out.blk.cell (i := 3) rfl
          have z4 := Q8.out.blk.cell (i := 4) rfl
          have z5 := Q8.out.blk.cell (i := 5) rfl
          have z6 := Q8.out.blk.cell (i := 6) rfl
          have z7 := Q8.out.blk.cell (i := 7) rfl
          have z8 := Q8.out.blk.cell (i := 8) rfl
          have z9 := Q8.out.blk.cell (i := 9) rfl
          have z10 := Q8.out.blk.cell (i := 10) rfl
          have z11 := Q8.out.blk.cell (i := 11) rfl
          have z12 := Q8.out.blk.cell (i := 12) rfl
          have z13 := Q8.out.blk.cell (i := 13) rfl
          have z14 := Q8.out.blk.cell (i := 14) rfl
          have z15 := Q8.out.blk.cell (i := 15) rfl
          have zl := Q8.out.blk.lt
          (try simp only [GW.to] at z0 z1 z2 z3 z4 z5 z6 z7 z8 z9 z10 z11 z12 z13 z14 z15 zl)
          have HFR := Lib.hid (fun X => (show Calls Try.prog 25 #[shelves cq qp qk ql] ((⟨own8, w8⟩ : GW).pt X).w (Gives (.int .i64 c.frags) _) from by
            have := sh_free ((⟨own8, w8⟩ : GW).pt X) (100 + 1) cq qp qk ql _ (Q8.out.pool.keep (Mod.pt (Mod.refl (fun _ => False) _) X) id)
            rw [show (((CoreS.fresh c).sp.pool.free : Nat) : Int) = c.frags by
              show (((List.replicate c.frags.toNat true).countP id : Nat) : Int) = c.frags
              rw [List.countP_replicate]
              simp
              omega] at this
            exact this))
          have HST := Lib.hid (fun X => (show Calls Try.prog 26 #[.pointer (some ⟨bh, 0, none⟩), .int .i64 0] ((⟨own8, w8⟩ : GW).pt X).w (Gives (.int .i64 (-1)) _) from by
            have := same_gives (hand_status ((⟨own8, w8⟩ : GW).pt X) (100 + 63) bh 0 _ (H8.out.hand.keep (Mod.pt (Mod.refl (fun _ => False) _) X) id))
            rw [show (CoreS.fresh c).hand.own 0 = -1 by
              obtain ⟨n, hn⟩ : ∃ n, c.threads.toNat = n + 1 := ⟨c.threads.toNat - 1, by omega⟩
              unfold HandS.own CoreS.fresh
              simp only [hn]
              simp [inB, List.replicate_succ]] at this
            exact this))
          unfold shelves at HFR
          go_wp2_with fail
          refine wp_region_mixed [true, true, true, true, true, true, true, true, true, true, true, true, true, true, true, true, true, true, true, true, true, true, true, true, true, true, true, true, true, true, true, true, true, true, true, true, true] 0 37 (by kernel_rfl) (by kernel_rfl) (by kernel_rfl) ?_ (by decide) (by decide) (by decide) (by kernel_rfl) ?_
          · intro c a d v w h; cases d <;> exact h
          intro X00
          simp only [pickOps]
          repeat (go_big_quiet_step (first | (go_at_call 14; exact Calls.added (HF.out _)) | (go_at_call 25; exact Calls.added (HFR.out _)) | (go_at_call 26; exact Calls.added (HST.out _))))
          refine wpQuiet_nil (fun X0 => ?_)
          clear X00
          refine wpAnyM_done (by kernel_rfl) (fun X0' => ?_) _
          go_wp2_with fail
          go_ret
          exact Gives.bool rfl (E9.out.trans (by (repeat (first | (with_reducible assumption) | (with_reducible exact Ext.refl _) | (with_reducible exact Ext.more _ _ _ _) | (with_reducible apply Ext.alloc) | (with_reducible apply Ext.patch) | (with_reducible apply Ext.drew) | (with_reducible apply Ext.drewN) | (with_reducible refine Ext.setCell ?_ (by first | assumption | exact Nat.le_refl _ | exact Nat.le_add_right _ _) _)))))
end Go.Proofs.Ythebmcbpmboblaa
