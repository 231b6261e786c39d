/-
  CoreGlobals: the walk.
-/
import Derived.Test.YtlddahifhefjiaaCore2
import Derived.Test.YtlddahifhefjiaaGlobalsP
import Derived.Test.YtlddahifhefjiaaPlan1
import Derived.Test.YtlddahifhefjiaaBits
namespace Go.Proofs.Ytlddahifhefjiaa
open Go Go.RowKit
set_option linter.unusedVariables false
set_option linter.unnecessarySimpa false
set_option linter.unusedSimpArgs false
set_option maxHeartbeats 4000000
theorem sameW_refl (x : Nat × Nat) : sameW x x = true := by simp [sameW]
set_option maxRecDepth 100000 in
theorem globals_any (c : Cnf) (w : World) (hc : c.Ok w) : Calls Try.prog 8 #[c.val] w (Gives (.bool true) w) := by
  have HF := Lib.hid (fun w => first22_any w)
  have HFW := Lib.hid (fun w' (he : Ext w w') => few_any c w' (hc.ext he))
  have HCK := Lib.hid (fun w' (he : Ext w w') => check_any c w' (hc.ext he))
  have HC := Lib.hid hc
  unfold Cnf.val at HFW HCK ⊢
  obtain ⟨own0, m0, b0⟩ : ∃ own0, Mod (fun _ => False) ⟨fun _ => 0, w⟩ ⟨own0, w.alloc (.cells #[.int .i64 c.frags, .int .i64 c.spine, .int .i64 c.globals, .int .i64 c.threads, .int .i64 c.locals, .int .i64 c.cache, .int .i64 c.stack, .int .i64 c.low, .slice c.A c.shapes.length c.cap] 37)⟩ ∧ Blk ⟨own0, w.alloc (.cells #[.int .i64 c.frags, .int .i64 c.spine, .int .i64 c.globals, .int .i64 c.threads, .int .i64 c.locals, .int .i64 c.cache, .int .i64 c.stack, .int .i64 c.low, .slice c.A c.shapes.length c.cap] 37)⟩ 9 w.heap.size 37 [.int .i64 c.frags, .int .i64 c.spine, .int .i64 c.globals, .int .i64 c.threads, .int .i64 c.locals, .int .i64 c.cache, .int .i64 c.stack, .int .i64 c.low, .slice c.A c.shapes.length c.cap] := ⟨_, Mod.ext (g := ⟨fun _ => 0, w⟩) (by (repeat (first | (with_reducible assumption) | (with_reducible exact Ext.refl _) | (with_reducible exact Ext.more _ _ _ _) | apply Ext.alloc | refine Ext.setCell ?_ (by first | exact Nat.le_refl _ | exact Nat.le_add_right _ _ | assumption) _ | apply Ext.patch | apply Ext.drew | apply Ext.drewN))) 9, Blk.new ⟨fun _ => 0, w⟩ 9 37 [.int .i64 c.frags, .int .i64 c.spine, .int .i64 c.globals, .int .i64 c.threads, .int .i64 c.locals, .int .i64 c.cache, .int .i64 c.stack, .int .i64 c.low, .slice c.A c.shapes.length c.cap]⟩
  have M0 := Lib.hid m0
  have B0 := Lib.hid b0
  clear hc m0 b0
  go_enter Try.func8, Try.ntmps8
  go_wp2_with fail
  refine (HF.out _).mono ?_
  rintro e w1 ⟨rfl, hX⟩
  obtain ⟨own1, m1⟩ := Mod.ofExt (show Ext _ w1 from hX) own0
  have M1 := Lib.hid (M0.out.trans m1)
  have B1 := Lib.hid (B0.out.keep m1 id)
  clear m1 hX
  have a0 := B1.out.cell (i := 0) rfl
  have a1 := B1.out.cell (i := 1) rfl
  have a2 := B1.out.cell (i := 2) rfl
  have a3 := B1.out.cell (i := 3) rfl
  have a4 := B1.out.cell (i := 4) rfl
  have a5 := B1.out.cell (i := 5) rfl
  have a6 := B1.out.cell (i := 6) rfl
  have a7 := B1.out.cell (i := 7) rfl
  have a8 := B1.out.cell (i := 8) rfl
  have al := B1.out.lt
  (try simp only [GW.to] at a0 a1 a2 a3 a4 a5 a6 a7 a8 al)
  go_wp2_with fail
  refine (HFW.out _ M1.out.toExt).mono ?_
  rintro e w2 ⟨rfl, hX⟩
  obtain ⟨own2, m2⟩ := Mod.ofExt (show Ext w1 w2 from hX) own1
  have M2 := Lib.hid (M1.out.trans m2)
  have B2 := Lib.hid (B1.out.keep m2 id)
  clear m2 hX a0 a1 a2 a3 a4 a5 a6 a7 a8 al
  have a0 := B2.out.cell (i := 0) rfl
  have a1 := B2.out.cell (i := 1) rfl
  have a2 := B2.out.cell (i := 2) rfl
  have a3 := B2.out.cell (i := 3) rfl
  have a4 := B2.out.cell (i := 4) rfl
  have a5 := B2.out.cell (i := 5) rfl
  have a6 := B2.out.cell (i := 6) rfl
  have a7 := B2.out.cell (i := 7) rfl
  have a8 := B2.out.cell (i := 8) rfl
  have al := B2.out.lt
  (try simp only [GW.to] at a0 a1 a2 a3 a4 a5 a6 a7 a8 al)
  cases hf : Few c
  case false =>
    clear hf
    go_wp2_with fail
    refine (HF.out _).mono ?_
    rintro e w9 ⟨rfl, hX⟩
    have E9 := Lib.hid (show Ext _ w9 from hX)
    clear hX
    go_wp2_with fail
    go_ret
    exact Gives.bool rfl (M2.out.toExt.trans E9.out)
  case true =>
    clear hf
    go_wp2_with fail
    refine (HCK.out _ M2.out.toExt).mono ?_
    rintro e w3 ⟨rfl, hX⟩
    obtain ⟨own3, m3⟩ := Mod.ofExt (show Ext w2 w3 from hX) own2
    have M3 := Lib.hid (M2.out.trans m3)
    have B3 := Lib.hid (B2.out.keep m3 id)
    clear m3 hX a0 a1 a2 a3 a4 a5 a6 a7 a8 al
    have a0 := B3.out.cell (i := 0) rfl
    have a1 := B3.out.cell (i := 1) rfl
    have a2 := B3.out.cell (i := 2) rfl
    have a3 := B3.out.cell (i := 3) rfl
    have a4 := B3.out.cell (i := 4) rfl
    have a5 := B3.out.cell (i := 5) rfl
    have a6 := B3.out.cell (i := 6) rfl
    have a7 := B3.out.cell (i := 7) rfl
    have a8 := B3.out.cell (i := 8) rfl
    have al := B3.out.lt
    (try simp only [GW.to] at a0 a1 a2 a3 a4 a5 a6 a7 a8 al)
    by_cases hck : c.check = 0
    case neg =>
      have hk1 : (c.check != 0) = true := by simp [hck]
      clear hck
      go_wp2_with fail
      refine (HF.out _).mono ?_
      rintro e w9 ⟨rfl, hX⟩
      have E9 := Lib.hid (show Ext _ w9 from hX)
      clear hX
      go_wp2_with fail
      go_ret
      exact Gives.bool rfl (M3.out.toExt.trans E9.out)
    case pos =>
      have hk1 : (c.check != 0) = false := by simp [hck]
      obtain ⟨⟨r0, r1⟩, ⟨r2, r3⟩, ⟨r4, r5⟩, ⟨r6, r7⟩, -, ⟨r8, r9⟩, ⟨r10, r11⟩, -⟩ := Cnf.ranged (Cnf.check_zero hck).1
      have HLOW := Lib.hid (show c.low ≤ c.frags by
        have := (Cnf.check_zero hck).1
        simp [Cnf.rangedTo, Cnf.ranges, within] at this
        omega)
      have hwd : cWords c = c.frags * 8 + c.spine + c.spine + c.globals := by unfold cWords; rw [if_pos hck]
      have HWD := Lib.hid hwd
      obtain ⟨N, hN⟩ := Int.eq_ofNat_of_zero_le (show 0 ≤ cWords c by omega)
      have HN := Lib.hid hN
      have HPK := Lib.hid (fun j hj => memLaid_peek c hck j hj)
      have HLN := Lib.hid (show (memLaid c c.globals.toNat).l.length = N by rw [memLaid_len]; omega)
      have hN2 : (N : Int) = c.frags * 8 + c.spine + c.spine + c.globals := by omega
      have HCKZ := Lib.hid hck
      have HNW := Lib.hid (show Calls Try.prog 34 #[c.val] w3 (CoreMade c 100 ⟨fun k => if k = w.heap.size then 9 else 0, w3⟩) from core_new c 100 ⟨fun k => if k = w.heap.size then 9 else 0, w3⟩ (HC.out.ext M3.out.toExt) (by omega) (fun k _ => by simp only; split <;> omega))
      unfold Cnf.val at HNW
      clear hck hwd hN
      go_wp2_with fail
      refine HNW.out.mono ?_
      rintro e w4 hh
      unfold CoreMade at hh
      rw [if_pos HCKZ.out] at hh
      obtain ⟨own4, b, rfl, m4, h4⟩ := hh
      have B4 := Lib.hid (Blk.keep (t := 9) (g := ⟨fun k => if k = w.heap.size then 9 else 0, w3⟩) ⟨B3.out.row, by simp⟩ m4 id)
      have M4 := Lib.hid m4
      obtain ⟨bm, bs, bt, bp, bsp, bh, cm, h4⟩ := h4
      have H4 := Lib.hid h4
      clear m4 h4 HNW a0 a1 a2 a3 a4 a5 a6 a7 a8 al
      have HL := Lib.hid (show Calls Try.prog 38 #[.pointer (some ⟨bm, 0, none⟩)] w4 (fun e w' => e = .returned (.int .i64 N) ∧ w4 = w') from HLN.out ▸ mem_len ⟨own4, w4⟩ (100 + 62) bm _ H4.out.mem)
      have a0 := B4.out.cell (i := 0) rfl
      have a1 := B4.out.cell (i := 1) rfl
      have a2 := B4.out.cell (i := 2) rfl
      have a3 := B4.out.cell (i := 3) rfl
      have a4 := B4.out.cell (i := 4) rfl
      have a5 := B4.out.cell (i := 5) rfl
      have a6 := B4.out.cell (i := 6) rfl
      have a7 := B4.out.cell (i := 7) rfl
      have a8 := B4.out.cell (i := 8) rfl
      have al := B4.out.lt
      (try simp only [GW.to] at a0 a1 a2 a3 a4 a5 a6 a7 a8 al)
      have y0 := H4.out.blk.cell (i := 0) rfl
      have y1 := H4.out.blk.cell (i := 1) rfl
      have y2 := H4.out.blk.cell (i := 2) rfl
      have y3 := H4.out.blk.cell (i := 3) rfl
      have y4 := H4.out.blk.cell (i := 4) rfl
      have y5 := H4.out.blk.cell (i := 5) rfl
      have y6 := H4.out.blk.cell (i := 6) rfl
      have y7 := H4.out.blk.cell (i := 7) rfl
      have y8 := H4.out.blk.cell (i := 8) rfl
      have y9 := H4.out.blk.cell (i := 9) rfl
      have y10 := H4.out.blk.cell (i := 10) rfl
      have y11 := H4.out.blk.cell (i := 11) rfl
      have y12 := H4.out.blk.cell (i := 12) rfl
      have yl := H4.out.blk.lt
      (try simp only [GW.to] at y0 y1 y2 y3 y4 y5 y6 y7 y8 y9 y10 y11 y12 yl)
      go_wp2_with fail
      go_loopw [5] (fun i wr => ∃ k : Nat, k ≤ N ∧ i = .int .i64 k ∧ wr = w4) (fun i _ => N - (intOf i).toNat)
      case atStart => exact ⟨0, Nat.zero_le _, rfl, rfl⟩
      case round =>
        obtain ⟨k, hk, rfl, hwr⟩ := hrel
        subst hwr
        by_cases hlt : k < N
        · have HP0 := mem_peek ⟨own4, wr⟩ (100 + 62) bm k _ H4.out.mem
          rw [show (CoreS.fresh c).mem.peek k = (memLaid c c.globals.toNat).peek k from rfl, HPK.out k (by have := HN.out; omega)] at HP0
          by_cases hb : 8 * c.frags + 2 * c.spine ≤ (k : Int)
          · rw [if_pos (by omega)] at HP0
            have HP := Lib.hid HP0
            clear HP0
            go_wp2_with fail
            refine HL.out.mono ?_
            rintro e w' ⟨rfl, rfl⟩
            go_wp2_with fail
            refine HP.out.mono ?_
            rintro e w' ⟨rfl, rfl⟩
            go_wp2_with fail
            refine (word_any (0, 4607182418800017408) (0, 4607182418800017408) _).mono ?_
            rintro e w' ⟨rfl, rfl⟩
            rw [sameW_refl]
            go_wp2_with fail
            go_roundw
            case rel => exact ⟨k + 1, by omega, by go_num, trivial⟩
            case measure => simp [intOf]; omega
          · rw [if_neg (by omega)] at HP0
            have HP := Lib.hid HP0
            clear HP0
            go_wp2_with fail
            refine HL.out.mono ?_
            rintro e w' ⟨rfl, rfl⟩
            go_wp2_with fail
            refine HP.out.mono ?_
            rintro e w' ⟨rfl, rfl⟩
            go_wp2_with fail
            refine (word_any (0, 0) (0, 0) _).mono ?_
            rintro e w' ⟨rfl, rfl⟩
            rw [sameW_refl]
            go_wp2_with fail
            go_roundw
            case rel => exact ⟨k + 1, by omega, by go_num, trivial⟩
            case measure => simp [intOf]; omega
        · obtain rfl : k = N := by omega
          clear hlt hk
          go_wp2_with fail
          refine HL.out.mono ?_
          rintro e w' ⟨rfl, rfl⟩
          go_wp2_with fail
          have HLK := Lib.hid (show Calls Try.prog 43 #[.pointer (some ⟨bh, 0, none⟩)] wr (Does (.tuple #[.int .i64 0, .bool false]) ⟨own4, wr⟩ (fun x => x = 100 + 63) (fun g' => True)) from (hand_look ⟨own4, wr⟩ (100 + 63) bh _ H4.out.hand ⟨show (0 : Int) ≤ 0 by decide, show (0 : Int) ≤ 1099511627776 by decide⟩).mono fun e w' ⟨h1, o, h2, _⟩ => ⟨h1, o, h2, trivial⟩)
          refine HLK.out.mono ?_
          rintro e w5 ⟨rfl, own5, m5, -⟩
          have M5 := Lib.hid ((M4.out.mono (S := instC 100) (fun x hx => hx.elim)).trans (m5.mono (fun x (hx : x = 100 + 63) => (⟨by omega, by omega⟩ : instC 100 x))))
          have B5 := Lib.hid (B4.out.keep m5 (by decide))
          have K5 := Lib.hid (H4.out.blk.keep m5 (by decide))
          have X5 := Lib.hid (H4.out.mem.keep m5 (by decide))
          have S5 := Lib.hid (H4.out.sh.keep m5 (by decide))
          have P5 := Lib.hid (H4.out.pile.keep m5 (by decide))
          have Y5 := Lib.hid (H4.out.sp.keep m5 (fun x (hx : x = 100 + 63) => by omega))
          clear m5 HLK HL a0 a1 a2 a3 a4 a5 a6 a7 a8 al y0 y1 y2 y3 y4 y5 y6 y7 y8 y9 y10 y11 y12 yl
          have a0 := B5.out.cell (i := 0) rfl
          have a1 := B5.out.cell (i := 1) rfl
          have a2 := B5.out.cell (i := 2) rfl
          have a3 := B5.out.cell (i := 3) rfl
          have a4 := B5.out.cell (i := 4) rfl
          have a5 := B5.out.cell (i := 5) rfl
          have a6 := B5.out.cell (i := 6) rfl
          have a7 := B5.out.cell (i := 7) rfl
          have a8 := B5.out.cell (i := 8) rfl
          have al := B5.out.lt
          (try simp only [GW.to] at a0 a1 a2 a3 a4 a5 a6 a7 a8 al)
          have y0 := K5.out.cell (i := 0) rfl
          have y1 := K5.out.cell (i := 1) rfl
          have y2 := K5.out.cell (i := 2) rfl
          have y3 := K5.out.cell (i := 3) rfl
          have y4 := K5.out.cell (i := 4) rfl
          have y5 := K5.out.cell (i := 5) rfl
          have y6 := K5.out.cell (i := 6) rfl
          have y7 := K5.out.cell (i := 7) rfl
          have y8 := K5.out.cell (i := 8) rfl
          have y9 := K5.out.cell (i := 9) rfl
          have y10 := K5.out.cell (i := 10) rfl
          have y11 := K5.out.cell (i := 11) rfl
          have y12 := K5.out.cell (i := 12) rfl
          have yl := K5.out.lt
          (try simp only [GW.to] at y0 y1 y2 y3 y4 y5 y6 y7 y8 y9 y10 y11 y12 yl)
          obtain ⟨qp, qk, ql, As, cs, cq, qs, hq⟩ := Y5.out
          have Q5 := Lib.hid hq
          clear hq
          have z0 := Q5.out.blk.cell (i := 0) rfl
          have z1 := Q5.out.blk.cell (i := 1) rfl
          have z2 := Q5.out.blk.cell (i := 2) rfl
          have z3 := Q5.out.blk.cell (i := 3) rfl
          have z4 := Q5.out.blk.cell (i := 4) rfl
          have z5 := Q5.out.blk.cell (i := 5) rfl
          have z6 := Q5.out.blk.cell (i := 6) rfl
          have z7 := Q5.out.blk.cell (i := 7) rfl
          have z8 := Q5.out.blk.cell (i := 8) rfl
          have z9 := Q5.out.blk.cell (i := 9) rfl
          have z10 := Q5.out.blk.cell (i := 10) rfl
          have z11 := Q5.out.blk.cell (i := 11) rfl
          have z12 := Q5.out.blk.cell (i := 12) rfl
          have z13 := Q5.out.blk.cell (i := 13) rfl
          have z14 := Q5.out.blk.cell (i := 14) rfl
          have z15 := Q5.out.blk.cell (i := 15) rfl
          have zl := Q5.out.blk.lt
          (try simp only [GW.to] at z0 z1 z2 z3 z4 z5 z6 z7 z8 z9 z10 z11 z12 z13 z14 z15 zl)
          have HL := Lib.hid (fun X => (show Calls Try.prog 38 #[.pointer (some ⟨bm, 0, none⟩)] ((⟨own5, w5⟩ : GW).pt X).w (Gives (.int .i64 (8 * c.frags + 2 * c.spine + c.globals)) _) from by
            have := same_gives (mem_len ((⟨own5, w5⟩ : GW).pt X) (100 + 62) bm _ (X5.out.pt X))
            rw [show (CoreS.fresh c).mem.l.length = k from HLN.out, show ((k : Nat) : Int) = 8 * c.frags + 2 * c.spine + c.globals by omega] at this
            exact this))
          have HS := Lib.hid (fun X => (show Calls Try.prog 44 #[.pointer (some ⟨bs, 0, none⟩)] ((⟨own5, w5⟩ : GW).pt X).w (Gives (.int .i64 0) _) from same_gives (shade_len ((⟨own5, w5⟩ : GW).pt X) (100 + 60) bs bt bp (100 + 61) _ _ (S5.out.pt X) (P5.out.keep (Mod.pt (Mod.refl (fun _ => False) _) X) id))))
          have HW := Lib.hid (fun X => (show Calls Try.prog 45 #[shelves cq qp qk ql] ((⟨own5, w5⟩ : GW).pt X).w (Gives (.int .i64 0) _) from sh_waits ((⟨own5, w5⟩ : GW).pt X) (100 + 3) cq qp qk ql _ (Q5.out.line.keep (Mod.pt (Mod.refl (fun _ => False) _) X) id id)))
          have HWT := Lib.hid (fun X => space_wants_no ((⟨own5, w5⟩ : GW).pt X) 100 bsp bt _ (Y5.out.keep (Mod.pt (Mod.refl (fun _ => False) _) X) (fun x hx => hx.elim)) (by omega) ⟨show (0 : Int) ≤ 0 by decide, show (0 : Int) ≤ 1099511627776 by decide⟩ rfl (show c.low ≤ (((List.replicate c.frags.toNat true).countP id : Nat) : Int) by rw [List.countP_replicate]; have := HLOW.out; simp; omega) rfl)
          unfold shelves at HW
          go_wp2_with fail
          refine wp_region_mixed [true, true, true, true, true, true, true, true, true, true, true, true, true, true, true, true, true, true, true, true, true, true, true, true, true, true, true, true, true, true, true, true, true, true, true, true, true, true, true, false, false, false, false, false, false, false, false, false, false, false, false, false, false, false, false] 16 39 (by kernel_rfl) (by kernel_rfl) (by kernel_rfl) ?_ (by decide) (by decide) (by decide) (by kernel_rfl) ?_
          · intro c a d v w h; cases d <;> exact h
          intro X00
          simp only [pickOps]
          repeat (go_big_quiet_step (first | (go_at_call 33; exact Calls.added (HF.out _)) | (go_at_call 38; exact Calls.added (HL.out _)) | (go_at_call 44; exact Calls.added (HS.out _)) | (go_at_call 45; exact Calls.added (HW.out _))))
          refine wpQuiet_nil (fun X0 => ?_)
          clear X00
          refine wpAnyM_tailL rfl (by kernel_rfl) (fun X2 => ?_)
          simp only [List.drop_succ_cons, List.drop_zero]
          go_wp2_with fail
          refine (HWT.out _).mono ?_
          rintro e w6 ⟨rfl, own6, m6, -⟩
          have M6 := Lib.hid ((Mod.pt M5.out _).trans (m6.mono (fun x (hx : inst 100 x) => (⟨hx.1, by have := hx.2; omega⟩ : instC 100 x))))
          clear m6
          go_wp2_with fail
          go_ret
          exact Gives.bool rfl (M3.out.toExt.trans (M6.out.nothing (fun j _ hj => by simp only [instC] at hj; split at hj <;> omega)).toExt)
end Go.Proofs.Ytlddahifhefjiaa
