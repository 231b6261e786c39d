/-
  SpaceFails: the walk.
-/
import Derived.Test.YthebmcbpmboblaaFailsP
namespace Go
open Go.RowKit
/-- A block that was laid on the way. -/
theorem Blk.laidIn {own1 : Nat → Nat} {w1 W w2 : World} (t : Nat) (T : TypeId) (vs : List Value) (h1 : Ext w1 W) (h2 : Ext (W.alloc (.cells vs.toArray T)) w2) :
    ∃ own2, Mod (fun _ => False) ⟨own1, w1⟩ ⟨own2, w2⟩ ∧ Blk ⟨own2, w2⟩ t W.heap.size T vs := by
  have m1 := Mod.ext (T := fun _ => False) (g := ⟨own1, w1⟩) h1 0
  have m2 := Mod.ext (T := fun _ => False) (g := (⟨own1, w1⟩ : GW).to 0 W) (show Ext W (W.alloc (.cells vs.toArray T)) from (Ext.refl _).alloc _) t
  have m3 := Mod.ext (T := fun _ => False) (g := ((⟨own1, w1⟩ : GW).to 0 W).to t (W.alloc (.cells vs.toArray T))) h2 0
  exact ⟨_, (m1.trans m2).trans m3, (Blk.new ((⟨own1, w1⟩ : GW).to 0 W) t T vs).keep m3 id⟩
end Go
namespace Go.Proofs.Ythebmcbpmboblaa
open Go Go.RowKit
set_option linter.unusedVariables false
set_option linter.unnecessarySimpa false
set_option linter.unusedSimpArgs false
set_option maxHeartbeats 4000000
theorem space_wants_yes (g : GW) (B b bt : Nat) (S : SpaceS) (h : SpaceAt g B b bt S) (hB : 100 ≤ B) (hc : 0 ≤ S.count ∧ S.count ≤ 1099511627776) (h1 : 0 < Ent.wait S.line) :
    Calls Try.prog 69 #[.pointer (some ⟨b, 0, none⟩)] g.w (Does (.bool true) g (inst B) (fun g' => SpaceAt g' B b bt S.tick)) := by
  obtain ⟨bp, bk, bl, A, cs, cm, bs, h⟩ := h
  obtain ⟨hc0, hc1⟩ := hc
  have M0 := Lib.hid (show Mod (inst B) g ⟨g.own, g.w.setCell ⟨b, 3, none⟩ (.int .i64 (S.count + 1))⟩ from Mod.set (by rw [h.blk.own]; exact ⟨by omega, by omega⟩))
  have H0 := Lib.hid (show SpaceIn ⟨g.own, g.w.setCell ⟨b, 3, none⟩ (.int .i64 (S.count + 1))⟩ B b bt S.tick bp bk bl A cs cm bs from h.tick)
  have HW := Lib.hid (fun X => sh_waits ((⟨g.own, g.w.setCell ⟨b, 3, none⟩ (.int .i64 (S.count + 1))⟩ : GW).pt X) (B + 3) cm bp bk bl S.line (H0.out.line.keep (Mod.pt (Mod.refl (fun _ => False) _) X) id id))
  have hd : decide ((0 : Int) < ((Ent.wait S.line : Nat) : Int)) = true := decide_eq_true (by omega)
  have hd2 : decide (0 < Ent.wait S.line) = true := decide_eq_true h1
  have c3 := h.blk.cell (i := 3) rfl
  have f3 := h.blk.live 3
  have hbl := h.blk.lt
  have HB0 := H0.out.blk
  have a0 := HB0.cell (i := 0) rfl
  have a1 := HB0.cell (i := 1) rfl
  have a2 := HB0.cell (i := 2) rfl
  have a3 := HB0.cell (i := 3) rfl
  have a4 := HB0.cell (i := 4) rfl
  have a5 := HB0.cell (i := 5) rfl
  have a6 := HB0.cell (i := 6) rfl
  have a7 := HB0.cell (i := 7) rfl
  have a8 := HB0.cell (i := 8) rfl
  have a9 := HB0.cell (i := 9) rfl
  have a10 := HB0.cell (i := 10) rfl
  have a11 := HB0.cell (i := 11) rfl
  have a12 := HB0.cell (i := 12) rfl
  have a13 := HB0.cell (i := 13) rfl
  have a14 := HB0.cell (i := 14) rfl
  have a15 := HB0.cell (i := 15) rfl
  have al := HB0.lt
  (try simp only [GW.to] at a0 a1 a2 a3 a4 a5 a6 a7 a8 a9 a10 a11 a12 a13 a14 a15 al)
  unfold shelves at HW
  clear h h1 HB0
  generalize Ent.wait S.line = nw at *
  go_enter Try.func69, Try.ntmps69
  go_wp2_with fail
  refine wp_region_mixed [true, true, true, true, true, true, true, true, true, true, true, true, true, true, true, true, true, true, true, true, true, true, true, true, true, true, true] 0 27 (by kernel_rfl) (by kernel_rfl) (by kernel_rfl) ?_ (by decide) (by decide) (by decide) (by kernel_rfl) ?_
  · intro c a d v w h; cases d <;> exact h
  intro X00
  simp only [pickOps]
  repeat (go_big_quiet_step ((go_at_call 66; exact Calls.added (HW.out _))))
  refine wpQuiet_nil (fun X0 => ?_)
  clear X00
  refine wpAnyM_done (by kernel_rfl) (fun X0' => ?_) _
  go_wp2_with fail
  go_ret
  exact Does.ext ⟨g.own, _⟩ (by (repeat (first | (with_reducible assumption) | (with_reducible exact Ext.refl _) | (with_reducible exact Ext.more _ _ _ _) | apply Ext.alloc | refine Ext.setCell ?_ (by first | exact Nat.le_refl _ | exact Nat.le_add_right _ _ | assumption) _ | apply Ext.patch | apply Ext.drew | apply Ext.drewN))) rfl M0.out (fun g2 m => ⟨_, _, _, _, _, _, _, H0.out.keep m (fun x hx => hx.elim)⟩)
theorem mod_nothing {T : Nat → Prop} {g g' : GW} (h : Mod T g g') (hn : ∀ k, k < g.w.heap.size → ¬ T (g.own k)) : Mod (fun _ => False) g g' := ⟨h.os, h.tape, h.output, h.size, h.own, fun k hk _ => h.block k hk (hn k hk)⟩
theorem space_keep {g g' : GW} {B b bt : Nat} {S : SpaceS} {T : Nat → Prop} (h : SpaceAt g B b bt S) (m : Mod T g g') (hT : ∀ x, T x → x < B ∨ B + 60 ≤ x) : SpaceAt g' B b bt S := by
  obtain ⟨bp, bk, bl, A, cs, cm, bs, h⟩ := h
  exact ⟨bp, bk, bl, A, cs, cm, bs, h.keep m hT⟩
/-- The grant is laid down. -/
theorem grant_lay {own1 : Nat → Nat} {w1 : World} {B b bt : Nat} {S : SpaceS} (vs : List Value) (h : SpaceAt ⟨own1, w1⟩ B b bt S) :
    ∃ own2, Mod (fun _ => False) ⟨own1, w1⟩ ⟨own2, w1.alloc (.cells vs.toArray 111)⟩ ∧ Blk ⟨own2, w1.alloc (.cells vs.toArray 111)⟩ 9 w1.heap.size 111 vs ∧ SpaceAt ⟨own2, w1.alloc (.cells vs.toArray 111)⟩ B b bt S := by
  obtain ⟨own2, m, b2⟩ := Blk.laidIn (own1 := own1) 9 111 vs (Ext.refl w1) (Ext.refl _)
  exact ⟨own2, m, b2, space_keep h m (fun x hx => hx.elim)⟩
theorem grant_state (x y : Int) (A : Option Addr) (n c : Nat) (w : World) : (Instr.field 111 (.agg #[.int .i64 x, .slice A n c, .int .i64 y]) 0).run Try.prog w = .ok (.int .i64 x) w := by kernel_rfl
theorem inst9 : ¬ inst 100 9 := fun h => by have := h.1; omega
set_option maxRecDepth 100000 in
theorem fails_any (ahead : Int) (w : World) (h1 : -9223372036854775808 ≤ ahead ∧ ahead ≤ 9223372036854775807) : Calls Try.prog 11 #[.int .i64 ahead] w (Gives (.bool true) w) := by
  have HF := Lib.hid (fun w => first21_any w)
  by_cases hr : 0 ≤ ahead ∧ ahead ≤ 20
  case neg =>
    by_cases a1 : ahead < 0
    · clear hr
      go_enter Try.func11, Try.ntmps11
      go_wp2_with fail
      refine (HF.out _).mono ?_
      rintro e w0 ⟨rfl, hX⟩
      have E0 := Lib.hid (show Ext w w0 from hX)
      clear hX
      go_wp2_with fail
      refine (HF.out _).mono ?_
      rintro e w1 ⟨rfl, hX⟩
      have E1 := Lib.hid (E0.out.trans (show Ext w0 w1 from hX))
      clear hX
      go_wp2_with fail
      go_ret
      exact Gives.bool rfl E1.out
    have a2 : 20 < ahead := by omega
    clear hr
    go_enter Try.func11, Try.ntmps11
    go_wp2_with fail
    refine (HF.out _).mono ?_
    rintro e w0 ⟨rfl, hX⟩
    have E0 := Lib.hid (show Ext w w0 from hX)
    clear hX
    go_wp2_with fail
    refine (HF.out _).mono ?_
    rintro e w1 ⟨rfl, hX⟩
    have E1 := Lib.hid (E0.out.trans (show Ext w0 w1 from hX))
    clear hX
    go_wp2_with fail
    go_ret
    exact Gives.bool rfl E1.out
  case pos =>
    obtain ⟨r1, r2⟩ := hr
    clear h1
    go_enter Try.func11, Try.ntmps11
    go_wp2_with fail
    refine (HF.out _).mono ?_
    rintro e w0 ⟨rfl, hX⟩
    have E0 := Lib.hid (show Ext w w0 from hX)
    clear hX
    go_wp2_with fail
    refine (small21_any 8 0 0 w0).mono ?_
    rintro e w1 ⟨A, rfl, hE, hok⟩
    have E1 := Lib.hid (E0.out.trans hE)
    have HM := Lib.hid (made_any (cS 8 0 0 A) 100 ⟨fun _ => 0, w1⟩ hok (cS_check ⟨by omega, by omega⟩ ⟨by omega, by omega⟩ ⟨by omega, by omega⟩ (by omega)) (by omega))
    unfold Cnf.val at HM ⊢
    clear hE hok
    go_wp2_with fail
    refine HM.out.mono ?_
    rintro e w2 ⟨own2, b, bt, rfl, m2, h2⟩
    have M2 := Lib.hid (m2.mono (S := inst 100) (fun x hx => hx.elim))
    have H2 := Lib.hid (show SpaceAt ⟨own2, w2⟩ 100 b bt (s8 0 A) from h2)
    clear m2 h2
    go_wp2_with fail
    go_loopw [5] (fun i wr => ∃ (k : Nat) (own : Nat → Nat), (k : Int) ≤ ahead ∧ i = .int .i64 k ∧ Hid (Mod (inst 100) ⟨fun _ => 0, w1⟩ ⟨own, wr⟩) ∧ Hid (SpaceAt ⟨own, wr⟩ 100 b bt (s8 (2 * k) A))) (fun i _ => ahead.toNat - (intOf i).toNat)
    case atStart => exact ⟨0, own2, r1, rfl, M2, H2⟩
    case round =>
      obtain ⟨k, own3, hk, rfl, M3, H3⟩ := hrel
      obtain ⟨w3, rfl⟩ : ∃ w3 : World, w3 = wr := ⟨_, rfl⟩
      clear M2 H2
      have hk2 : (k : Int) ≤ 20 := by omega
      by_cases hlt : (k : Int) < ahead
      · have HC := Lib.hid (s8_cyc (2 * k) A)
        go_wp2_with fail
        refine (space_begin ⟨own3, w3⟩ 100 b bt _ H3.out (by omega) ⟨show (0 : Int) ≤ 2 * k by omega, show (2 * k : Int) ≤ 1099511627776 by omega⟩).mono ?_
        rintro e w4 ⟨rfl, own4, m4, h4⟩
        have M4 := Lib.hid (M3.out.trans m4)
        have H4 := Lib.hid (show SpaceAt ⟨own4, w4⟩ 100 b bt (beginS (s8 (2 * k) A)) from id h4)
        clear m4 h4
        go_wp2_with fail
        refine (space_end ⟨own4, w4⟩ 100 b bt _ H4.out (by omega) ⟨show (0 : Int) ≤ 2 * k + 1 by omega, show (2 * k + 1 : Int) ≤ 1099511627776 by omega⟩ (fun e he => by simp [beginS, s8, SpaceS.fresh] at he)).mono ?_
        rintro e w5 ⟨rfl, own5, m5, h5⟩
        have M5 := Lib.hid (M4.out.trans m5)
        have H5 := Lib.hid (show SpaceAt ⟨own5, w5⟩ 100 b bt (endS (beginS (s8 (2 * k) A))) from id h5)
        clear m5 h5
        go_wp2_with fail
        go_roundw
        case rel => exact ⟨k + 1, own5, by omega, by go_num, M5, by rw [show (2 * ((k + 1 : Nat) : Int)) = 2 * k + 2 by omega, ← HC.out]; exact H5⟩
        case measure => simp [intOf]; omega
      · obtain rfl : ahead = (k : Int) := by omega
        have hd : decide ((k : Int) < k) = false := by simp
        clear hlt
        obtain ⟨S1, S2, S3, R, S6, S7, S8, S9, S10, hF⟩ := fails_run (2 * k) A
        have F := Lib.hid hF
        clear hF
        generalize s8 (2 * k) A = S0 at *
        have HN := Lib.hid (show 0 ≤ 2 * (k : Int) ∧ 2 * (k : Int) ≤ 40 from ⟨by omega, by omega⟩)
        clear hk hk2
        generalize 2 * (k : Int) = n at *
        go_wp2_with fail
        refine (space_ask 0 7 0 true ⟨own3, w3⟩ 100 b bt S0 H3.out (by omega) (by rw [F.out.c0]; have := HN.out; omega) (lineOk_len F.out.l0) (by decide) (by decide)).mono ?_
        rintro e v4 ⟨v, ownv4, rfl, m4, ⟨A4, c4, rfl, r4⟩, h4⟩
        rw [F.out.a1]
        clear r4
        generalize (ask S0 0 7 0 true).1.2.1.length = n4 at *
        generalize (ask S0 0 7 0 true).1.2.2 = at4 at *
        obtain ⟨own4, m'4, g4, h'4⟩ := grant_lay [.int .i64 1, .slice A4 n4 c4, .int .i64 at4] h4
        have M4 := Lib.hid ((M3.out.trans m4).trans (m'4.mono (fun x hx => hx.elim)))
        have H4 := Lib.hid (show SpaceAt ⟨own4, v4.alloc (.cells #[.int .i64 1, .slice A4 n4 c4, .int .i64 at4] 111)⟩ 100 b bt (S1) from F.out.e1 ▸ h'4)
        have G4 := Lib.hid (show Blk ⟨own4, v4.alloc (.cells #[.int .i64 1, .slice A4 n4 c4, .int .i64 at4] 111)⟩ 9 v4.heap.size 111 [.int .i64 1, .slice A4 n4 c4, .int .i64 at4] from g4)
        go_wp2_with fail
        generalize v4.heap.size = p4 at *
        generalize v4.alloc (.cells #[.int .i64 1, .slice A4 n4 c4, .int .i64 at4] 111) = w4 at *
        refine (space_ask 1 2 0 true ⟨own4, w4⟩ 100 b bt S1 H4.out (by omega) (by rw [F.out.c1]; have := HN.out; omega) (lineOk_len F.out.l1) (by decide) (by decide)).mono ?_
        rintro e v5 ⟨v, ownv5, rfl, m5, ⟨A5, c5, rfl, r5⟩, h5⟩
        rw [F.out.a2]
        clear r5
        generalize (ask S1 1 2 0 true).1.2.1.length = n5 at *
        generalize (ask S1 1 2 0 true).1.2.2 = at5 at *
        obtain ⟨own5, m'5, g5, h'5⟩ := grant_lay [.int .i64 0, .slice A5 n5 c5, .int .i64 at5] h5
        have M5 := Lib.hid ((M4.out.trans m5).trans (m'5.mono (fun x hx => hx.elim)))
        have H5 := Lib.hid (show SpaceAt ⟨own5, v5.alloc (.cells #[.int .i64 0, .slice A5 n5 c5, .int .i64 at5] 111)⟩ 100 b bt (S2) from F.out.e2 ▸ h'5)
        have G5 := Lib.hid (show Blk ⟨own5, v5.alloc (.cells #[.int .i64 0, .slice A5 n5 c5, .int .i64 at5] 111)⟩ 9 v5.heap.size 111 [.int .i64 0, .slice A5 n5 c5, .int .i64 at5] from g5)
        have G45 := Lib.hid ((G4.out.keep m5 inst9).keep m'5 id)
        clear m4 m5 m'4 m'5 h4 h5 h'4 h'5 g4 g5 M3 H3 M4 H4 G4
        go_wp2_with fail
        generalize v5.heap.size = p5 at *
        generalize v5.alloc (.cells #[.int .i64 0, .slice A5 n5 c5, .int .i64 at5] 111) = w5 at *
        refine (space_ask 2 1 0 true ⟨own5, w5⟩ 100 b bt S2 H5.out (by omega) (by rw [F.out.c2]; have := HN.out; omega) (lineOk_len F.out.l2) (by decide) (by decide)).mono ?_
        rintro e v6 ⟨v, ownv6, rfl, m6, ⟨A6, c6, rfl, r6⟩, h6⟩
        rw [F.out.a3]
        clear r6
        generalize (ask S2 2 1 0 true).1.2.1.length = n6 at *
        generalize (ask S2 2 1 0 true).1.2.2 = at6 at *
        obtain ⟨own6, m'6, g6, h'6⟩ := grant_lay [.int .i64 0, .slice A6 n6 c6, .int .i64 at6] h6
        have M6 := Lib.hid ((M5.out.trans m6).trans (m'6.mono (fun x hx => hx.elim)))
        have H6 := Lib.hid (show SpaceAt ⟨own6, v6.alloc (.cells #[.int .i64 0, .slice A6 n6 c6, .int .i64 at6] 111)⟩ 100 b bt (S3) from F.out.e3 ▸ h'6)
        have G6 := Lib.hid (show Blk ⟨own6, v6.alloc (.cells #[.int .i64 0, .slice A6 n6 c6, .int .i64 at6] 111)⟩ 9 v6.heap.size 111 [.int .i64 0, .slice A6 n6 c6, .int .i64 at6] from g6)
        have K46 := Lib.hid (G45.out.keep m6 inst9)
        have K56 := Lib.hid (G5.out.keep m6 inst9)
        clear m6 m'6 h6 h'6 g6 M5 H5 G5 G45
        have x0 := K46.out.cell (i := 0) rfl
        have x1 := K46.out.cell (i := 1) rfl
        have x2 := K46.out.cell (i := 2) rfl
        have xl := K46.out.lt
        (try simp only [GW.to] at x0 x1 x2 xl)
        have y0 := K56.out.cell (i := 0) rfl
        have y1 := K56.out.cell (i := 1) rfl
        have y2 := K56.out.cell (i := 2) rfl
        have yl := K56.out.lt
        (try simp only [GW.to] at y0 y1 y2 yl)
        go_wp2_with fail
        generalize v6.heap.size = p6 at *
        generalize v6.alloc (.cells #[.int .i64 0, .slice A6 n6 c6, .int .i64 at6] 111) = w6 at *
        clear x0 x1 x2 xl y0 y1 y2 yl K46 K56 G6
        refine (space_wants_yes ⟨own6, w6⟩ 100 b bt S3 H6.out (by omega) (by rw [F.out.c3]; have := HN.out; omega) F.out.w3).mono ?_
        rintro e w7 ⟨rfl, own7, m7, h7⟩
        have M7 := Lib.hid (M6.out.trans m7)
        have H7 := Lib.hid (show SpaceAt ⟨own7, w7⟩ 100 b bt (S3.tick) from id h7)
        clear m7 h7 M6 H6
        go_wp2_with fail
        refine (space_end ⟨own7, w7⟩ 100 b bt S3.tick H7.out (by omega) (by show 0 ≤ S3.count + 1 ∧ S3.count + 1 ≤ 1099511627776; rw [F.out.c3]; have := HN.out; omega) (lineOk_cyc F.out.l3)).mono ?_
        rintro e w8 ⟨rfl, own8, m8, h8⟩
        have M8 := Lib.hid (M7.out.trans m8)
        have H8 := Lib.hid (show SpaceAt ⟨own8, w8⟩ 100 b bt (R 0) from F.out.e5 ▸ h8)
        clear m8 h8 M7 H7
        go_wp2_with fail
        go_loopw [9] (fun i wr => ∃ (j : Nat) (own : Nat → Nat), j ≤ 2 ∧ i = .int .i64 j ∧ Hid (Mod (inst 100) ⟨fun _ => 0, w1⟩ ⟨own, wr⟩) ∧ Hid (SpaceAt ⟨own, wr⟩ 100 b bt (R j))) (fun i _ => 2 - (intOf i).toNat)
        case atStart => exact ⟨0, own8, Nat.zero_le _, rfl, M8, H8⟩
        case round =>
          obtain ⟨j, own10, hj, rfl, M10, H10⟩ := hrel
          obtain ⟨w10, rfl⟩ : ∃ w10 : World, w10 = wr := ⟨_, rfl⟩
          clear M8 H8
          have HCR := Lib.hid (F.out.cR j)
          by_cases hlj : j < 2
          · have RO := Lib.hid (F.out.r j hlj)
            have hj2 : (j : Int) < 2 := by omega
            have HB := Lib.hid (show 0 ≤ (R j).count ∧ (R j).count ≤ 1000 by rw [HCR.out]; have := HN.out; omega)
            have HS1 := Lib.hid (serve_cnt (R j) true)
            have HS2 := Lib.hid (look_cnt (serve (R j) true).2 1)
            go_wp2_with fail
            refine (space_serve true ⟨own10, w10⟩ 100 b bt (R j) H10.out (by omega) (by have := HB.out; omega) (lineOk_fair RO.out.l0)).mono ?_
            rintro e w11 ⟨rfl, own11, m11, h11⟩
            rw [RO.out.b]
            have M11 := Lib.hid (M10.out.trans m11)
            have H11 := Lib.hid (show SpaceAt ⟨own11, w11⟩ 100 b bt ((serve (R j) true).2) from id h11)
            clear m11 h11
            go_wp2_with fail
            refine (space_look 1 ⟨own11, w11⟩ 100 b bt _ H11.out (by omega) (by rw [HS1.out]; have := HB.out; omega)).mono ?_
            rintro e w12 ⟨v, own12, rfl, m12, ⟨A12, c12, rfl, r12⟩, h12⟩
            rw [RO.out.k]
            clear r12
            generalize (look (serve (R j) true).2 1).1.2.1.length = n12 at *
            generalize (look (serve (R j) true).2 1).1.2.2 = at12 at *
            have M12 := Lib.hid (M11.out.trans m12)
            have H12 := Lib.hid h12
            have hgs := grant_state 0 at12 A12 n12 c12
            clear m12 h12 M10 H10 M11 H11
            go_wp2_with fail
            refine (space_begin ⟨own12, w12⟩ 100 b bt _ H12.out (by omega) (by rw [HS2.out, HS1.out]; have := HB.out; omega)).mono ?_
            rintro e w13 ⟨rfl, own13, m13, h13⟩
            have M13 := Lib.hid (M12.out.trans m13)
            have H13 := Lib.hid (show SpaceAt ⟨own13, w13⟩ 100 b bt (beginS (look (serve (R j) true).2 1).2) from id h13)
            clear m13 h13 M12 H12
            go_wp2_with fail
            refine (space_end ⟨own13, w13⟩ 100 b bt _ H13.out (by omega) (by show 0 ≤ (look (serve (R j) true).2 1).2.count + 1 ∧ (look (serve (R j) true).2 1).2.count + 1 ≤ 1099511627776; rw [HS2.out, HS1.out]; have := HB.out; omega) (lineOk_cyc RO.out.l3)).mono ?_
            rintro e w14 ⟨rfl, own14, m14, h14⟩
            have M14 := Lib.hid (M13.out.trans m14)
            have H14 := Lib.hid (show SpaceAt ⟨own14, w14⟩ 100 b bt (R (j + 1)) from F.out.eR j ▸ h14)
            clear m14 h14 M13 H13
            go_wp2_with fail
            go_roundw
            case rel => exact ⟨j + 1, own14, by omega, by go_num, M14, H14⟩
            case measure => simp [intOf]; omega
          · obtain rfl : j = 2 := by omega
            rw [show ((2 : Nat) : Int) = 2 from rfl]
            clear hlj hj
            clear HCR
            go_wp2_with fail
            refine (space_serve true ⟨own10, w10⟩ 100 b bt (R 2) H10.out (by omega) (by have h5 := F.out.cR 2; have := HN.out; omega) (lineOk_fair F.out.l5)).mono ?_
            rintro e w11 ⟨rfl, own11, m11, h11⟩
            rw [F.out.b6]
            have M11 := Lib.hid (M10.out.trans m11)
            have H11 := Lib.hid (show SpaceAt ⟨own11, w11⟩ 100 b bt (S6) from F.out.e6 ▸ h11)
            clear m11 h11 M10 H10
            go_wp2_with fail
            refine (space_look 1 ⟨own11, w11⟩ 100 b bt S6 H11.out (by omega) (by rw [F.out.c6]; have := HN.out; omega)).mono ?_
            rintro e v12 ⟨v, ownv12, rfl, m12, ⟨A12, c12, rfl, r12⟩, h12⟩
            rw [F.out.k7]
            clear r12
            generalize (look S6 1).1.2.1.length = n12 at *
            generalize (look S6 1).1.2.2 = at12 at *
            obtain ⟨own12, m'12, g12, h'12⟩ := grant_lay [.int .i64 2, .slice A12 n12 c12, .int .i64 at12] h12
            have M12 := Lib.hid ((M11.out.trans m12).trans (m'12.mono (fun x hx => hx.elim)))
            have H12 := Lib.hid (show SpaceAt ⟨own12, v12.alloc (.cells #[.int .i64 2, .slice A12 n12 c12, .int .i64 at12] 111)⟩ 100 b bt (S7) from F.out.e7 ▸ h'12)
            have G12 := Lib.hid (show Blk ⟨own12, v12.alloc (.cells #[.int .i64 2, .slice A12 n12 c12, .int .i64 at12] 111)⟩ 9 v12.heap.size 111 [.int .i64 2, .slice A12 n12 c12, .int .i64 at12] from g12)
            clear m12 m'12 h12 h'12 g12 M11 H11
            go_wp2_with fail
            generalize v12.heap.size = p12 at *
            generalize v12.alloc (.cells #[.int .i64 2, .slice A12 n12 c12, .int .i64 at12] 111) = w12 at *
            refine (space_serve true ⟨own12, w12⟩ 100 b bt S7 H12.out (by omega) (by rw [F.out.c7]; have := HN.out; omega) (lineOk_fair F.out.l7)).mono ?_
            rintro e w13 ⟨rfl, own13, m13, h13⟩
            rw [F.out.b8]
            have M13 := Lib.hid (M12.out.trans m13)
            have H13 := Lib.hid (show SpaceAt ⟨own13, w13⟩ 100 b bt (S8) from F.out.e8 ▸ h13)
            have G13 := Lib.hid (G12.out.keep m13 inst9)
            clear m13 h13 M12 H12 G12
            go_wp2_with fail
            refine (space_look 2 ⟨own13, w13⟩ 100 b bt S8 H13.out (by omega) (by rw [F.out.c8]; have := HN.out; omega)).mono ?_
            rintro e v14 ⟨v, ownv14, rfl, m14, ⟨A14, c14, rfl, r14⟩, h14⟩
            rw [F.out.k9, F.out.g9]
            clear r14
            generalize (look S8 2).1.2.2 = at14 at *
            obtain ⟨own14, m'14, g14, h'14⟩ := grant_lay [.int .i64 1, .slice A14 1 c14, .int .i64 at14] h14
            have M14 := Lib.hid ((M13.out.trans m14).trans (m'14.mono (fun x hx => hx.elim)))
            have H14 := Lib.hid (show SpaceAt ⟨own14, v14.alloc (.cells #[.int .i64 1, .slice A14 1 c14, .int .i64 at14] 111)⟩ 100 b bt S9 from F.out.e9 ▸ h'14)
            have G14 := Lib.hid (show Blk ⟨own14, v14.alloc (.cells #[.int .i64 1, .slice A14 1 c14, .int .i64 at14] 111)⟩ 9 v14.heap.size 111 [.int .i64 1, .slice A14 1 c14, .int .i64 at14] from g14)
            have GG := Lib.hid ((G13.out.keep m14 inst9).keep m'14 id)
            clear m14 m'14 h14 h'14 g14 M13 H13 G13
            go_wp2_with fail
            generalize v14.heap.size = p14 at *
            generalize v14.alloc (.cells #[.int .i64 1, .slice A14 1 c14, .int .i64 at14] 111) = w14 at *
            refine (HF.out _).mono ?_
            rintro e w15 ⟨rfl, hX⟩
            obtain ⟨own15, m15⟩ := Mod.ofExt (show Ext w14 w15 from hX) own14
            have M15 := Lib.hid (M14.out.trans (m15.mono (fun x hx => hx.elim)))
            obtain ⟨bp, bk, bl, As, cs, cm, bs, h15⟩ := space_keep H14.out m15 (fun x hx => hx.elim)
            have H15 := Lib.hid h15
            have G15 := Lib.hid (G14.out.keep m15 id)
            have GG15 := Lib.hid (GG.out.keep m15 id)
            clear m15 hX h15 M14 H14 G14 GG
            have x0 := G15.out.cell (i := 0) rfl
            have x1 := G15.out.cell (i := 1) rfl
            have x2 := G15.out.cell (i := 2) rfl
            have xl := G15.out.lt
            (try simp only [GW.to] at x0 x1 x2 xl)
            have y0 := GG15.out.cell (i := 0) rfl
            have y1 := GG15.out.cell (i := 1) rfl
            have y2 := GG15.out.cell (i := 2) rfl
            have yl := GG15.out.lt
            (try simp only [GW.to] at y0 y1 y2 yl)
            have a0 := H15.out.blk.cell (i := 0) rfl
            have a1 := H15.out.blk.cell (i := 1) rfl
            have a2 := H15.out.blk.cell (i := 2) rfl
            have a3 := H15.out.blk.cell (i := 3) rfl
            have a4 := H15.out.blk.cell (i := 4) rfl
            have a5 := H15.out.blk.cell (i := 5) rfl
            have a6 := H15.out.blk.cell (i := 6) rfl
            have a7 := H15.out.blk.cell (i := 7) rfl
            have a8 := H15.out.blk.cell (i := 8) rfl
            have a9 := H15.out.blk.cell (i := 9) rfl
            have a10 := H15.out.blk.cell (i := 10) rfl
            have a11 := H15.out.blk.cell (i := 11) rfl
            have a12 := H15.out.blk.cell (i := 12) rfl
            have a13 := H15.out.blk.cell (i := 13) rfl
            have a14 := H15.out.blk.cell (i := 14) rfl
            have a15 := H15.out.blk.cell (i := 15) rfl
            have al := H15.out.blk.lt
            (try simp only [GW.to] at a0 a1 a2 a3 a4 a5 a6 a7 a8 a9 a10 a11 a12 a13 a14 a15 al)
            have HW := Lib.hid (show Calls Try.prog 66 #[shelves cm bp bk bl] w15 (Gives (.int .i64 ((0 : Nat) : Int)) w15) from F.out.w9 ▸ sh_waits ⟨own15, w15⟩ (100 + 3) cm bp bk bl _ H15.out.line)
            unfold shelves at HW
            go_wp2_with fail
            refine HW.out.mono ?_
            rintro e w16 ⟨rfl, hX⟩
            rw [show ((0 : Nat) : Int) = 0 from rfl]
            obtain ⟨own16, m16⟩ := Mod.ofExt (show Ext w15 w16 from hX) own15
            have M16 := Lib.hid (M15.out.trans (m16.mono (fun x hx => hx.elim)))
            have H16 := Lib.hid (H15.out.keep m16 (fun x hx => hx.elim))
            clear m16 hX x0 x1 x2 xl y0 y1 y2 yl a0 a1 a2 a3 a4 a5 a6 a7 a8 a9 a10 a11 a12 a13 a14 a15 al M15 H15 G15 GG15 HW
            have a0 := H16.out.blk.cell (i := 0) rfl
            have a1 := H16.out.blk.cell (i := 1) rfl
            have a2 := H16.out.blk.cell (i := 2) rfl
            have a3 := H16.out.blk.cell (i := 3) rfl
            have a4 := H16.out.blk.cell (i := 4) rfl
            have a5 := H16.out.blk.cell (i := 5) rfl
            have a6 := H16.out.blk.cell (i := 6) rfl
            have a7 := H16.out.blk.cell (i := 7) rfl
            have a8 := H16.out.blk.cell (i := 8) rfl
            have a9 := H16.out.blk.cell (i := 9) rfl
            have a10 := H16.out.blk.cell (i := 10) rfl
            have a11 := H16.out.blk.cell (i := 11) rfl
            have a12 := H16.out.blk.cell (i := 12) rfl
            have a13 := H16.out.blk.cell (i := 13) rfl
            have a14 := H16.out.blk.cell (i := 14) rfl
            have a15 := H16.out.blk.cell (i := 15) rfl
            have al := H16.out.blk.lt
            (try simp only [GW.to] at a0 a1 a2 a3 a4 a5 a6 a7 a8 a9 a10 a11 a12 a13 a14 a15 al)
            have HFR := Lib.hid (show Calls Try.prog 25 #[shelves cm bp bk bl] w16 (Gives (.int .i64 ((0 : Nat) : Int)) w16) from F.out.f9 ▸ sh_free ⟨own16, w16⟩ (100 + 1) cm bp bk bl _ H16.out.pool)
            unfold shelves at HFR
            go_wp2_with fail
            refine HFR.out.mono ?_
            rintro e w17 ⟨rfl, hX⟩
            rw [show ((0 : Nat) : Int) = 0 from rfl]
            obtain ⟨own17, m17⟩ := Mod.ofExt (show Ext w16 w17 from hX) own16
            have M17 := Lib.hid (M16.out.trans (m17.mono (fun x hx => hx.elim)))
            have H17 := Lib.hid (show SpaceAt ⟨own17, w17⟩ 100 b bt S9 from ⟨_, _, _, _, _, _, _, H16.out.keep m17 (fun x hx => hx.elim)⟩)
            clear m17 hX a0 a1 a2 a3 a4 a5 a6 a7 a8 a9 a10 a11 a12 a13 a14 a15 al M16 H16 HFR
            go_wp2_with fail
            refine (space_look 1 ⟨own17, w17⟩ 100 b bt S9 H17.out (by omega) (by rw [F.out.c9]; have := HN.out; omega)).mono ?_
            rintro e w18 ⟨v, own18, rfl, m18, ⟨A18, c18, rfl, r18⟩, h18⟩
            rw [F.out.k10]
            have hgs := grant_state 3 (look S9 1).1.2.2 A18 (look S9 1).1.2.1.length c18
            clear r18
            have M18 := Lib.hid (M17.out.trans m18)
            have H18 := Lib.hid (show SpaceAt ⟨own18, w18⟩ 100 b bt S10 from F.out.e10 ▸ h18)
            clear m18 h18 M17 H17
            go_wp2_with fail
            refine (space_serve true ⟨own18, w18⟩ 100 b bt S10 H18.out (by omega) (by rw [F.out.c10]; have := HN.out; omega) (lineOk_fair F.out.l10)).mono ?_
            rintro e w19 ⟨rfl, own19, m19, h19⟩
            rw [F.out.b10]
            have M19 := Lib.hid (M18.out.trans m19)
            have H19 := Lib.hid (show SpaceAt ⟨own19, w19⟩ 100 b bt ((serve S10 true).2) from id h19)
            clear m19 h19
            go_wp2_with fail
            go_ret
            exact Gives.bool rfl (E1.out.trans (mod_nothing M19.out (fun j _ hj => by have h100 : (100 : Nat) ≤ 0 := hj.1; omega)).toExt)
end Go.Proofs.Ythebmcbpmboblaa
