/-
  SpaceStocks: the walk.
-/
import Derived.Test.YtlddahifhefjiaaStocksP
import Derived.Test.YtlddahifhefjiaaRuns
namespace Go.Proofs.Ytlddahifhefjiaa
open Go Go.RowKit
set_option linter.unusedVariables false
set_option linter.unnecessarySimpa false
set_option linter.unusedSimpArgs false
set_option maxHeartbeats 4000000
@[go_sem] theorem min_ints (ats : Array TypeId) (ty : TypeId) (x y : Int) : Builtin.min_ ats ty #[.int .i64 x, .int .i64 y] = pure (.int .i64 (if y < x then y else x)) := rfl
set_option maxRecDepth 100000 in
theorem stocks_any (cache frags : Int) (w : World) (h1 : -9223372036854775808 ≤ cache ∧ cache ≤ 9223372036854775807) (h2 : -9223372036854775808 ≤ frags ∧ frags ≤ 9223372036854775807) : Calls Try.prog 13 #[.int .i64 cache, .int .i64 frags] w (Gives (.bool true) w) := by
  have HF := Lib.hid (fun w => first21_any w)
  by_cases hr : 0 ≤ cache ∧ cache ≤ 8 ∧ 1 ≤ frags ∧ frags ≤ 5
  case neg =>
    by_cases a1 : cache < 0
    · clear hr
      go_enter Try.func13, Try.ntmps13
      go_wp2_with fail
      refine (HF.out _).mono ?_
      rintro e w0 ⟨rfl, hX⟩
      have E0 := Lib.hid (show Ext w w0 from hX)
      clear hX
      go_wp2_with fail
      refine (HF.out _).mono ?_
      rintro e w1 ⟨rfl, hX⟩
      have E1 := Lib.hid (E0.out.trans (show Ext w0 w1 from hX))
      clear hX
      go_wp2_with fail
      go_ret
      exact Gives.bool rfl E1.out
    by_cases a2 : 8 < cache
    · clear hr
      go_enter Try.func13, Try.ntmps13
      go_wp2_with fail
      refine (HF.out _).mono ?_
      rintro e w0 ⟨rfl, hX⟩
      have E0 := Lib.hid (show Ext w w0 from hX)
      clear hX
      go_wp2_with fail
      refine (HF.out _).mono ?_
      rintro e w1 ⟨rfl, hX⟩
      have E1 := Lib.hid (E0.out.trans (show Ext w0 w1 from hX))
      clear hX
      go_wp2_with fail
      go_ret
      exact Gives.bool rfl E1.out
    by_cases a3 : frags < 1
    · clear hr
      go_enter Try.func13, Try.ntmps13
      go_wp2_with fail
      refine (HF.out _).mono ?_
      rintro e w0 ⟨rfl, hX⟩
      have E0 := Lib.hid (show Ext w w0 from hX)
      clear hX
      go_wp2_with fail
      refine (HF.out _).mono ?_
      rintro e w1 ⟨rfl, hX⟩
      have E1 := Lib.hid (E0.out.trans (show Ext w0 w1 from hX))
      clear hX
      go_wp2_with fail
      go_ret
      exact Gives.bool rfl E1.out
    have a4 : 5 < frags := by omega
    clear hr
    go_enter Try.func13, Try.ntmps13
    go_wp2_with fail
    refine (HF.out _).mono ?_
    rintro e w0 ⟨rfl, hX⟩
    have E0 := Lib.hid (show Ext w w0 from hX)
    clear hX
    go_wp2_with fail
    refine (HF.out _).mono ?_
    rintro e w1 ⟨rfl, hX⟩
    have E1 := Lib.hid (E0.out.trans (show Ext w0 w1 from hX))
    clear hX
    go_wp2_with fail
    go_ret
    exact Gives.bool rfl E1.out
  case pos =>
    obtain ⟨r1, r2, r3, r4⟩ := hr
    have HOK := Lib.hid (fun A => s60_ok cache frags A ⟨r1, r2⟩ ⟨r3, r4⟩)
    go_enter Try.func13, Try.ntmps13
    go_wp2_with fail
    refine (HF.out _).mono ?_
    rintro e w0 ⟨rfl, hX⟩
    have E0 := Lib.hid (show Ext w w0 from hX)
    clear hX
    go_wp2_with fail
    refine (small21_any 60 0 cache w0).mono ?_
    rintro e w1 ⟨A, rfl, hE, hok⟩
    have E1 := Lib.hid (E0.out.trans hE)
    have HM := Lib.hid (made_any (cS 60 0 cache A) 100 ⟨fun _ => 0, w1⟩ hok (cS_check ⟨by omega, by omega⟩ ⟨by omega, by omega⟩ ⟨by omega, by omega⟩ (by omega)) (by omega))
    unfold Cnf.val at HM ⊢
    clear hE hok
    go_wp2_with fail
    refine HM.out.mono ?_
    rintro e w2 ⟨own2, b, bt, rfl, m2, h2⟩
    have M2 := Lib.hid (m2.mono (S := inst 100) (fun x hx => hx.elim))
    have H2 := Lib.hid (show SpaceAt ⟨own2, w2⟩ 100 b bt (s60 cache A) from h2)
    clear m2 h2
    go_wp2_with fail
    go_loopw [7, 8, 9] (fun sv uv i wr => ∃ (k : Nat) (S : SpaceS) (s u : Int) (own : Nat → Nat), k ≤ 8 ∧ stepsOk cache frags (8 - k) S s u = true ∧ (0 ≤ u ∧ u ≤ 10 * k) ∧ sv = .int .i64 s ∧ uv = .int .i64 u ∧ i = .int .i64 k ∧ Hid (Mod (inst 100) ⟨fun _ => 0, w1⟩ ⟨own, wr⟩) ∧ Hid (SpaceAt ⟨own, wr⟩ 100 b bt S)) (fun _ _ i _ => 8 - (intOf i).toNat)
    case atStart => exact ⟨0, _, 0, 0, own2, Nat.zero_le _, HOK.out A, ⟨by omega, by omega⟩, rfl, rfl, rfl, M2, H2⟩
    case round =>
      obtain ⟨k, S, s, u, own3, hk, hok, ⟨hu0, hu1⟩, rfl, rfl, rfl, M3, H3⟩ := hrel
      clear M2 H2 HOK
      obtain ⟨w3, rfl⟩ : ∃ w3 : World, w3 = wr := ⟨_, rfl⟩
      obtain ⟨bp3, bk3, bl3, As3, cs3, cm3, bs3, h3⟩ := H3.out
      have H3 := Lib.hid h3
      clear h3
      by_cases hlt : k < 8
      · obtain ⟨m, hm⟩ : ∃ m, 8 - k = m + 1 := ⟨7 - k, by omega⟩
        rw [hm] at hok
        obtain ⟨⟨hs0, hs1⟩, ok, kn⟩ := stepsOk_next hok
        have KN := Lib.hid kn
        have OK := Lib.hid ok
        have hfree : (S.pool.free : Int) ≤ 1024 := by
          have := H3.out.pool.len
          have h2 : S.pool.free ≤ S.pool.l.length := List.countP_le_length
          omega
        clear hok ok kn
        have HW := Lib.hid (show Calls Try.prog 41 #[shelves cm3 bp3 bk3 bl3] w3 (Gives (.int .i64 ((S.pool.free : Int))) w3) from by first | exact sh_free ⟨own3, w3⟩ (100 + 1) cm3 bp3 bk3 bl3 _ H3.out.pool | exact rfl ▸ sh_free ⟨own3, w3⟩ (100 + 1) cm3 bp3 bk3 bl3 _ H3.out.pool)
        unfold shelves at HW
        have a0 := H3.out.blk.cell (i := 0) rfl
        have a1 := H3.out.blk.cell (i := 1) rfl
        have a2 := H3.out.blk.cell (i := 2) rfl
        have a3 := H3.out.blk.cell (i := 3) rfl
        have a4 := H3.out.blk.cell (i := 4) rfl
        have a5 := H3.out.blk.cell (i := 5) rfl
        have a6 := H3.out.blk.cell (i := 6) rfl
        have a7 := H3.out.blk.cell (i := 7) rfl
        have a8 := H3.out.blk.cell (i := 8) rfl
        have a9 := H3.out.blk.cell (i := 9) rfl
        have a10 := H3.out.blk.cell (i := 10) rfl
        have a11 := H3.out.blk.cell (i := 11) rfl
        have a12 := H3.out.blk.cell (i := 12) rfl
        have a13 := H3.out.blk.cell (i := 13) rfl
        have a14 := H3.out.blk.cell (i := 14) rfl
        have a15 := H3.out.blk.cell (i := 15) rfl
        have al := H3.out.blk.lt
        (try simp only [GW.to] at a0 a1 a2 a3 a4 a5 a6 a7 a8 a9 a10 a11 a12 a13 a14 a15 al)
        go_wp2_with fail
        refine HW.out.mono ?_
        rintro e w4 ⟨rfl, hX⟩
        obtain ⟨own4, m4⟩ := Mod.ofExt (show Ext w3 w4 from hX) own3
        have M4 := Lib.hid (M3.out.trans (m4.mono (fun x hx => hx.elim)))
        have H4 := Lib.hid (H3.out.keep m4 (fun x hx => hx.elim))
        clear m4 hX HW a0 a1 a2 a3 a4 a5 a6 a7 a8 a9 a10 a11 a12 a13 a14 a15 al
        have HASK := Lib.hid (space_ask 0 frags 0 true ⟨own4, w4⟩ 100 b bt S ⟨_, _, _, _, _, _, _, H4.out⟩ (by omega) ⟨OK.out.count.1, by have := OK.out.count.2; omega⟩ (by have := OK.out.line; omega) (by omega) (by omega))
        have K1 := Lib.hid OK.out.c1
        have K2 := Lib.hid OK.out.c2
        have K0 := Lib.hid OK.out.c0
        have KF := Lib.hid OK.out.fr
        have KG1 := Lib.hid OK.out.one
        have KG2 := Lib.hid OK.out.got
        have KG3 := Lib.hid OK.out.at_
        have KNS := Lib.hid (show stockN cache frags S s = if frags ≤ s then s - frags else s + min (cache - s) (S.pool.free - frags) from rfl)
        generalize ask S 0 frags 0 true = rr at *
        obtain ⟨⟨gst, got, gat⟩, S5⟩ := rr
        have hg1 := KG1.out
        have hg2 := KG2.out
        have hg3 := KG3.out
        simp only at hg1 hg2 hg3 K1 K2 K0 KF KN
        subst hg1 hg3
        have HGL := Lib.hid hg2
        generalize stockN cache frags S s = ns at *
        have hns0 := K1.out
        have hns1 := K0.out
        have hns : 0 ≤ ns ∧ ns ≤ 60 := by omega
        clear hns0 hns1 hg2 OK KG1 KG2 KG3
        obtain ⟨hns0, hns1⟩ := hns
        generalize S.pool.free = fr at *
        go_wp2_with fail
        refine HASK.out.mono ?_
        rintro e w5 ⟨v, own5, rfl, m5, g5, h5⟩
        obtain ⟨A5, c5, rfl, r5⟩ := g5
        have M5 := Lib.hid (M4.out.trans m5)
        obtain ⟨bp5, bk5, bl5, As5, cs5, cm5, bs5, h5⟩ := h5
        have H5 := Lib.hid h5
        clear m5 h5 r5 HASK M3 H3 M4 H4
        have hgl := HGL.out
        simp only at hgl ⊢
        generalize got.length = gn at *
        subst hgl
        obtain ⟨own6, m6⟩ := Mod.ofExt (show Ext w5 (w5.alloc (.cells #[.int .i64 1, .slice A5 gn c5, .int .i64 (-1)] 113)) by (repeat (first | (with_reducible assumption) | (with_reducible exact Ext.refl _) | (with_reducible exact Ext.more _ _ _ _) | apply Ext.alloc | refine Ext.setCell ?_ (by first | exact Nat.le_refl _ | exact Nat.le_add_right _ _ | assumption) _ | apply Ext.patch | apply Ext.drew | apply Ext.drewN))) own5
        have M6 := Lib.hid (M5.out.trans (m6.mono (fun x hx => hx.elim)))
        have H6 := Lib.hid (H5.out.keep m6 (fun x hx => hx.elim))
        clear m6
        by_cases hle : (gn : Int) ≤ s
        · have hns2 : ns = s - gn := by rw [KNS.out, if_pos hle]
          subst hns2
          have HFR := Lib.hid (show (S5.pool.free : Int) = fr by rw [KF.out, if_pos hle])
          clear KF KNS
          have HW := Lib.hid (show Calls Try.prog 41 #[shelves cm5 bp5 bk5 bl5] (w5.alloc (.cells #[.int .i64 1, .slice A5 gn c5, .int .i64 (-1)] 113)) (Gives (.int .i64 ((fr : Int))) _) from HFR.out ▸ sh_free ⟨own6, _⟩ (100 + 1) cm5 bp5 bk5 bl5 _ H6.out.pool)
          unfold shelves at HW
          have a0 := H5.out.blk.cell (i := 0) rfl
          have a1 := H5.out.blk.cell (i := 1) rfl
          have a2 := H5.out.blk.cell (i := 2) rfl
          have a3 := H5.out.blk.cell (i := 3) rfl
          have a4 := H5.out.blk.cell (i := 4) rfl
          have a5 := H5.out.blk.cell (i := 5) rfl
          have a6 := H5.out.blk.cell (i := 6) rfl
          have a7 := H5.out.blk.cell (i := 7) rfl
          have a8 := H5.out.blk.cell (i := 8) rfl
          have a9 := H5.out.blk.cell (i := 9) rfl
          have a10 := H5.out.blk.cell (i := 10) rfl
          have a11 := H5.out.blk.cell (i := 11) rfl
          have a12 := H5.out.blk.cell (i := 12) rfl
          have a13 := H5.out.blk.cell (i := 13) rfl
          have a14 := H5.out.blk.cell (i := 14) rfl
          have a15 := H5.out.blk.cell (i := 15) rfl
          have al := H5.out.blk.lt
          (try simp only [GW.to] at a0 a1 a2 a3 a4 a5 a6 a7 a8 a9 a10 a11 a12 a13 a14 a15 al)
          go_wp2_with fail
          refine HW.out.mono ?_
          rintro e w7 ⟨rfl, hX⟩
          obtain ⟨own7, m7⟩ := Mod.ofExt (show Ext (w5.alloc (.cells #[.int .i64 1, .slice A5 gn c5, .int .i64 (-1)] 113)) w7 from hX) own6
          have M7 := Lib.hid (M6.out.trans (m7.mono (fun x hx => hx.elim)))
          have H7 := Lib.hid (H6.out.keep m7 (fun x hx => hx.elim))
          have HC := Lib.hid (show Calls Try.prog 40 #[.pointer (some ⟨bt, 0, none⟩)] w7 (Gives (.tuple #[.int .i64 (60 - (s - (gn : Int)) - (u + gn)), .int .i64 (s - (gn : Int)), .int .i64 (u + gn)]) w7) from by
            have := tab_counts ⟨own7, w7⟩ (100 + 50) bt _ H7.out.tab
            rw [K0.out, K1.out, K2.out] at this
            exact this)
          clear m7 hX HW a0 a1 a2 a3 a4 a5 a6 a7 a8 a9 a10 a11 a12 a13 a14 a15 al M5 H5 M6 H6
          go_wp2_with fail
          refine HC.out.mono ?_
          rintro e w8 ⟨rfl, hX⟩
          obtain ⟨own8, m8⟩ := Mod.ofExt (show Ext w7 w8 from hX) own7
          have M8 := Lib.hid (M7.out.trans (m8.mono (fun x hx => hx.elim)))
          have H8 := Lib.hid (H7.out.keep m8 (fun x hx => hx.elim))
          clear m8 hX HC M7 H7
          go_wp2_with fail
          go_roundw
          case rel => exact ⟨k + 1, _, _, u + gn, own8, by omega, by rw [show 8 - (k + 1) = m by omega]; exact KN.out, ⟨by omega, by omega⟩, rfl, rfl, by go_num, M8, Lib.hid ⟨_, _, _, _, _, _, _, H8.out⟩⟩
          case measure => simp [intOf]; omega
        · by_cases hmn : (fr : Int) - gn < cache - s
          · have hm2 : min (cache - s) ((fr : Int) - gn) = fr - gn := by omega
            have hns2 : ns = s + (fr - gn) := by rw [KNS.out, if_neg hle, hm2]
            subst hns2
            have HFR := Lib.hid (show (S5.pool.free : Int) = fr - gn - (fr - gn) by rw [KF.out, if_neg hle, hm2])
            clear KF KNS hm2
            have HW := Lib.hid (show Calls Try.prog 41 #[shelves cm5 bp5 bk5 bl5] (w5.alloc (.cells #[.int .i64 1, .slice A5 gn c5, .int .i64 (-1)] 113)) (Gives (.int .i64 ((fr : Int) - gn - (fr - gn))) _) from HFR.out ▸ sh_free ⟨own6, _⟩ (100 + 1) cm5 bp5 bk5 bl5 _ H6.out.pool)
            unfold shelves at HW
            have a0 := H5.out.blk.cell (i := 0) rfl
            have a1 := H5.out.blk.cell (i := 1) rfl
            have a2 := H5.out.blk.cell (i := 2) rfl
            have a3 := H5.out.blk.cell (i := 3) rfl
            have a4 := H5.out.blk.cell (i := 4) rfl
            have a5 := H5.out.blk.cell (i := 5) rfl
            have a6 := H5.out.blk.cell (i := 6) rfl
            have a7 := H5.out.blk.cell (i := 7) rfl
            have a8 := H5.out.blk.cell (i := 8) rfl
            have a9 := H5.out.blk.cell (i := 9) rfl
            have a10 := H5.out.blk.cell (i := 10) rfl
            have a11 := H5.out.blk.cell (i := 11) rfl
            have a12 := H5.out.blk.cell (i := 12) rfl
            have a13 := H5.out.blk.cell (i := 13) rfl
            have a14 := H5.out.blk.cell (i := 14) rfl
            have a15 := H5.out.blk.cell (i := 15) rfl
            have al := H5.out.blk.lt
            (try simp only [GW.to] at a0 a1 a2 a3 a4 a5 a6 a7 a8 a9 a10 a11 a12 a13 a14 a15 al)
            go_wp2_with fail
            refine HW.out.mono ?_
            rintro e w7 ⟨rfl, hX⟩
            obtain ⟨own7, m7⟩ := Mod.ofExt (show Ext (w5.alloc (.cells #[.int .i64 1, .slice A5 gn c5, .int .i64 (-1)] 113)) w7 from hX) own6
            have M7 := Lib.hid (M6.out.trans (m7.mono (fun x hx => hx.elim)))
            have H7 := Lib.hid (H6.out.keep m7 (fun x hx => hx.elim))
            have HC := Lib.hid (show Calls Try.prog 40 #[.pointer (some ⟨bt, 0, none⟩)] w7 (Gives (.tuple #[.int .i64 (60 - (s + ((fr : Int) - gn)) - (u + gn)), .int .i64 (s + ((fr : Int) - gn)), .int .i64 (u + gn)]) w7) from by
              have := tab_counts ⟨own7, w7⟩ (100 + 50) bt _ H7.out.tab
              rw [K0.out, K1.out, K2.out] at this
              exact this)
            clear m7 hX HW a0 a1 a2 a3 a4 a5 a6 a7 a8 a9 a10 a11 a12 a13 a14 a15 al M5 H5 M6 H6
            go_wp2_with fail
            refine HC.out.mono ?_
            rintro e w8 ⟨rfl, hX⟩
            obtain ⟨own8, m8⟩ := Mod.ofExt (show Ext w7 w8 from hX) own7
            have M8 := Lib.hid (M7.out.trans (m8.mono (fun x hx => hx.elim)))
            have H8 := Lib.hid (H7.out.keep m8 (fun x hx => hx.elim))
            clear m8 hX HC M7 H7
            go_wp2_with fail
            go_roundw
            case rel => exact ⟨k + 1, _, _, u + gn, own8, by omega, by rw [show 8 - (k + 1) = m by omega]; exact KN.out, ⟨by omega, by omega⟩, rfl, rfl, by go_num, M8, Lib.hid ⟨_, _, _, _, _, _, _, H8.out⟩⟩
            case measure => simp [intOf]; omega
          · have hm2 : min (cache - s) ((fr : Int) - gn) = cache - s := by omega
            have hns2 : ns = s + (cache - s) := by rw [KNS.out, if_neg hle, hm2]
            subst hns2
            have HFR := Lib.hid (show (S5.pool.free : Int) = fr - gn - (cache - s) by rw [KF.out, if_neg hle, hm2])
            clear KF KNS hm2
            have HW := Lib.hid (show Calls Try.prog 41 #[shelves cm5 bp5 bk5 bl5] (w5.alloc (.cells #[.int .i64 1, .slice A5 gn c5, .int .i64 (-1)] 113)) (Gives (.int .i64 ((fr : Int) - gn - (cache - s))) _) from HFR.out ▸ sh_free ⟨own6, _⟩ (100 + 1) cm5 bp5 bk5 bl5 _ H6.out.pool)
            unfold shelves at HW
            have a0 := H5.out.blk.cell (i := 0) rfl
            have a1 := H5.out.blk.cell (i := 1) rfl
            have a2 := H5.out.blk.cell (i := 2) rfl
            have a3 := H5.out.blk.cell (i := 3) rfl
            have a4 := H5.out.blk.cell (i := 4) rfl
            have a5 := H5.out.blk.cell (i := 5) rfl
            have a6 := H5.out.blk.cell (i := 6) rfl
            have a7 := H5.out.blk.cell (i := 7) rfl
            have a8 := H5.out.blk.cell (i := 8) rfl
            have a9 := H5.out.blk.cell (i := 9) rfl
            have a10 := H5.out.blk.cell (i := 10) rfl
            have a11 := H5.out.blk.cell (i := 11) rfl
            have a12 := H5.out.blk.cell (i := 12) rfl
            have a13 := H5.out.blk.cell (i := 13) rfl
            have a14 := H5.out.blk.cell (i := 14) rfl
            have a15 := H5.out.blk.cell (i := 15) rfl
            have al := H5.out.blk.lt
            (try simp only [GW.to] at a0 a1 a2 a3 a4 a5 a6 a7 a8 a9 a10 a11 a12 a13 a14 a15 al)
            go_wp2_with fail
            refine HW.out.mono ?_
            rintro e w7 ⟨rfl, hX⟩
            obtain ⟨own7, m7⟩ := Mod.ofExt (show Ext (w5.alloc (.cells #[.int .i64 1, .slice A5 gn c5, .int .i64 (-1)] 113)) w7 from hX) own6
            have M7 := Lib.hid (M6.out.trans (m7.mono (fun x hx => hx.elim)))
            have H7 := Lib.hid (H6.out.keep m7 (fun x hx => hx.elim))
            have HC := Lib.hid (show Calls Try.prog 40 #[.pointer (some ⟨bt, 0, none⟩)] w7 (Gives (.tuple #[.int .i64 (60 - (s + (cache - s)) - (u + gn)), .int .i64 (s + (cache - s)), .int .i64 (u + gn)]) w7) from by
              have := tab_counts ⟨own7, w7⟩ (100 + 50) bt _ H7.out.tab
              rw [K0.out, K1.out, K2.out] at this
              exact this)
            clear m7 hX HW a0 a1 a2 a3 a4 a5 a6 a7 a8 a9 a10 a11 a12 a13 a14 a15 al M5 H5 M6 H6
            go_wp2_with fail
            refine HC.out.mono ?_
            rintro e w8 ⟨rfl, hX⟩
            obtain ⟨own8, m8⟩ := Mod.ofExt (show Ext w7 w8 from hX) own7
            have M8 := Lib.hid (M7.out.trans (m8.mono (fun x hx => hx.elim)))
            have H8 := Lib.hid (H7.out.keep m8 (fun x hx => hx.elim))
            clear m8 hX HC M7 H7
            go_wp2_with fail
            go_roundw
            case rel => exact ⟨k + 1, _, _, u + gn, own8, by omega, by rw [show 8 - (k + 1) = m by omega]; exact KN.out, ⟨by omega, by omega⟩, rfl, rfl, by go_num, M8, Lib.hid ⟨_, _, _, _, _, _, _, H8.out⟩⟩
            case measure => simp [intOf]; omega
      · obtain rfl : k = 8 := by omega
        clear hlt hk
        rw [show ((8 : Nat) : Int) = 8 from rfl]
        have EK := Lib.hid (endOk_of (show endOk S s u = true from hok))
        clear hok
        have HD := Lib.hid (show Calls Try.prog 61 #[.pointer (some ⟨b, 0, none⟩), .int .i64 0] w3 (Does (.int .i64 s) ⟨own3, w3⟩ (inst 100) (fun g' => SpaceAt g' 100 b bt (drainS S 0))) from by
          have := space_drain 0 ⟨own3, w3⟩ 100 b bt S ⟨_, _, _, _, _, _, _, H3.out⟩ (by omega) ⟨EK.out.count.1, by have := EK.out.count.2; omega⟩
          rw [EK.out.n] at this
          exact this)
        go_wp2_with fail
        refine HD.out.mono ?_
        rintro e w4 ⟨rfl, own4, m4, h4⟩
        have M4 := Lib.hid (M3.out.trans m4)
        obtain ⟨bp4, bk4, bl4, As4, cs4, cm4, bs4, h4⟩ := h4
        have H4 := Lib.hid h4
        have HC := Lib.hid (show Calls Try.prog 40 #[.pointer (some ⟨bt, 0, none⟩)] w4 (Gives (.tuple #[.int .i64 ((drainS S 0).tab.cnt 0), .int .i64 0, .int .i64 ((drainS S 0).tab.cnt 2)]) w4) from by
          have := tab_counts ⟨own4, w4⟩ (100 + 50) bt _ H4.out.tab
          rw [EK.out.c1] at this
          exact this)
        clear m4 h4 HD M3 H3
        go_wp2_with fail
        refine HC.out.mono ?_
        rintro e w5 ⟨rfl, hX⟩
        have X5 := Lib.hid (show Ext w4 w5 from hX)
        clear hX HC
        go_wp2_with fail
        refine (HF.out _).mono ?_
        rintro e w6 ⟨rfl, hX⟩
        obtain ⟨own6, m6⟩ := Mod.ofExt (X5.out.trans (show Ext w5 w6 from hX)) own4
        have M6 := Lib.hid (M4.out.trans (m6.mono (fun x hx => hx.elim)))
        have H6 := Lib.hid (H4.out.keep m6 (fun x hx => hx.elim))
        have HD := Lib.hid (show Calls Try.prog 61 #[.pointer (some ⟨b, 0, none⟩), .int .i64 0] w6 (Does (.int .i64 0) ⟨own6, w6⟩ (inst 100) (fun g' => SpaceAt g' 100 b bt (drainS (drainS S 0) 0))) from by
          have := space_drain 0 ⟨own6, w6⟩ 100 b bt _ ⟨_, _, _, _, _, _, _, H6.out⟩ (by omega) ⟨EK.out.count2.1, by have := EK.out.count2.2; omega⟩
          rw [EK.out.n2] at this
          exact this)
        clear m6 hX M4 H4 X5
        go_wp2_with fail
        refine HD.out.mono ?_
        rintro e w7 ⟨rfl, own7, m7, h7⟩
        have M7 := Lib.hid (M6.out.trans m7)
        obtain ⟨bp7, bk7, bl7, As7, cs7, cm7, bs7, h7⟩ := h7
        have H7 := Lib.hid h7
        have HFR := Lib.hid EK.out.fr
        clear m7 h7 HD M6 H6
        have HW := Lib.hid (show Calls Try.prog 41 #[shelves cm7 bp7 bk7 bl7] w7 (Gives (.int .i64 (60 - u)) w7) from by first | exact sh_free ⟨own7, w7⟩ (100 + 1) cm7 bp7 bk7 bl7 _ H7.out.pool | exact HFR.out ▸ sh_free ⟨own7, w7⟩ (100 + 1) cm7 bp7 bk7 bl7 _ H7.out.pool)
        unfold shelves at HW
        have a0 := H7.out.blk.cell (i := 0) rfl
        have a1 := H7.out.blk.cell (i := 1) rfl
        have a2 := H7.out.blk.cell (i := 2) rfl
        have a3 := H7.out.blk.cell (i := 3) rfl
        have a4 := H7.out.blk.cell (i := 4) rfl
        have a5 := H7.out.blk.cell (i := 5) rfl
        have a6 := H7.out.blk.cell (i := 6) rfl
        have a7 := H7.out.blk.cell (i := 7) rfl
        have a8 := H7.out.blk.cell (i := 8) rfl
        have a9 := H7.out.blk.cell (i := 9) rfl
        have a10 := H7.out.blk.cell (i := 10) rfl
        have a11 := H7.out.blk.cell (i := 11) rfl
        have a12 := H7.out.blk.cell (i := 12) rfl
        have a13 := H7.out.blk.cell (i := 13) rfl
        have a14 := H7.out.blk.cell (i := 14) rfl
        have a15 := H7.out.blk.cell (i := 15) rfl
        have al := H7.out.blk.lt
        (try simp only [GW.to] at a0 a1 a2 a3 a4 a5 a6 a7 a8 a9 a10 a11 a12 a13 a14 a15 al)
        go_wp2_with fail
        refine HW.out.mono ?_
        rintro e w8 ⟨rfl, hX⟩
        obtain ⟨own8, m8⟩ := Mod.ofExt (show Ext w7 w8 from hX) own7
        have M8 := Lib.hid (M7.out.trans (m8.mono (fun x hx => hx.elim)))
        have H8 := Lib.hid (H7.out.keep m8 (fun x hx => hx.elim))
        clear m8 hX HW a0 a1 a2 a3 a4 a5 a6 a7 a8 a9 a10 a11 a12 a13 a14 a15 al
        go_wp2_with fail
        go_ret
        exact Gives.bool rfl (E1.out.trans (M8.out.none (fun k _ hk => by simp [inst] at hk)).toExt)
end Go.Proofs.Ytlddahifhefjiaa
