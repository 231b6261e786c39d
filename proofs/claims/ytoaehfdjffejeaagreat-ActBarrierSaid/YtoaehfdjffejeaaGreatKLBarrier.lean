import Derived.Test.YtoaehfdjffejeaaGreatKL28
open Go.Ext renaming alloc → zA, patch → zP, drew → zD, drewN → zN, more → zM, refl → zR, setCell → zS
open Nat renaming le_refl → zL, le_add_right → zK
/-
  ActBarrier: word, traced, the walk.
-/
namespace Go.Proofs.YtoaehfdjffejeaaGreat
open Go Go.RowKit
set_option linter.unusedVariables false
set_option linter.unnecessarySimpa false
set_option linter.unusedSimpArgs false
set_option maxHeartbeats 40000000
set_option maxRecDepth 100000
theorem word23 (i : Int) (hi : 0 ≤ i ∧ i ≤ 100) (w : World) : Calls Tryz.prog 16 #[.complex .f64 (floatOfInt .f64 (i + 1)) 4607182418800017408] w (fun e w' => e = .returned (.tuple #[.int .i64 i, .bool true]) ∧ w = w') := by
  have hcv : ∀ w, (convert 87 3 (.float .f64 (floatOfInt .f64 (i + 1)))).run Tryz.prog w = .ok (.int .i64 (i + 1)) w := fun w => run_convert_float_int w _ _ _ _ _ (i + 1) (by kernel_rfl) (by kernel_rfl) (floatToInt_fits ⟨by omega, by omega⟩)
  generalize floatOfInt .f64 (i + 1) = P at *
  obtain ⟨h0, h1⟩ := hi
  have e1 := IntWalk.i64_in (i + 1 - 1) (by omega)
  go_enter Tryz.func16, Tryz.ntmps16
  go_wp2_with fail
  exact bodyPost_ret (v := .tuple #[.int .i64 i, .bool true]) (by simp [results, Tryz.results16, go_sem]) rfl ⟨rfl, rfl⟩
theorem barPre_step (k i : Nat) (W V : AcW) (h : barPre (k + 1) i W = some V) : ∃ x : AcR, W.untilR 60 = some x ∧ x.1.2 = true ∧ x.1.1.e = 0 ∧ (3 ≤ i ∨ x.1.1.v.z = zRef (39 - i)) ∧ barPre k (i + 1) x.2 = some V := by
  unfold barPre at h
  cases hs : W.untilR 60 with
  | none => rw [hs] at h; cases h
  | some x =>
    rw [hs] at h
    simp only at h
    split at h
    case isFalse => cases h
    case isTrue hc =>
      simp only [Bool.and_eq_true, Bool.or_eq_true, beq_iff_eq, decide_eq_true_eq] at hc
      exact ⟨x, rfl, hc.1, hc.2.1, hc.2.2, h⟩
theorem barStages_step (k : Nat) (s : Int) (W V : AcW) (h : barStages (k + 1) s W = some V) : ∃ U : AcW, (if decide (1 < s) then W.postR s false else some W) = some U ∧ ((s = 3 ∧ V = U) ∨ (s ≠ 3 ∧ ∃ X : AcW, AcW.awaitR 6 s U = some X ∧ X.a.status = s ∧ barStages k (s + 1) X = some V)) := by
  unfold barStages at h
  cases h1 : (if decide (1 < s) then W.postR s false else some W) with
  | none => rw [h1] at h; cases h
  | some U =>
    rw [h1] at h
    simp only at h
    by_cases h3 : s = 3
    · rw [if_pos (beq_iff_eq.2 h3)] at h
      injection h with h
      exact ⟨U, rfl, Or.inl ⟨h3, h.symm⟩⟩
    · rw [if_neg (by simpa using h3)] at h
      cases h2 : AcW.awaitR 6 s U with
      | none => rw [h2] at h; cases h
      | some X =>
        rw [h2] at h
        simp only at h
        split at h
        case isFalse => cases h
        case isTrue hc => exact ⟨U, rfl, Or.inr ⟨h3, X, h2, beq_iff_eq.1 hc, h⟩⟩
theorem bar_end (A A1 A2 : Option Addr) (m : Nat) (hm : m < 5) : ∃ V1 V2 U : AcW, barPre 5 0 (pairW A A1 A2 barOps) = some V1 ∧ (if decide (0 < (m : Int)) then V1.postR 1 true else some V1) = some V2 ∧ barStages m 1 V2 = some U ∧ (if decide (3 ≤ (m : Int)) then barHigh m U else barLow m U) = true := by
  have h := bar_all A A1 A2 m hm
  unfold barAll barMid at h
  cases h1 : barPre 5 0 (pairW A A1 A2 barOps) with
  | none => rw [h1] at h; cases h
  | some V1 =>
    rw [h1] at h
    simp only at h
    cases h2 : (if decide (0 < (m : Int)) then V1.postR 1 true else some V1) with
    | none => rw [h2] at h; cases h
    | some V2 =>
      rw [h2] at h
      simp only [Int.toNat_natCast] at h
      cases h3 : barStages m 1 V2 with
      | none => rw [h3] at h; cases h
      | some U => rw [h3] at h; exact ⟨V1, V2, U, rfl, h2, h3, h⟩
theorem barLow_end (s : Int) (W : AcW) (h : barLow s W = true) : ∃ x : AcR, W.untilR 20 = some x ∧ x.1.2 = true ∧ x.1.1.e = 0 ∧ blk x.2 38 = (s == 1 || s == 2) ∧ blk x.2 37 = (s == 1 || s == 2) ∧ blk x.2 39 = false := by
  unfold barLow at h
  cases h1 : W.untilR 20 with
  | none => rw [h1] at h; cases h
  | some x =>
    rw [h1] at h
    simp only [Bool.and_eq_true, beq_iff_eq, Bool.not_eq_true'] at h
    obtain ⟨a, b, c, d, e⟩ := h
    exact ⟨x, rfl, a, b, c, d, e⟩
theorem barHigh_end (s : Int) (W : AcW) (h : barHigh s W = true) : ∃ (V U : AcW) (x : AcR), AcW.awaitR 9 3 W = some V ∧ V.a.status = 3 ∧ blk V 39 = true ∧ blk V 38 = false ∧ blk V 37 = true ∧ ((s = 4 ∧ ∃ Y : AcW, V.postR 4 false = some Y ∧ AcW.awaitR 6 4 Y = some U) ∨ (s ≠ 4 ∧ U = V)) ∧ U.untilR 20 = some x ∧ x.1.2 = true ∧ x.1.1.e = 0 ∧ blk x.2 38 = (s == 3) ∧ x.2.a.status = s := by
  unfold barHigh barTr at h
  cases h1 : AcW.awaitR 9 3 W with
  | none => rw [h1] at h; cases h
  | some V =>
    rw [h1] at h
    simp only at h
    by_cases hc : (V.a.status == 3 && (blk V 39 && (!blk V 38 && blk V 37))) = true
    · rw [if_pos hc] at h
      simp only [Bool.and_eq_true, beq_iff_eq, Bool.not_eq_true'] at hc
      obtain ⟨c1, c2, c3, c4⟩ := hc
      by_cases h4 : s = 4
      · rw [if_pos (beq_iff_eq.2 h4)] at h
        cases h5 : V.postR 4 false with
        | none => rw [h5] at h; cases h
        | some Y =>
          rw [h5] at h
          simp only at h
          cases h6 : AcW.awaitR 6 4 Y with
          | none => rw [h6] at h; cases h
          | some U =>
            rw [h6] at h
            simp only at h
            cases h7 : U.untilR 20 with
            | none => rw [h7] at h; cases h
            | some x =>
              rw [h7] at h
              simp only [Bool.and_eq_true, beq_iff_eq] at h
              obtain ⟨a, b, c, d⟩ := h
              exact ⟨V, U, x, rfl, c1, c2, c3, c4, Or.inl ⟨h4, Y, h5, h6⟩, h7, a, b, c, d⟩
      · rw [if_neg (by simpa using h4)] at h
        simp only at h
        cases h7 : V.untilR 20 with
        | none => rw [h7] at h; cases h
        | some x =>
          rw [h7] at h
          simp only [Bool.and_eq_true, beq_iff_eq] at h
          obtain ⟨a, b, c, d⟩ := h
          exact ⟨V, V, x, rfl, c1, c2, c3, c4, Or.inr ⟨h4, rfl⟩, h7, a, b, c, d⟩
    · rw [if_neg hc] at h
      cases h
theorem traced_any [TbId] (w0 : World) (g : GW) (b k : Nat) (W : AcW) (S : Sit w0 g b k W) (A : Option Addr) (cap : Nat) (R : Row g 9 3 1 (.slice A 3 cap) 3 [.int .i64 39, .int .i64 38, .int .i64 37]) (s : Int) (hs : s = 3 ∨ s = 4) (h : barHigh s W = true) :
    Calls Tryz.prog 19 #[.pointer (some ⟨k, 0, none⟩), .pointer (some ⟨b, 0, none⟩), .slice A 3 cap, .int .i64 s] g.w (fun e w' => e = .returned (.bool true) ∧ Ext w0 w') := by
  have HF := Lib.hid (fun w => first23_any w)
  obtain ⟨V, U, ⟨⟨⟨xo, xw, xe, ⟨xf, xz⟩⟩, xb⟩, xW⟩, haw, hvs, hv39, hv38, hv37, hcs0, hun, hxb, hxe, hb38, hxs⟩ := barHigh_end s W h
  simp only at hxb hxe hb38 hxs
  subst hxb hxe
  have hcs : (s = 4 ∧ ∃ Y : AcW, V.postR 4 false = some Y ∧ AcW.awaitR 6 4 Y = some U) ∨ (s = 3 ∧ U = V) := by
    rcases hcs0 with h | ⟨h1, h2⟩
    · exact Or.inl h
    · exact Or.inr ⟨by omega, h2⟩
  have HA6 := Lib.hid haw
  have S6 := Lib.hid S
  have R6 := Lib.hid R
  obtain ⟨own6, w6⟩ := g
  clear S R h hs haw hcs0
  go_enter Tryz.func19, Tryz.ntmps19
  go_wp2_with fail
  go_loopw [9] (fun i wr => ∃ (q : Nat) (own : Nat → Nat) (Vq : AcW), q ≤ 9 ∧ i = .int .i64 q ∧ Hid (Sit w0 ⟨own, wr⟩ b k Vq) ∧ Hid (Row ⟨own, wr⟩ 9 3 1 (.slice A 3 cap) 3 [.int .i64 39, .int .i64 38, .int .i64 37]) ∧ Hid (AcW.awaitR (9 - q) 3 Vq = some V)) (fun i _ => 9 - (intOf i).toNat)
  case atStart => exact ⟨0, own6, W, by decide, rfl, S6, R6, HA6⟩
  case round =>
    clear S6 R6 HA6 own6
    obtain ⟨q, own7, V7, hq, rfl, S7, R7, HA7⟩ := hrel
    obtain ⟨w7, rfl⟩ : ∃ w7 : World, w7 = wr := ⟨_, rfl⟩
    by_cases hlt : q < 9
    · have hlt' : (q : Int) < 9 := by omega
      have HST := Lib.hid (sit_status S7.out)
      simp only at HST
      by_cases hs : V7.a.status = 3
      · have he := awaitR_exit _ _ _ _ HA7.out (Or.inr hs)
        subst he
        rw [hs] at HST
        clear HA7 hs
        go_wp2_with fail
        refine HST.out.mono ?_
        rintro e w' ⟨rfl, rfl⟩
        obtain ⟨bs8, bh8, c10, c12, ck, s0, sl, hps, -⟩ := sit_core S7.out
        have HTB := Lib.hid (fun w => shade_table TbId.tb w)
        simp only at c10 c12 ck s0 sl
        go_wp2_with fail
        refine (HTB.out _).mono ?_
        rintro e w8 ⟨rfl, hX⟩
        obtain ⟨own8, m8⟩ := Mod.ofExt (show Ext w7 w8 from hX) own7
        have S8 := Lib.hid (S7.out.keep m8)
        have R8 := Lib.hid (R7.out.keep m8 id)
        clear m8 hX S7 R7 HTB c10 c12 ck s0 sl hps
        obtain ⟨qh, hAh, hqh, -, hcell, -⟩ := R8.out.block (by decide)
        have hd0 := hcell 0 (.int .i64 39) rfl
        have hd1 := hcell 1 (.int .i64 38) rfl
        have hd2 := hcell 2 (.int .i64 37) rfl
        simp only at hqh
        have HST := Lib.hid (show Calls Tryz.prog 18 #[.pointer (some ⟨b, 0, none⟩)] w8 (fun e w' => e = .returned (.int .i64 3) ∧ w8 = w') from by have h := sit_status S8.out; rw [hvs] at h; exact h)
        have HB0 := Lib.hid (show Calls Tryz.prog 20 #[.pointer (some ⟨TbId.tb, 0, none⟩), .int .i64 39, .bool true] w8 (fun e w' => e = .returned (.bool true) ∧ w8 = w') from by have h := sit_black S8.out 39 true; rw [show (V).K.sp.tab.black 39 true = true from hv39] at h; exact h)
        have HB1 := Lib.hid (show Calls Tryz.prog 20 #[.pointer (some ⟨TbId.tb, 0, none⟩), .int .i64 38, .bool true] w8 (fun e w' => e = .returned (.bool false) ∧ w8 = w') from by have h := sit_black S8.out 38 true; rw [show (V).K.sp.tab.black 38 true = false from hv38] at h; exact h)
        have HB2 := Lib.hid (show Calls Tryz.prog 20 #[.pointer (some ⟨TbId.tb, 0, none⟩), .int .i64 37, .bool true] w8 (fun e w' => e = .returned (.bool true) ∧ w8 = w') from by have h := sit_black S8.out 37 true; rw [show (V).K.sp.tab.black 37 true = true from hv37] at h; exact h)
        subst hAh
        clear hcell
        go_wp2_with fail
        refine HST.out.mono ?_
        rintro e w' ⟨rfl, rfl⟩
        go_wp2_with fail
        refine HB0.out.mono ?_
        rintro e w' ⟨rfl, rfl⟩
        go_wp2_with fail
        refine HB1.out.mono ?_
        rintro e w' ⟨rfl, rfl⟩
        go_wp2_with fail
        refine HB2.out.mono ?_
        rintro e w' ⟨rfl, rfl⟩
        clear HST HB0 HB1 HB2 hd0 hd1 hd2 hqh
        rcases hcs with ⟨rfl, Y, hpo, haw⟩ | ⟨rfl, hUV⟩
        · obtain ⟨hco, hY⟩ := postR_some hpo
          subst hY
          obtain ⟨bs9, bh9, c10, c12, ck, s0, sl, hps, -⟩ := sit_core S8.out
          have HPS := Lib.hid (show Calls Tryz.prog 17 #[.pointer (some ⟨bh9, 0, none⟩), .int .i64 4, .bool false] w8 (Does (.bool (HandS.knownB 4)) ⟨own8, w8⟩ (acT 500 100) (fun g' => Sit w0 g' b k (AcW.post V 4 false))) from hps 4 false hco)
          simp only at c10 c12 ck s0 sl
          go_wp2_with fail
          refine HPS.out.mono ?_
          rintro e w6 ⟨rfl, own6, m6, s6⟩
          have S6 := Lib.hid s6
          have R6 := Lib.hid (R8.out.keep m6 (fun h => by unfold acT at h; omega))
          have HA6 := Lib.hid haw
          clear m6 s6 HPS S8 R8 c10 c12 ck s0 sl hps haw hpo hco
          generalize (some ⟨qh, 0, none⟩ : Option Addr) = A at *
          generalize AcW.post V 4 false = Y6 at *
          go_wp2_with fail
          go_loopw [11] (fun i wr => ∃ (q : Nat) (own : Nat → Nat) (Vq : AcW), q ≤ 6 ∧ i = .int .i64 q ∧ Hid (Sit w0 ⟨own, wr⟩ b k Vq) ∧ Hid (Row ⟨own, wr⟩ 9 3 1 (.slice A 3 cap) 3 [.int .i64 39, .int .i64 38, .int .i64 37]) ∧ Hid (AcW.awaitR (6 - q) 4 Vq = some U)) (fun i _ => 6 - (intOf i).toNat)
          case atStart => exact ⟨0, own6, Y6, by decide, rfl, S6, R6, HA6⟩
          case round =>
            clear S6 R6 HA6 own6
            obtain ⟨q, own7, V7, hq, rfl, S7, R7, HA7⟩ := hrel
            obtain ⟨w7, rfl⟩ : ∃ w7 : World, w7 = wr := ⟨_, rfl⟩
            by_cases hlt : q < 6
            · have hlt' : (q : Int) < 6 := by omega
              have HST := Lib.hid (sit_status S7.out)
              simp only at HST
              by_cases hs : V7.a.status = 4
              · have he := awaitR_exit _ _ _ _ HA7.out (Or.inr hs)
                subst he
                rw [hs] at HST
                clear HA7 hs
                go_wp2_with fail
                refine HST.out.mono ?_
                rintro e w' ⟨rfl, rfl⟩
                have HUN := Lib.hid (show Calls Tryz.prog 15 #[.pointer (some ⟨b, 0, none⟩), .pointer (some ⟨k, 0, none⟩), .int .i64 20] w7 (Does (.tuple #[.agg #[.int .i64 xo, .int .i64 xw, .int .i64 0, .bool xf, .complex .f64 xz.1 xz.2], .bool true]) ⟨own7, w7⟩ (acT 500 100) (fun g' => Sit w0 g' b k xW)) from sit_until 20 (by decide) w0 ⟨own7, w7⟩ b k _ S7.out _ hun)
                go_wp2_with fail
                refine HUN.out.mono ?_
                rintro e w8 ⟨rfl, own8, m8, s8⟩
                have S8 := Lib.hid s8
                have R8 := Lib.hid (R7.out.keep m8 (fun h => by unfold acT at h; omega))
                clear s8 m8 HUN S7 R7
                go_upto_region 15 with fail
                obtain ⟨own9, m9, B9⟩ := start1 ⟨own8, w8⟩ 36 [.int .i64 xo, .int .i64 xw, .int .i64 0, .bool xf, .complex .f64 xz.1 xz.2]
                have m9' : Mod (fun _ => False) (⟨own8, w8⟩ : GW) ⟨own9, w8.alloc (.cells #[.int .i64 xo, .int .i64 xw, .int .i64 0, .bool xf, .complex .f64 xz.1 xz.2] 36)⟩ := m9
                have B9' := Lib.hid (show Blk ⟨own9, w8.alloc (.cells #[.int .i64 xo, .int .i64 xw, .int .i64 0, .bool xf, .complex .f64 xz.1 xz.2] 36)⟩ 9 w8.heap.size 36 [.int .i64 xo, .int .i64 xw, .int .i64 0, .bool xf, .complex .f64 xz.1 xz.2] from B9)
                have S9 := Lib.hid (S8.out.keep m9')
                have R9 := Lib.hid (R8.out.keep m9' id)
                clear m9 B9 m9' S8 R8
                generalize w8.alloc (.cells #[.int .i64 xo, .int .i64 xw, .int .i64 0, .bool xf, .complex .f64 xz.1 xz.2] 36) = w9 at *
                generalize w8.heap.size = q9 at *
                go_wp2_with fail
                refine (HF.out _).mono ?_
                rintro e w10 ⟨rfl, hX⟩
                obtain ⟨own10, m10⟩ := Mod.ofExt (show Ext w9 w10 from hX) own9
                have S10 := Lib.hid (S9.out.keep m10)
                have R10 := Lib.hid (R9.out.keep m10 id)
                have B10 := Lib.hid (B9'.out.keep m10 id)
                clear m10 hX S9 R9 B9'
                obtain ⟨qh, hAh, hqh, -, hcell, -⟩ := R10.out.block (by decide)
                have hd1 := hcell 1 (.int .i64 38) rfl
                simp only at hqh
                clear hcell
                have HB1 := Lib.hid (show Calls Tryz.prog 20 #[.pointer (some ⟨TbId.tb, 0, none⟩), .int .i64 38, .bool true] w10 (fun e w' => e = .returned (.bool false) ∧ w10 = w') from by have h := sit_black S10.out 38 true; rw [show xW.K.sp.tab.black 38 true = false from hb38] at h; exact h)
                have HST := Lib.hid (show Calls Tryz.prog 18 #[.pointer (some ⟨b, 0, none⟩)] w10 (fun e w' => e = .returned (.int .i64 4) ∧ w10 = w') from by have h := sit_status S10.out; rw [hxs] at h; exact h)
                obtain ⟨z0, z1, z2, z3, z4, zl⟩ := B10.out.c5
                (try simp only [GW.to] at z0 z1 z2 z3 z4 zl)
                subst hAh
                go_wp2_with fail
                refine HB1.out.mono ?_
                rintro e w' ⟨rfl, rfl⟩
                go_wp2_with fail
                refine HST.out.mono ?_
                rintro e w' ⟨rfl, rfl⟩
                go_wp2_with fail
                go_ret
                exact ⟨rfl, S10.out.fin⟩
              · have hz : (V7.a.status != 4) = true := by simp [hs]
                have ha7 := HA7.out
                obtain ⟨y, hy⟩ : ∃ y, 6 - q = y + 1 := ⟨6 - q - 1, by omega⟩
                rw [hy] at ha7
                obtain ⟨x8, hx8, ha8⟩ := awaitR_step _ _ _ _ ha7 hs
                obtain ⟨⟨xr, xb⟩, xW⟩ := x8
                simp only at ha8
                have HSP := Lib.hid (show Calls Tryz.prog 9 #[.pointer (some ⟨b, 0, none⟩), .pointer (some ⟨k, 0, none⟩)] w7 (Does (.tuple #[.agg #[.int .i64 xr.op, .int .i64 xr.own, .int .i64 xr.e, .bool xr.v.ref, .complex .f64 xr.v.z.1 xr.v.z.2], .bool xb]) ⟨own7, w7⟩ (acT 500 100) (fun g' => Sit w0 g' b k xW)) from sit_step S7.out _ hx8)
                generalize V7.a.status = st at *
                clear ha7 HA7 hx8 hs
                go_wp2_with fail
                refine HST.out.mono ?_
                rintro e w' ⟨rfl, rfl⟩
                go_wp2_with fail
                refine HSP.out.mono ?_
                rintro e w8 ⟨rfl, own8, m8, s8⟩
                have S8 := Lib.hid s8
                have R8 := Lib.hid (R7.out.keep m8 (fun h => by unfold acT at h; omega))
                clear s8 m8 HSP S7 R7 HST
                go_wp2_with fail
                go_roundw
                case rel => exact ⟨q + 1, own8, xW, by omega, by go_num, S8, R8, Lib.hid (by rw [show 6 - (q + 1) = y by omega]; exact ha8)⟩
                case measure => simp [intOf]; omega
            · obtain rfl : q = 6 := by omega
              have he := awaitR_exit _ _ _ _ HA7.out (Or.inl rfl)
              subst he
              clear HA7
              have HUN := Lib.hid (show Calls Tryz.prog 15 #[.pointer (some ⟨b, 0, none⟩), .pointer (some ⟨k, 0, none⟩), .int .i64 20] w7 (Does (.tuple #[.agg #[.int .i64 xo, .int .i64 xw, .int .i64 0, .bool xf, .complex .f64 xz.1 xz.2], .bool true]) ⟨own7, w7⟩ (acT 500 100) (fun g' => Sit w0 g' b k xW)) from sit_until 20 (by decide) w0 ⟨own7, w7⟩ b k _ S7.out _ hun)
              go_wp2_with fail
              refine HUN.out.mono ?_
              rintro e w8 ⟨rfl, own8, m8, s8⟩
              have S8 := Lib.hid s8
              have R8 := Lib.hid (R7.out.keep m8 (fun h => by unfold acT at h; omega))
              clear s8 m8 HUN S7 R7
              go_upto_region 15 with fail
              obtain ⟨own9, m9, B9⟩ := start1 ⟨own8, w8⟩ 36 [.int .i64 xo, .int .i64 xw, .int .i64 0, .bool xf, .complex .f64 xz.1 xz.2]
              have m9' : Mod (fun _ => False) (⟨own8, w8⟩ : GW) ⟨own9, w8.alloc (.cells #[.int .i64 xo, .int .i64 xw, .int .i64 0, .bool xf, .complex .f64 xz.1 xz.2] 36)⟩ := m9
              have B9' := Lib.hid (show Blk ⟨own9, w8.alloc (.cells #[.int .i64 xo, .int .i64 xw, .int .i64 0, .bool xf, .complex .f64 xz.1 xz.2] 36)⟩ 9 w8.heap.size 36 [.int .i64 xo, .int .i64 xw, .int .i64 0, .bool xf, .complex .f64 xz.1 xz.2] from B9)
              have S9 := Lib.hid (S8.out.keep m9')
              have R9 := Lib.hid (R8.out.keep m9' id)
              clear m9 B9 m9' S8 R8
              generalize w8.alloc (.cells #[.int .i64 xo, .int .i64 xw, .int .i64 0, .bool xf, .complex .f64 xz.1 xz.2] 36) = w9 at *
              generalize w8.heap.size = q9 at *
              go_wp2_with fail
              refine (HF.out _).mono ?_
              rintro e w10 ⟨rfl, hX⟩
              obtain ⟨own10, m10⟩ := Mod.ofExt (show Ext w9 w10 from hX) own9
              have S10 := Lib.hid (S9.out.keep m10)
              have R10 := Lib.hid (R9.out.keep m10 id)
              have B10 := Lib.hid (B9'.out.keep m10 id)
              clear m10 hX S9 R9 B9'
              obtain ⟨qh, hAh, hqh, -, hcell, -⟩ := R10.out.block (by decide)
              have hd1 := hcell 1 (.int .i64 38) rfl
              simp only at hqh
              clear hcell
              have HB1 := Lib.hid (show Calls Tryz.prog 20 #[.pointer (some ⟨TbId.tb, 0, none⟩), .int .i64 38, .bool true] w10 (fun e w' => e = .returned (.bool false) ∧ w10 = w') from by have h := sit_black S10.out 38 true; rw [show xW.K.sp.tab.black 38 true = false from hb38] at h; exact h)
              have HST := Lib.hid (show Calls Tryz.prog 18 #[.pointer (some ⟨b, 0, none⟩)] w10 (fun e w' => e = .returned (.int .i64 4) ∧ w10 = w') from by have h := sit_status S10.out; rw [hxs] at h; exact h)
              obtain ⟨z0, z1, z2, z3, z4, zl⟩ := B10.out.c5
              (try simp only [GW.to] at z0 z1 z2 z3 z4 zl)
              subst hAh
              go_wp2_with fail
              refine HB1.out.mono ?_
              rintro e w' ⟨rfl, rfl⟩
              go_wp2_with fail
              refine HST.out.mono ?_
              rintro e w' ⟨rfl, rfl⟩
              go_wp2_with fail
              go_ret
              exact ⟨rfl, S10.out.fin⟩
        · subst hUV
          generalize (some ⟨qh, 0, none⟩ : Option Addr) = A at *
          have S7 := S8
          have R7 := R8
          clear S8 R8
          generalize own8 = own7 at *
          generalize w8 = w7 at *
          have HUN := Lib.hid (show Calls Tryz.prog 15 #[.pointer (some ⟨b, 0, none⟩), .pointer (some ⟨k, 0, none⟩), .int .i64 20] w7 (Does (.tuple #[.agg #[.int .i64 xo, .int .i64 xw, .int .i64 0, .bool xf, .complex .f64 xz.1 xz.2], .bool true]) ⟨own7, w7⟩ (acT 500 100) (fun g' => Sit w0 g' b k xW)) from sit_until 20 (by decide) w0 ⟨own7, w7⟩ b k _ S7.out _ hun)
          go_wp2_with fail
          refine HUN.out.mono ?_
          rintro e w8 ⟨rfl, own8, m8, s8⟩
          have S8 := Lib.hid s8
          have R8 := Lib.hid (R7.out.keep m8 (fun h => by unfold acT at h; omega))
          clear s8 m8 HUN S7 R7
          go_upto_region 15 with fail
          obtain ⟨own9, m9, B9⟩ := start1 ⟨own8, w8⟩ 36 [.int .i64 xo, .int .i64 xw, .int .i64 0, .bool xf, .complex .f64 xz.1 xz.2]
          have m9' : Mod (fun _ => False) (⟨own8, w8⟩ : GW) ⟨own9, w8.alloc (.cells #[.int .i64 xo, .int .i64 xw, .int .i64 0, .bool xf, .complex .f64 xz.1 xz.2] 36)⟩ := m9
          have B9' := Lib.hid (show Blk ⟨own9, w8.alloc (.cells #[.int .i64 xo, .int .i64 xw, .int .i64 0, .bool xf, .complex .f64 xz.1 xz.2] 36)⟩ 9 w8.heap.size 36 [.int .i64 xo, .int .i64 xw, .int .i64 0, .bool xf, .complex .f64 xz.1 xz.2] from B9)
          have S9 := Lib.hid (S8.out.keep m9')
          have R9 := Lib.hid (R8.out.keep m9' id)
          clear m9 B9 m9' S8 R8
          generalize w8.alloc (.cells #[.int .i64 xo, .int .i64 xw, .int .i64 0, .bool xf, .complex .f64 xz.1 xz.2] 36) = w9 at *
          generalize w8.heap.size = q9 at *
          go_wp2_with fail
          refine (HF.out _).mono ?_
          rintro e w10 ⟨rfl, hX⟩
          obtain ⟨own10, m10⟩ := Mod.ofExt (show Ext w9 w10 from hX) own9
          have S10 := Lib.hid (S9.out.keep m10)
          have R10 := Lib.hid (R9.out.keep m10 id)
          have B10 := Lib.hid (B9'.out.keep m10 id)
          clear m10 hX S9 R9 B9'
          obtain ⟨qh, hAh, hqh, -, hcell, -⟩ := R10.out.block (by decide)
          have hd1 := hcell 1 (.int .i64 38) rfl
          simp only at hqh
          clear hcell
          have HB1 := Lib.hid (show Calls Tryz.prog 20 #[.pointer (some ⟨TbId.tb, 0, none⟩), .int .i64 38, .bool true] w10 (fun e w' => e = .returned (.bool true) ∧ w10 = w') from by have h := sit_black S10.out 38 true; rw [show xW.K.sp.tab.black 38 true = true from hb38] at h; exact h)
          have HST := Lib.hid (show Calls Tryz.prog 18 #[.pointer (some ⟨b, 0, none⟩)] w10 (fun e w' => e = .returned (.int .i64 3) ∧ w10 = w') from by have h := sit_status S10.out; rw [hxs] at h; exact h)
          obtain ⟨z0, z1, z2, z3, z4, zl⟩ := B10.out.c5
          (try simp only [GW.to] at z0 z1 z2 z3 z4 zl)
          subst hAh
          go_wp2_with fail
          refine HB1.out.mono ?_
          rintro e w' ⟨rfl, rfl⟩
          go_wp2_with fail
          refine HST.out.mono ?_
          rintro e w' ⟨rfl, rfl⟩
          go_wp2_with fail
          go_ret
          exact ⟨rfl, S10.out.fin⟩
      · have hz : (V7.a.status != 3) = true := by simp [hs]
        have ha7 := HA7.out
        obtain ⟨y, hy⟩ : ∃ y, 9 - q = y + 1 := ⟨9 - q - 1, by omega⟩
        rw [hy] at ha7
        obtain ⟨x8, hx8, ha8⟩ := awaitR_step _ _ _ _ ha7 hs
        obtain ⟨⟨xr, xb⟩, xW⟩ := x8
        simp only at ha8
        have HSP := Lib.hid (show Calls Tryz.prog 9 #[.pointer (some ⟨b, 0, none⟩), .pointer (some ⟨k, 0, none⟩)] w7 (Does (.tuple #[.agg #[.int .i64 xr.op, .int .i64 xr.own, .int .i64 xr.e, .bool xr.v.ref, .complex .f64 xr.v.z.1 xr.v.z.2], .bool xb]) ⟨own7, w7⟩ (acT 500 100) (fun g' => Sit w0 g' b k xW)) from sit_step S7.out _ hx8)
        generalize V7.a.status = st at *
        clear ha7 HA7 hx8 hs
        go_wp2_with fail
        refine HST.out.mono ?_
        rintro e w' ⟨rfl, rfl⟩
        go_wp2_with fail
        refine HSP.out.mono ?_
        rintro e w8 ⟨rfl, own8, m8, s8⟩
        have S8 := Lib.hid s8
        have R8 := Lib.hid (R7.out.keep m8 (fun h => by unfold acT at h; omega))
        clear s8 m8 HSP S7 R7 HST
        go_wp2_with fail
        go_roundw
        case rel => exact ⟨q + 1, own8, xW, by omega, by go_num, S8, R8, Lib.hid (by rw [show 9 - (q + 1) = y by omega]; exact ha8)⟩
        case measure => simp [intOf]; omega
    · obtain rfl : q = 9 := by omega
      have he := awaitR_exit _ _ _ _ HA7.out (Or.inl rfl)
      subst he
      clear HA7
      obtain ⟨bs8, bh8, c10, c12, ck, s0, sl, hps, -⟩ := sit_core S7.out
      have HTB := Lib.hid (fun w => shade_table TbId.tb w)
      simp only at c10 c12 ck s0 sl
      go_wp2_with fail
      refine (HTB.out _).mono ?_
      rintro e w8 ⟨rfl, hX⟩
      obtain ⟨own8, m8⟩ := Mod.ofExt (show Ext w7 w8 from hX) own7
      have S8 := Lib.hid (S7.out.keep m8)
      have R8 := Lib.hid (R7.out.keep m8 id)
      clear m8 hX S7 R7 HTB c10 c12 ck s0 sl hps
      obtain ⟨qh, hAh, hqh, -, hcell, -⟩ := R8.out.block (by decide)
      have hd0 := hcell 0 (.int .i64 39) rfl
      have hd1 := hcell 1 (.int .i64 38) rfl
      have hd2 := hcell 2 (.int .i64 37) rfl
      simp only at hqh
      have HST := Lib.hid (show Calls Tryz.prog 18 #[.pointer (some ⟨b, 0, none⟩)] w8 (fun e w' => e = .returned (.int .i64 3) ∧ w8 = w') from by have h := sit_status S8.out; rw [hvs] at h; exact h)
      have HB0 := Lib.hid (show Calls Tryz.prog 20 #[.pointer (some ⟨TbId.tb, 0, none⟩), .int .i64 39, .bool true] w8 (fun e w' => e = .returned (.bool true) ∧ w8 = w') from by have h := sit_black S8.out 39 true; rw [show (V).K.sp.tab.black 39 true = true from hv39] at h; exact h)
      have HB1 := Lib.hid (show Calls Tryz.prog 20 #[.pointer (some ⟨TbId.tb, 0, none⟩), .int .i64 38, .bool true] w8 (fun e w' => e = .returned (.bool false) ∧ w8 = w') from by have h := sit_black S8.out 38 true; rw [show (V).K.sp.tab.black 38 true = false from hv38] at h; exact h)
      have HB2 := Lib.hid (show Calls Tryz.prog 20 #[.pointer (some ⟨TbId.tb, 0, none⟩), .int .i64 37, .bool true] w8 (fun e w' => e = .returned (.bool true) ∧ w8 = w') from by have h := sit_black S8.out 37 true; rw [show (V).K.sp.tab.black 37 true = true from hv37] at h; exact h)
      subst hAh
      clear hcell
      go_wp2_with fail
      refine HST.out.mono ?_
      rintro e w' ⟨rfl, rfl⟩
      go_wp2_with fail
      refine HB0.out.mono ?_
      rintro e w' ⟨rfl, rfl⟩
      go_wp2_with fail
      refine HB1.out.mono ?_
      rintro e w' ⟨rfl, rfl⟩
      go_wp2_with fail
      refine HB2.out.mono ?_
      rintro e w' ⟨rfl, rfl⟩
      clear HST HB0 HB1 HB2 hd0 hd1 hd2 hqh
      rcases hcs with ⟨rfl, Y, hpo, haw⟩ | ⟨rfl, hUV⟩
      · obtain ⟨hco, hY⟩ := postR_some hpo
        subst hY
        obtain ⟨bs9, bh9, c10, c12, ck, s0, sl, hps, -⟩ := sit_core S8.out
        have HPS := Lib.hid (show Calls Tryz.prog 17 #[.pointer (some ⟨bh9, 0, none⟩), .int .i64 4, .bool false] w8 (Does (.bool (HandS.knownB 4)) ⟨own8, w8⟩ (acT 500 100) (fun g' => Sit w0 g' b k (AcW.post V 4 false))) from hps 4 false hco)
        simp only at c10 c12 ck s0 sl
        go_wp2_with fail
        refine HPS.out.mono ?_
        rintro e w6 ⟨rfl, own6, m6, s6⟩
        have S6 := Lib.hid s6
        have R6 := Lib.hid (R8.out.keep m6 (fun h => by unfold acT at h; omega))
        have HA6 := Lib.hid haw
        clear m6 s6 HPS S8 R8 c10 c12 ck s0 sl hps haw hpo hco
        generalize (some ⟨qh, 0, none⟩ : Option Addr) = A at *
        generalize AcW.post V 4 false = Y6 at *
        go_wp2_with fail
        go_loopw [11] (fun i wr => ∃ (q : Nat) (own : Nat → Nat) (Vq : AcW), q ≤ 6 ∧ i = .int .i64 q ∧ Hid (Sit w0 ⟨own, wr⟩ b k Vq) ∧ Hid (Row ⟨own, wr⟩ 9 3 1 (.slice A 3 cap) 3 [.int .i64 39, .int .i64 38, .int .i64 37]) ∧ Hid (AcW.awaitR (6 - q) 4 Vq = some U)) (fun i _ => 6 - (intOf i).toNat)
        case atStart => exact ⟨0, own6, Y6, by decide, rfl, S6, R6, HA6⟩
        case round =>
          clear S6 R6 HA6 own6
          obtain ⟨q, own7, V7, hq, rfl, S7, R7, HA7⟩ := hrel
          obtain ⟨w7, rfl⟩ : ∃ w7 : World, w7 = wr := ⟨_, rfl⟩
          by_cases hlt : q < 6
          · have hlt' : (q : Int) < 6 := by omega
            have HST := Lib.hid (sit_status S7.out)
            simp only at HST
            by_cases hs : V7.a.status = 4
            · have he := awaitR_exit _ _ _ _ HA7.out (Or.inr hs)
              subst he
              rw [hs] at HST
              clear HA7 hs
              go_wp2_with fail
              refine HST.out.mono ?_
              rintro e w' ⟨rfl, rfl⟩
              have HUN := Lib.hid (show Calls Tryz.prog 15 #[.pointer (some ⟨b, 0, none⟩), .pointer (some ⟨k, 0, none⟩), .int .i64 20] w7 (Does (.tuple #[.agg #[.int .i64 xo, .int .i64 xw, .int .i64 0, .bool xf, .complex .f64 xz.1 xz.2], .bool true]) ⟨own7, w7⟩ (acT 500 100) (fun g' => Sit w0 g' b k xW)) from sit_until 20 (by decide) w0 ⟨own7, w7⟩ b k _ S7.out _ hun)
              go_wp2_with fail
              refine HUN.out.mono ?_
              rintro e w8 ⟨rfl, own8, m8, s8⟩
              have S8 := Lib.hid s8
              have R8 := Lib.hid (R7.out.keep m8 (fun h => by unfold acT at h; omega))
              clear s8 m8 HUN S7 R7
              go_upto_region 15 with fail
              obtain ⟨own9, m9, B9⟩ := start1 ⟨own8, w8⟩ 36 [.int .i64 xo, .int .i64 xw, .int .i64 0, .bool xf, .complex .f64 xz.1 xz.2]
              have m9' : Mod (fun _ => False) (⟨own8, w8⟩ : GW) ⟨own9, w8.alloc (.cells #[.int .i64 xo, .int .i64 xw, .int .i64 0, .bool xf, .complex .f64 xz.1 xz.2] 36)⟩ := m9
              have B9' := Lib.hid (show Blk ⟨own9, w8.alloc (.cells #[.int .i64 xo, .int .i64 xw, .int .i64 0, .bool xf, .complex .f64 xz.1 xz.2] 36)⟩ 9 w8.heap.size 36 [.int .i64 xo, .int .i64 xw, .int .i64 0, .bool xf, .complex .f64 xz.1 xz.2] from B9)
              have S9 := Lib.hid (S8.out.keep m9')
              have R9 := Lib.hid (R8.out.keep m9' id)
              clear m9 B9 m9' S8 R8
              generalize w8.alloc (.cells #[.int .i64 xo, .int .i64 xw, .int .i64 0, .bool xf, .complex .f64 xz.1 xz.2] 36) = w9 at *
              generalize w8.heap.size = q9 at *
              go_wp2_with fail
              refine (HF.out _).mono ?_
              rintro e w10 ⟨rfl, hX⟩
              obtain ⟨own10, m10⟩ := Mod.ofExt (show Ext w9 w10 from hX) own9
              have S10 := Lib.hid (S9.out.keep m10)
              have R10 := Lib.hid (R9.out.keep m10 id)
              have B10 := Lib.hid (B9'.out.keep m10 id)
              clear m10 hX S9 R9 B9'
              obtain ⟨qh, hAh, hqh, -, hcell, -⟩ := R10.out.block (by decide)
              have hd1 := hcell 1 (.int .i64 38) rfl
              simp only at hqh
              clear hcell
              have HB1 := Lib.hid (show Calls Tryz.prog 20 #[.pointer (some ⟨TbId.tb, 0, none⟩), .int .i64 38, .bool true] w10 (fun e w' => e = .returned (.bool false) ∧ w10 = w') from by have h := sit_black S10.out 38 true; rw [show xW.K.sp.tab.black 38 true = false from hb38] at h; exact h)
              have HST := Lib.hid (show Calls Tryz.prog 18 #[.pointer (some ⟨b, 0, none⟩)] w10 (fun e w' => e = .returned (.int .i64 4) ∧ w10 = w') from by have h := sit_status S10.out; rw [hxs] at h; exact h)
              obtain ⟨z0, z1, z2, z3, z4, zl⟩ := B10.out.c5
              (try simp only [GW.to] at z0 z1 z2 z3 z4 zl)
              subst hAh
              go_wp2_with fail
              refine HB1.out.mono ?_
              rintro e w' ⟨rfl, rfl⟩
              go_wp2_with fail
              refine HST.out.mono ?_
              rintro e w' ⟨rfl, rfl⟩
              go_wp2_with fail
              go_ret
              exact ⟨rfl, S10.out.fin⟩
            · have hz : (V7.a.status != 4) = true := by simp [hs]
              have ha7 := HA7.out
              obtain ⟨y, hy⟩ : ∃ y, 6 - q = y + 1 := ⟨6 - q - 1, by omega⟩
              rw [hy] at ha7
              obtain ⟨x8, hx8, ha8⟩ := awaitR_step _ _ _ _ ha7 hs
              obtain ⟨⟨xr, xb⟩, xW⟩ := x8
              simp only at ha8
              have HSP := Lib.hid (show Calls Tryz.prog 9 #[.pointer (some ⟨b, 0, none⟩), .pointer (some ⟨k, 0, none⟩)] w7 (Does (.tuple #[.agg #[.int .i64 xr.op, .int .i64 xr.own, .int .i64 xr.e, .bool xr.v.ref, .complex .f64 xr.v.z.1 xr.v.z.2], .bool xb]) ⟨own7, w7⟩ (acT 500 100) (fun g' => Sit w0 g' b k xW)) from sit_step S7.out _ hx8)
              generalize V7.a.status = st at *
              clear ha7 HA7 hx8 hs
              go_wp2_with fail
              refine HST.out.mono ?_
              rintro e w' ⟨rfl, rfl⟩
              go_wp2_with fail
              refine HSP.out.mono ?_
              rintro e w8 ⟨rfl, own8, m8, s8⟩
              have S8 := Lib.hid s8
              have R8 := Lib.hid (R7.out.keep m8 (fun h => by unfold acT at h; omega))
              clear s8 m8 HSP S7 R7 HST
              go_wp2_with fail
              go_roundw
              case rel => exact ⟨q + 1, own8, xW, by omega, by go_num, S8, R8, Lib.hid (by rw [show 6 - (q + 1) = y by omega]; exact ha8)⟩
              case measure => simp [intOf]; omega
          · obtain rfl : q = 6 := by omega
            have he := awaitR_exit _ _ _ _ HA7.out (Or.inl rfl)
            subst he
            clear HA7
            have HUN := Lib.hid (show Calls Tryz.prog 15 #[.pointer (some ⟨b, 0, none⟩), .pointer (some ⟨k, 0, none⟩), .int .i64 20] w7 (Does (.tuple #[.agg #[.int .i64 xo, .int .i64 xw, .int .i64 0, .bool xf, .complex .f64 xz.1 xz.2], .bool true]) ⟨own7, w7⟩ (acT 500 100) (fun g' => Sit w0 g' b k xW)) from sit_until 20 (by decide) w0 ⟨own7, w7⟩ b k _ S7.out _ hun)
            go_wp2_with fail
            refine HUN.out.mono ?_
            rintro e w8 ⟨rfl, own8, m8, s8⟩
            have S8 := Lib.hid s8
            have R8 := Lib.hid (R7.out.keep m8 (fun h => by unfold acT at h; omega))
            clear s8 m8 HUN S7 R7
            go_upto_region 15 with fail
            obtain ⟨own9, m9, B9⟩ := start1 ⟨own8, w8⟩ 36 [.int .i64 xo, .int .i64 xw, .int .i64 0, .bool xf, .complex .f64 xz.1 xz.2]
            have m9' : Mod (fun _ => False) (⟨own8, w8⟩ : GW) ⟨own9, w8.alloc (.cells #[.int .i64 xo, .int .i64 xw, .int .i64 0, .bool xf, .complex .f64 xz.1 xz.2] 36)⟩ := m9
            have B9' := Lib.hid (show Blk ⟨own9, w8.alloc (.cells #[.int .i64 xo, .int .i64 xw, .int .i64 0, .bool xf, .complex .f64 xz.1 xz.2] 36)⟩ 9 w8.heap.size 36 [.int .i64 xo, .int .i64 xw, .int .i64 0, .bool xf, .complex .f64 xz.1 xz.2] from B9)
            have S9 := Lib.hid (S8.out.keep m9')
            have R9 := Lib.hid (R8.out.keep m9' id)
            clear m9 B9 m9' S8 R8
            generalize w8.alloc (.cells #[.int .i64 xo, .int .i64 xw, .int .i64 0, .bool xf, .complex .f64 xz.1 xz.2] 36) = w9 at *
            generalize w8.heap.size = q9 at *
            go_wp2_with fail
            refine (HF.out _).mono ?_
            rintro e w10 ⟨rfl, hX⟩
            obtain ⟨own10, m10⟩ := Mod.ofExt (show Ext w9 w10 from hX) own9
            have S10 := Lib.hid (S9.out.keep m10)
            have R10 := Lib.hid (R9.out.keep m10 id)
            have B10 := Lib.hid (B9'.out.keep m10 id)
            clear m10 hX S9 R9 B9'
            obtain ⟨qh, hAh, hqh, -, hcell, -⟩ := R10.out.block (by decide)
            have hd1 := hcell 1 (.int .i64 38) rfl
            simp only at hqh
            clear hcell
            have HB1 := Lib.hid (show Calls Tryz.prog 20 #[.pointer (some ⟨TbId.tb, 0, none⟩), .int .i64 38, .bool true] w10 (fun e w' => e = .returned (.bool false) ∧ w10 = w') from by have h := sit_black S10.out 38 true; rw [show xW.K.sp.tab.black 38 true = false from hb38] at h; exact h)
            have HST := Lib.hid (show Calls Tryz.prog 18 #[.pointer (some ⟨b, 0, none⟩)] w10 (fun e w' => e = .returned (.int .i64 4) ∧ w10 = w') from by have h := sit_status S10.out; rw [hxs] at h; exact h)
            obtain ⟨z0, z1, z2, z3, z4, zl⟩ := B10.out.c5
            (try simp only [GW.to] at z0 z1 z2 z3 z4 zl)
            subst hAh
            go_wp2_with fail
            refine HB1.out.mono ?_
            rintro e w' ⟨rfl, rfl⟩
            go_wp2_with fail
            refine HST.out.mono ?_
            rintro e w' ⟨rfl, rfl⟩
            go_wp2_with fail
            go_ret
            exact ⟨rfl, S10.out.fin⟩
      · subst hUV
        generalize (some ⟨qh, 0, none⟩ : Option Addr) = A at *
        have S7 := S8
        have R7 := R8
        clear S8 R8
        generalize own8 = own7 at *
        generalize w8 = w7 at *
        have HUN := Lib.hid (show Calls Tryz.prog 15 #[.pointer (some ⟨b, 0, none⟩), .pointer (some ⟨k, 0, none⟩), .int .i64 20] w7 (Does (.tuple #[.agg #[.int .i64 xo, .int .i64 xw, .int .i64 0, .bool xf, .complex .f64 xz.1 xz.2], .bool true]) ⟨own7, w7⟩ (acT 500 100) (fun g' => Sit w0 g' b k xW)) from sit_until 20 (by decide) w0 ⟨own7, w7⟩ b k _ S7.out _ hun)
        go_wp2_with fail
        refine HUN.out.mono ?_
        rintro e w8 ⟨rfl, own8, m8, s8⟩
        have S8 := Lib.hid s8
        have R8 := Lib.hid (R7.out.keep m8 (fun h => by unfold acT at h; omega))
        clear s8 m8 HUN S7 R7
        go_upto_region 15 with fail
        obtain ⟨own9, m9, B9⟩ := start1 ⟨own8, w8⟩ 36 [.int .i64 xo, .int .i64 xw, .int .i64 0, .bool xf, .complex .f64 xz.1 xz.2]
        have m9' : Mod (fun _ => False) (⟨own8, w8⟩ : GW) ⟨own9, w8.alloc (.cells #[.int .i64 xo, .int .i64 xw, .int .i64 0, .bool xf, .complex .f64 xz.1 xz.2] 36)⟩ := m9
        have B9' := Lib.hid (show Blk ⟨own9, w8.alloc (.cells #[.int .i64 xo, .int .i64 xw, .int .i64 0, .bool xf, .complex .f64 xz.1 xz.2] 36)⟩ 9 w8.heap.size 36 [.int .i64 xo, .int .i64 xw, .int .i64 0, .bool xf, .complex .f64 xz.1 xz.2] from B9)
        have S9 := Lib.hid (S8.out.keep m9')
        have R9 := Lib.hid (R8.out.keep m9' id)
        clear m9 B9 m9' S8 R8
        generalize w8.alloc (.cells #[.int .i64 xo, .int .i64 xw, .int .i64 0, .bool xf, .complex .f64 xz.1 xz.2] 36) = w9 at *
        generalize w8.heap.size = q9 at *
        go_wp2_with fail
        refine (HF.out _).mono ?_
        rintro e w10 ⟨rfl, hX⟩
        obtain ⟨own10, m10⟩ := Mod.ofExt (show Ext w9 w10 from hX) own9
        have S10 := Lib.hid (S9.out.keep m10)
        have R10 := Lib.hid (R9.out.keep m10 id)
        have B10 := Lib.hid (B9'.out.keep m10 id)
        clear m10 hX S9 R9 B9'
        obtain ⟨qh, hAh, hqh, -, hcell, -⟩ := R10.out.block (by decide)
        have hd1 := hcell 1 (.int .i64 38) rfl
        simp only at hqh
        clear hcell
        have HB1 := Lib.hid (show Calls Tryz.prog 20 #[.pointer (some ⟨TbId.tb, 0, none⟩), .int .i64 38, .bool true] w10 (fun e w' => e = .returned (.bool true) ∧ w10 = w') from by have h := sit_black S10.out 38 true; rw [show xW.K.sp.tab.black 38 true = true from hb38] at h; exact h)
        have HST := Lib.hid (show Calls Tryz.prog 18 #[.pointer (some ⟨b, 0, none⟩)] w10 (fun e w' => e = .returned (.int .i64 3) ∧ w10 = w') from by have h := sit_status S10.out; rw [hxs] at h; exact h)
        obtain ⟨z0, z1, z2, z3, z4, zl⟩ := B10.out.c5
        (try simp only [GW.to] at z0 z1 z2 z3 z4 zl)
        subst hAh
        go_wp2_with fail
        refine HB1.out.mono ?_
        rintro e w' ⟨rfl, rfl⟩
        go_wp2_with fail
        refine HST.out.mono ?_
        rintro e w' ⟨rfl, rfl⟩
        go_wp2_with fail
        go_ret
        exact ⟨rfl, S10.out.fin⟩
def hdsL (q : Nat) : List Int := [39, 38, 37].take q
theorem hdsL_succ (q : Nat) (h : q < 3) : hdsL (q + 1) = hdsL q ++ [39 - (q : Int)] := by
  match q, h with
  | 0, _ => rfl
  | 1, _ => rfl
  | 2, _ => rfl
theorem hdsL_full (q : Nat) (h : 3 ≤ q) : hdsL q = [39, 38, 37] := by unfold hdsL; exact List.take_of_length_le (by simpa using h)
theorem barrier_any (n : Int) (w : World) : Calls Tryz.prog 4 #[.int .i64 n] w (Gives (.bool true) w) := by
  have HF := Lib.hid (fun w => first23_any w)
  go_enter Tryz.func4, Tryz.ntmps4
  go_wp2_with fail
  refine (HF.out _).mono ?_
  rintro e w1 ⟨rfl, hX⟩
  have E1 := Lib.hid (show Ext w w1 from hX)
  clear hX
  by_cases hlo : n < 0
  · have d0 : decide (n < 0) = true := decide_eq_true hlo
    clear hlo
    go_wp2_with fail
    refine (HF.out _).mono ?_
    rintro e w9 ⟨rfl, hX⟩
    have E9 := Lib.hid (show Ext w1 w9 from hX)
    clear hX
    go_wp2_with fail
    go_ret
    exact Gives.bool rfl (E1.out.trans E9.out)
  by_cases hhi : 4 < n
  · have d0 : decide (n < 0) = false := decide_eq_false hlo
    have d1 : decide (4 < n) = true := decide_eq_true hhi
    clear hlo hhi
    go_wp2_with fail
    refine (HF.out _).mono ?_
    rintro e w9 ⟨rfl, hX⟩
    have E9 := Lib.hid (show Ext w1 w9 from hX)
    clear hX
    go_wp2_with fail
    go_ret
    exact Gives.bool rfl (E1.out.trans E9.out)
  obtain ⟨m, rfl⟩ := Int.eq_ofNat_of_zero_le (show 0 ≤ n by omega)
  have hm : m < 5 := by omega
  have d0 : decide ((m : Int) < 0) = false := decide_eq_false hlo
  have d1 : decide (4 < (m : Int)) = false := decide_eq_false hhi
  clear hlo hhi
  have E2 : Ext w1 (w1.alloc (.cells #[.int .i64 1, .int .i64 0, .int .i64 0, .int .i64 0, .int .i64 0, .complex .f64 0 0, .int .i64 1, .int .i64 1, .int .i64 0, .int .i64 0, .int .i64 0, .complex .f64 0 0, .int .i64 1, .int .i64 2, .int .i64 0, .int .i64 0, .int .i64 0, .complex .f64 0 0, .int .i64 4, .int .i64 0, .int .i64 1, .int .i64 0, .int .i64 0, .complex .f64 0 0, .int .i64 13, .int .i64 1, .int .i64 0, .int .i64 0, .int .i64 0, .complex .f64 0 0, .int .i64 4, .int .i64 0, .int .i64 2, .int .i64 0, .int .i64 0, .complex .f64 0 0] 26)) := by (repeat (first | (with_reducible (first | assumption | exact zR _ | exact zM _ _ _ _)) | apply zA | refine zS ?_ (by first | exact zL _ | exact zK _ _ | assumption) _ | apply zP | apply zD | apply zN))
  have HPR := Lib.hid (show Calls Tryz.prog 7 #[.slice (some ⟨w1.heap.size, 0, none⟩) 6 6, .slice none 0 0] (w1.alloc (.cells #[.int .i64 1, .int .i64 0, .int .i64 0, .int .i64 0, .int .i64 0, .complex .f64 0 0, .int .i64 1, .int .i64 1, .int .i64 0, .int .i64 0, .int .i64 0, .complex .f64 0 0, .int .i64 1, .int .i64 2, .int .i64 0, .int .i64 0, .int .i64 0, .complex .f64 0 0, .int .i64 4, .int .i64 0, .int .i64 1, .int .i64 0, .int .i64 0, .complex .f64 0 0, .int .i64 13, .int .i64 1, .int .i64 0, .int .i64 0, .int .i64 0, .complex .f64 0 0, .int .i64 4, .int .i64 0, .int .i64 2, .int .i64 0, .int .i64 0, .complex .f64 0 0] 26)) (PairMade barOps _) from pair_any _ 6 barOps _ 6 rfl (by decide) (cellsAt_new w1 (barOps.flatMap Opr.cells) 26 _ rfl))
  obtain ⟨i0, hi, hz0, hz1, hz2⟩ := info_parts infoInt
  go_wp2_with fail
  refine HPR.out.mono ?_
  rintro e w4 ⟨w0, own4, kk, x, y, A, A1, A2, tb, rfl, hE4, hM4, hW4⟩
  letI : TbId := ⟨⟨tb⟩⟩
  have S4 := Lib.hid (show Sit w0 ⟨own4, w4⟩ x kk (pairW A A1 A2 barOps) from ⟨hM4.mono (fun _ => False.elim), hW4⟩)
  have E4 := Lib.hid (show Ext w w0 from (E1.out.trans E2).trans hE4)
  clear hE4 hM4 hW4 HPR E2
  obtain ⟨V1, V2, U, hpre, hpo, hsg, hfin⟩ := bar_end A A1 A2 m hm
  go_wp2_with fail
  go_loopw [7, 8] (fun v i wr => ∃ (q : Nat) (own : Nat → Nat) (Vq : AcW), q ≤ 5 ∧ i = .int .i64 q ∧ Hid (Sit w0 ⟨own, wr⟩ x kk Vq) ∧ Hid (Row ⟨own, wr⟩ 9 3 1 v (min q 3) ((hdsL q).map (Value.int .i64))) ∧ Hid (barPre (5 - q) q Vq = some V1)) (fun _ i _ => 5 - (intOf i).toNat)
  case atStart => exact ⟨0, own4, _, by decide, rfl, S4, Lib.hid (Row.nil _ _ _ _), Lib.hid hpre⟩
  case round =>
    clear S4 hpre own4
    obtain ⟨q, own4, Vq, hq, rfl, S4, R4, HP4⟩ := hrel
    obtain ⟨w4, rfl⟩ : ∃ w4 : World, w4 = wr := ⟨_, rfl⟩
    obtain ⟨Ah, ch, rfl⟩ := own_form R4.out.row
    by_cases hlt : q < 5
    · have hlt' : (q : Int) < 5 := by omega
      have hp4 := HP4.out
      obtain ⟨y5, hy5⟩ : ∃ y, 5 - q = y + 1 := ⟨5 - q - 1, by omega⟩
      rw [hy5] at hp4
      obtain ⟨⟨⟨⟨xo, xw, xe, ⟨xf, xz⟩⟩, xb⟩, xW⟩, hun, hxb, hxe, hxz, hnx⟩ := barPre_step _ _ _ _ hp4
      simp only at hxb hxe hxz hnx
      subst hxb hxe
      have HUN := Lib.hid (show Calls Tryz.prog 15 #[.pointer (some ⟨x, 0, none⟩), .pointer (some ⟨kk, 0, none⟩), .int .i64 60] w4 (Does (.tuple #[.agg #[.int .i64 xo, .int .i64 xw, .int .i64 0, .bool xf, .complex .f64 xz.1 xz.2], .bool true]) ⟨own4, w4⟩ (acT 500 100) (fun g' => Sit w0 g' x kk xW)) from sit_until 60 (by decide) w0 ⟨own4, w4⟩ x kk _ S4.out _ hun)
      have HNX := Lib.hid hnx
      clear hun hnx hp4 HP4
      go_wp2_with fail
      refine HUN.out.mono ?_
      rintro e w5 ⟨rfl, own5, m5, s5⟩
      have S5 := Lib.hid s5
      have R5 := Lib.hid (R4.out.keep m5 (fun h => by unfold acT at h; omega))
      clear s5 m5 HUN S4 R4
      go_upto_region 14 with fail
      obtain ⟨own6, m6, B6⟩ := start1 ⟨own5, w5⟩ 36 [.int .i64 xo, .int .i64 xw, .int .i64 0, .bool xf, .complex .f64 xz.1 xz.2]
      have m6' : Mod (fun _ => False) (⟨own5, w5⟩ : GW) ⟨own6, w5.alloc (.cells #[.int .i64 xo, .int .i64 xw, .int .i64 0, .bool xf, .complex .f64 xz.1 xz.2] 36)⟩ := m6
      have B6' := Lib.hid (show Blk ⟨own6, w5.alloc (.cells #[.int .i64 xo, .int .i64 xw, .int .i64 0, .bool xf, .complex .f64 xz.1 xz.2] 36)⟩ 9 w5.heap.size 36 [.int .i64 xo, .int .i64 xw, .int .i64 0, .bool xf, .complex .f64 xz.1 xz.2] from B6)
      have S6 := Lib.hid (S5.out.keep m6')
      have R6 := Lib.hid (R5.out.keep m6' id)
      clear m6 B6 m6' S5 R5
      generalize w5.alloc (.cells #[.int .i64 xo, .int .i64 xw, .int .i64 0, .bool xf, .complex .f64 xz.1 xz.2] 36) = w6 at *
      generalize w5.heap.size = q6 at *
      by_cases h3 : q < 3
      · have h3' : (q : Int) < 3 := by omega
        have hz : xz = zRef (39 - (q : Int)) := hxz.resolve_left (by omega)
        subst hz
        have hmn : min q 3 = q := by omega
        rw [hmn] at R6 ⊢
        unfold zRef at B6'
        simp only at B6'
        have HWD := Lib.hid (fun w => word23 (39 - (q : Int)) (by omega) w)
        have HEX := Lib.hid (show Ext (⟨own6, w6⟩ : GW).w (w6.alloc (.cells #[.int .i64 (39 - (q : Int))] 3)) from Ext.alloc (Ext.refl _) _)
        obtain ⟨z0, z1, z2, z3, z4, zl⟩ := B6'.out.c5
        (try simp only [GW.to] at z0 z1 z2 z3 z4 zl)
        generalize floatOfInt .f64 (39 - (q : Int) + 1) = P at *
        go_wp2_with fail
        refine (HWD.out _).mono ?_
        rintro e w' ⟨rfl, rfl⟩
        go_wp2_with (at_builtin; refine wpList_append_own_at _ rfl (.tmp 72) (.tmp 74) 62 rfl 0 3 i0 (.int .i64 0) 1 8 Tryz.underlying62 hi hz0 hz1 hz2 rfl (by decide) _ _ _ rfl (R6.out.row.alloc _) ⟨w6.heap.size, 0, none⟩ 1 1 [.int .i64 (39 - (q : Int))] rfl rfl (cell_one_new _ _ _) (by intro u hu; simp at hu; subst hu; rfl) (by unfold maxLen; omega) (by omega) (Nat.zero_le _) ?_; intro v2 w7 hown hgrow hnil hat; obtain ⟨own7, m7, r7⟩ := grey_grown (t := 5) R6.out HEX.out hown hgrow hat)
        have S7 := Lib.hid (S6.out.keep9 m7)
        have R7 := Lib.hid r7
        clear hown hgrow hnil hat m7 r7
        go_roundw
        case rel => exact ⟨q + 1, own7, xW, by omega, by go_num, S7, Lib.hid (by rw [hdsL_succ q h3, List.map_append, show min (q + 1) 3 = q + 1 by omega]; exact R7.out), Lib.hid (by rw [show 5 - (q + 1) = y5 by omega]; exact HNX.out)⟩
        case measure => simp [intOf]; omega
      · have h3' : ¬ ((q : Int) < 3) := by omega
        obtain ⟨z0, z1, z2, z3, z4, zl⟩ := B6'.out.c5
        (try simp only [GW.to] at z0 z1 z2 z3 z4 zl)
        go_wp2_with fail
        go_roundw
        case rel => exact ⟨q + 1, own6, xW, by omega, by go_num, S6, Lib.hid (by rw [hdsL_full (q + 1) (by omega), ← hdsL_full q (by omega), show min (q + 1) 3 = min q 3 by omega]; exact R6.out), Lib.hid (by rw [show 5 - (q + 1) = y5 by omega]; exact HNX.out)⟩
        case measure => simp [intOf]; omega
    · obtain rfl : q = 5 := by omega
      have hV : Vq = V1 := by have h := HP4.out; unfold barPre at h; injection h
      subst hV
      clear HP4
      have R4' := Lib.hid (show Row ⟨own4, w4⟩ 9 3 1 (.slice Ah 3 ch) 3 [.int .i64 39, .int .i64 38, .int .i64 37] from R4.out)
      have hn3 : min 5 3 = 3 := rfl
      simp only [hn3]
      clear R4
      by_cases hm0 : m = 0
      · subst hm0
        have hV : Vq = V2 := by have h := hpo; simp only [Int.natCast_zero, Int.lt_irrefl, decide_false, Bool.false_eq_true, if_false] at h; injection h
        have hU : V2 = U := by have h := hsg; unfold barStages at h; injection h
        subst hV hU
        simp only [Int.natCast_zero, show decide ((3 : Int) ≤ 0) = false from rfl, Bool.false_eq_true, if_false] at hfin
        clear hpo hsg
        go_wp2_with fail
        go_loopw [13] (fun s wr => s = .int .i64 1 ∧ w4 = wr) (fun s _ => 0)
        case atStart => exact ⟨rfl, rfl⟩
        case round =>
          obtain ⟨rfl, rfl⟩ := hrel
          have S7 := S4
          have R7 := R4'
          clear S4 R4'
          generalize own4 = own7 at *
          generalize w4 = w7 at *
          obtain ⟨⟨⟨⟨xo, xw, xe, ⟨xf, xz⟩⟩, xb⟩, xW⟩, hun, hxb, hxe, hb38, hb37, hb39⟩ := barLow_end _ _ hfin
          simp only at hxb hxe hb38 hb37 hb39
          subst hxb hxe
          have HUN := Lib.hid (show Calls Tryz.prog 15 #[.pointer (some ⟨x, 0, none⟩), .pointer (some ⟨kk, 0, none⟩), .int .i64 20] w7 (Does (.tuple #[.agg #[.int .i64 xo, .int .i64 xw, .int .i64 0, .bool xf, .complex .f64 xz.1 xz.2], .bool true]) ⟨own7, w7⟩ (acT 500 100) (fun g' => Sit w0 g' x kk xW)) from sit_until 20 (by decide) w0 ⟨own7, w7⟩ x kk _ S7.out _ hun)
          go_wp2_with fail
          refine HUN.out.mono ?_
          rintro e w8 ⟨rfl, own8, m8, s8⟩
          have S8 := Lib.hid s8
          have R8 := Lib.hid (R7.out.keep m8 (fun h => by unfold acT at h; omega))
          clear s8 m8 HUN S7 R7
          go_upto_region 38 with fail
          obtain ⟨own9, m9, B9⟩ := start1 ⟨own8, w8⟩ 36 [.int .i64 xo, .int .i64 xw, .int .i64 0, .bool xf, .complex .f64 xz.1 xz.2]
          have m9' : Mod (fun _ => False) (⟨own8, w8⟩ : GW) ⟨own9, w8.alloc (.cells #[.int .i64 xo, .int .i64 xw, .int .i64 0, .bool xf, .complex .f64 xz.1 xz.2] 36)⟩ := m9
          have B9' := Lib.hid (show Blk ⟨own9, w8.alloc (.cells #[.int .i64 xo, .int .i64 xw, .int .i64 0, .bool xf, .complex .f64 xz.1 xz.2] 36)⟩ 9 w8.heap.size 36 [.int .i64 xo, .int .i64 xw, .int .i64 0, .bool xf, .complex .f64 xz.1 xz.2] from B9)
          have S9 := Lib.hid (S8.out.keep m9')
          have R9 := Lib.hid (R8.out.keep m9' id)
          clear m9 B9 m9' S8 R8
          generalize w8.alloc (.cells #[.int .i64 xo, .int .i64 xw, .int .i64 0, .bool xf, .complex .f64 xz.1 xz.2] 36) = w9 at *
          generalize w8.heap.size = q9 at *
          obtain ⟨qh, rfl, hqh, -, hcell, -⟩ := R9.out.block (by decide)
          have hd0 := hcell 0 (.int .i64 39) rfl
          have hd1 := hcell 1 (.int .i64 38) rfl
          have hd2 := hcell 2 (.int .i64 37) rfl
          simp only at hqh
          clear hcell
          obtain ⟨bs8, bh8, c10, c12, ck, s0, sl, -, -⟩ := sit_core S9.out
          simp only at c10 c12 ck s0 sl
          obtain ⟨z0, z1, z2, z3, z4, zl⟩ := B9'.out.c5
          (try simp only [GW.to] at z0 z1 z2 z3 z4 zl)
          have HTB := Lib.hid (fun w => shade_table TbId.tb w)
          obtain ⟨f, hf⟩ : ∃ f : Int → Bool, ∀ i, xW.K.sp.tab.black i true = f i := ⟨_, fun _ => rfl⟩
          have f38 : f 38 = false := by rw [← hf]; exact hb38
          have f37 : f 37 = false := by rw [← hf]; exact hb37
          have HBK := Lib.hid (fun (X : Extra) (i : Int) => (show Calls Tryz.prog 20 #[.pointer (some ⟨TbId.tb, 0, none⟩), .int .i64 i, .bool true] (w9.patch X) (Gives (.bool (f i)) (w9.patch X)) from by have h := same_gives (sit_black (S9.out.keep (Mod.pt (Mod.refl (fun _ => False) _) X)) i true); rw [hf] at h; exact h))
          refine wp_region_mixed [true, true, true, true, true, true, true, true, true, true, true, true, true, true, true, true, true, true, true, true, true, true, true, true, true, true] 0 26 (by kernel_rfl) (by kernel_rfl) (by kernel_rfl) ?_ (by decide) (by decide) (by decide) (by kernel_rfl) ?_
          · intro c a d v w h; cases d <;> exact h
          intro X00
          simp only [pickOps]
          repeat (go_big_quiet_step (first | (go_at_call 12; exact Calls.added (HTB.out _)) | (go_at_call 20; exact Calls.added (HBK.out _ _))))
          refine wpQuiet_nil (fun X0 => ?_)
          clear X00
          refine wpAnyM_done (by kernel_rfl) (fun X0' => ?_) _
          rw [f38, f37]
          (try go_simp)
          obtain ⟨own10, m10⟩ : ∃ ownZ, Mod (fun _ => False) (⟨own9, w9⟩ : GW) ⟨ownZ, w9.patch ⟨X0.blocks ++ X0'.blocks, X0'.drawn⟩⟩ := ⟨_, Mod.pt (g := ⟨own9, w9⟩) (Mod.refl _ _) _⟩
          have S10 := Lib.hid (S9.out.keep m10)
          have R10 := Lib.hid (R9.out.keep m10 id)
          have B10 := Lib.hid (B9'.out.keep m10 id)
          generalize w9.patch ⟨X0.blocks ++ X0'.blocks, X0'.drawn⟩ = w10 at *
          clear m10 S9 R9 B9' HBK hd0 hd1 hd2 hqh c10 c12 ck s0 sl z0 z1 z2 z3 z4 zl
          go_upto_region 40 with fail
          obtain ⟨qh2, hAh, hqh, -, hcell, -⟩ := R10.out.block (by decide)
          injection hAh with hAh
          injection hAh with hAh
          subst hAh
          have hd0 := hcell 0 (.int .i64 39) rfl
          simp only at hqh
          clear hcell
          obtain ⟨bs8, bh8, c10, c12, ck, s0, sl, -, -⟩ := sit_core S10.out
          simp only at c10 c12 ck s0 sl
          obtain ⟨z0, z1, z2, z3, z4, zl⟩ := B10.out.c5
          (try simp only [GW.to] at z0 z1 z2 z3 z4 zl)
          have HB3 := Lib.hid (fun X => (show Calls Tryz.prog 20 #[.pointer (some ⟨TbId.tb, 0, none⟩), .int .i64 39, .bool true] (w10.patch X) (Gives (.bool false) (w10.patch X)) from by have h := same_gives (sit_black (S10.out.keep (Mod.pt (Mod.refl (fun _ => False) _) X)) 39 true); rw [show xW.K.sp.tab.black 39 true = false from hb39] at h; exact h))
          refine wp_region_mixed [true, true, true, true, true, true, true, true, true, true, true, true, true, true, true, true, true, true, true, true, true, true, true, true, true, true, true, true, true, true, true, true, true, true, true] 0 35 (by kernel_rfl) (by kernel_rfl) (by kernel_rfl) ?_ (by decide) (by decide) (by decide) (by kernel_rfl) ?_
          · intro c a d v w h; cases d <;> exact h
          intro X00
          simp only [pickOps]
          repeat (go_big_quiet_step (first | (go_at_call 6; exact Calls.added (HF.out _)) | (go_at_call 12; exact Calls.added (HTB.out _)) | (go_at_call 20; exact Calls.added (HB3.out _))))
          refine wpQuiet_nil (fun X0 => ?_)
          clear X00
          refine wpAnyM_done (by kernel_rfl) (fun X0' => ?_) _
          go_wp2_with fail
          go_ret
          exact Gives.bool rfl (E4.out.trans (S10.out.fin.trans (by (repeat (first | (with_reducible (first | assumption | exact zR _ | exact zM _ _ _ _)) | apply zA | refine zS ?_ (by first | exact zL _ | exact zK _ _ | assumption) _ | apply zP | apply zD | apply zN)))))
      · have hmp : (0 : Int) < (m : Int) := by omega
        rw [decide_eq_true hmp, if_pos rfl] at hpo
        obtain ⟨hco, hV⟩ := postR_some hpo
        subst hV
        obtain ⟨bs8, bh8, c10, c12, ck, s0, sl, hps, -⟩ := sit_core S4.out
        have HPS := Lib.hid (show Calls Tryz.prog 17 #[.pointer (some ⟨bh8, 0, none⟩), .int .i64 1, .bool true] w4 (Does (.bool true) ⟨own4, w4⟩ (acT 500 100) (fun g' => Sit w0 g' x kk (Vq.post 1 true))) from hps 1 true hco)
        simp only at c10 c12 ck s0 sl
        clear hps hpo hco
        go_wp2_with fail
        refine HPS.out.mono ?_
        rintro e w6 ⟨rfl, own6, m6, s6⟩
        have S6 := Lib.hid s6
        have R6 := Lib.hid (R4'.out.keep m6 (fun h => by unfold acT at h; omega))
        clear m6 s6 HPS S4 R4' c10 c12 ck s0 sl
        generalize Vq.post 1 true = V at *
        go_wp2_with fail
        go_loopw [13] (fun s wr => ∃ (j : Nat) (own : Nat → Nat) (W : AcW), j ≤ m ∧ j ≤ 2 ∧ s = .int .i64 ((j : Int) + 1) ∧ Hid (Sit w0 ⟨own, wr⟩ x kk W) ∧ Hid (Row ⟨own, wr⟩ 9 3 1 (.slice Ah 3 ch) 3 [.int .i64 39, .int .i64 38, .int .i64 37]) ∧ Hid (barStages (m - j) ((j : Int) + 1) W = some U)) (fun s _ => m + 1 - (intOf s).toNat)
        case atStart => exact ⟨0, own6, V, Nat.zero_le _, by decide, rfl, S6, R6, Lib.hid hsg⟩
        case round =>
          clear S6 R6 hsg own6
          obtain ⟨j, own5, W, hj, hj2, rfl, S5, R5, HC5⟩ := hrel
          obtain ⟨w5, rfl⟩ : ∃ w5 : World, w5 = wr := ⟨_, rfl⟩
          by_cases hlt : j < m
          · have hlt' : (j : Int) + 1 ≤ (m : Int) := by omega
            have hc5 := HC5.out
            rw [show m - j = m - j - 1 + 1 by omega] at hc5
            obtain ⟨U6, hu, hcase⟩ := barStages_step _ _ _ _ hc5
            clear hc5 HC5
            by_cases hj0 : j = 0
            · have hjn : decide ((1 : Int) < (j : Int) + 1) = false := decide_eq_false (by omega)
              have hWU : W = U6 := by have h := hu; rw [hjn] at h; simp only [Bool.false_eq_true, if_false] at h; injection h
              subst hWU
              clear hu
              have S6 := S5
              have R6 := R5
              clear S5 R5
              generalize own5 = own6 at *
              generalize w5 = w6 at *
              generalize W = U6 at *
              obtain ⟨h3, X6, ha6, hsx, hc6⟩ := hcase.resolve_left (fun h => by have := h.1; omega)
              clear hj0
              have HA6 := Lib.hid ha6
              have HC6 := Lib.hid hc6
              clear ha6 hc6
              have h3' : ((j : Int) + 1 == 3) = false := beq_eq_false_iff_ne.2 h3
              go_wp2_with fail
              go_loopw [14] (fun i wr => ∃ (q : Nat) (own : Nat → Nat) (Vq : AcW), q ≤ 6 ∧ i = .int .i64 q ∧ Hid (Sit w0 ⟨own, wr⟩ x kk Vq) ∧ Hid (Row ⟨own, wr⟩ 9 3 1 (.slice Ah 3 ch) 3 [.int .i64 39, .int .i64 38, .int .i64 37]) ∧ Hid (AcW.awaitR (6 - q) ((j : Int) + 1) Vq = some X6)) (fun i _ => 6 - (intOf i).toNat)
              case atStart => exact ⟨0, own6, U6, by decide, rfl, S6, R6, HA6⟩
              case round =>
                clear S6 R6 HA6 own6
                obtain ⟨q, own7, V7, hq, rfl, S7, R7, HA7⟩ := hrel
                obtain ⟨w7, rfl⟩ : ∃ w7 : World, w7 = wr := ⟨_, rfl⟩
                by_cases hlt : q < 6
                · have hlt' : (q : Int) < 6 := by omega
                  have HST := Lib.hid (sit_status S7.out)
                  simp only at HST
                  by_cases hs : V7.a.status = (j : Int) + 1
                  · have he := awaitR_exit _ _ _ _ HA7.out (Or.inr hs)
                    subst he
                    rw [hs] at HST
                    clear HA7 hs
                    go_wp2_with fail
                    refine HST.out.mono ?_
                    rintro e w' ⟨rfl, rfl⟩
                    have HST2 := Lib.hid (show Calls Tryz.prog 18 #[.pointer (some ⟨x, 0, none⟩)] w7 (fun e w' => e = .returned (.int .i64 ((j : Int) + 1)) ∧ w7 = w') from by have h := sit_status S7.out; rw [hsx] at h; exact h)
                    go_wp2_with fail
                    refine HST2.out.mono ?_
                    rintro e w' ⟨rfl, rfl⟩
                    go_wp2_with fail
                    go_roundw
                    case rel => exact ⟨j + 1, own7, X6, by omega, by omega, by go_num, S7, R7, Lib.hid (by rw [show m - (j + 1) = m - j - 1 by omega, show (((j + 1 : Nat) : Int) + 1) = (j : Int) + 1 + 1 by omega]; exact HC6.out)⟩
                    case measure => simp [intOf]; omega
                  · have hz : (V7.a.status != (j : Int) + 1) = true := by simp [hs]
                    have ha7 := HA7.out
                    obtain ⟨y, hy⟩ : ∃ y, 6 - q = y + 1 := ⟨6 - q - 1, by omega⟩
                    rw [hy] at ha7
                    obtain ⟨x8, hx8, ha8⟩ := awaitR_step _ _ _ _ ha7 hs
                    obtain ⟨⟨xr, xb⟩, xW⟩ := x8
                    simp only at ha8
                    have HSP := Lib.hid (show Calls Tryz.prog 9 #[.pointer (some ⟨x, 0, none⟩), .pointer (some ⟨kk, 0, none⟩)] w7 (Does (.tuple #[.agg #[.int .i64 xr.op, .int .i64 xr.own, .int .i64 xr.e, .bool xr.v.ref, .complex .f64 xr.v.z.1 xr.v.z.2], .bool xb]) ⟨own7, w7⟩ (acT 500 100) (fun g' => Sit w0 g' x kk xW)) from sit_step S7.out _ hx8)
                    generalize V7.a.status = st at *
                    clear ha7 HA7 hx8 hs
                    go_wp2_with fail
                    refine HST.out.mono ?_
                    rintro e w' ⟨rfl, rfl⟩
                    go_wp2_with fail
                    refine HSP.out.mono ?_
                    rintro e w8 ⟨rfl, own8, m8, s8⟩
                    have S8 := Lib.hid s8
                    have R8 := Lib.hid (R7.out.keep m8 (fun h => by unfold acT at h; omega))
                    clear s8 m8 HSP S7 R7 HST
                    go_wp2_with fail
                    go_roundw
                    case rel => exact ⟨q + 1, own8, xW, by omega, by go_num, S8, R8, Lib.hid (by rw [show 6 - (q + 1) = y by omega]; exact ha8)⟩
                    case measure => simp [intOf]; omega
                · obtain rfl : q = 6 := by omega
                  have he := awaitR_exit _ _ _ _ HA7.out (Or.inl rfl)
                  subst he
                  clear HA7
                  have HST2 := Lib.hid (show Calls Tryz.prog 18 #[.pointer (some ⟨x, 0, none⟩)] w7 (fun e w' => e = .returned (.int .i64 ((j : Int) + 1)) ∧ w7 = w') from by have h := sit_status S7.out; rw [hsx] at h; exact h)
                  go_wp2_with fail
                  refine HST2.out.mono ?_
                  rintro e w' ⟨rfl, rfl⟩
                  go_wp2_with fail
                  go_roundw
                  case rel => exact ⟨j + 1, own7, X6, by omega, by omega, by go_num, S7, R7, Lib.hid (by rw [show m - (j + 1) = m - j - 1 by omega, show (((j + 1 : Nat) : Int) + 1) = (j : Int) + 1 + 1 by omega]; exact HC6.out)⟩
                  case measure => simp [intOf]; omega
            · have hjp : (1 : Int) < (j : Int) + 1 := by omega
              rw [decide_eq_true hjp, if_pos rfl] at hu
              obtain ⟨hco, hV⟩ := postR_some hu
              subst hV
              obtain ⟨bs8, bh8, c10, c12, ck, s0, sl, hps, -⟩ := sit_core S5.out
              have hkn : HandS.knownB ((j : Int) + 1) = true := by unfold HandS.knownB; simp; omega
              have HPS := Lib.hid (show Calls Tryz.prog 17 #[.pointer (some ⟨bh8, 0, none⟩), .int .i64 ((j : Int) + 1), .bool false] w5 (Does (.bool true) ⟨own5, w5⟩ (acT 500 100) (fun g' => Sit w0 g' x kk (W.post ((j : Int) + 1) false))) from by have h := hps ((j : Int) + 1) false hco; rw [hkn] at h; exact h)
              simp only at c10 c12 ck s0 sl
              clear hps hu hco hkn
              go_wp2_with fail
              refine HPS.out.mono ?_
              rintro e w6 ⟨rfl, own6, m6, s6⟩
              have S6 := Lib.hid s6
              have R6 := Lib.hid (R5.out.keep m6 (fun h => by unfold acT at h; omega))
              clear m6 s6 HPS S5 R5 c10 c12 ck s0 sl
              generalize W.post ((j : Int) + 1) false = U6 at *
              rcases hcase with ⟨h3, hUU⟩ | ⟨h3, X6, ha6, hsx, hc6⟩
              · subst hUU
                obtain rfl : j = 2 := by omega
                have hm3 : m = 3 ∨ m = 4 := by omega
                rw [decide_eq_true (show (3 : Int) ≤ (m : Int) by omega), if_pos rfl] at hfin
                have HTR := Lib.hid (show Calls Tryz.prog 19 #[.pointer (some ⟨kk, 0, none⟩), .pointer (some ⟨x, 0, none⟩), .slice Ah 3 ch, .int .i64 m] w6 (fun e w' => e = .returned (.bool true) ∧ Ext w0 w') from traced_any w0 ⟨own6, w6⟩ x kk _ S6.out Ah ch R6.out m (by omega) hfin)
                clear hfin
                have hm3' : (3 : Int) ≤ (m : Int) := by omega
                go_wp2_with fail
                refine HTR.out.mono ?_
                rintro e w7 ⟨rfl, hX⟩
                have E7 := Lib.hid hX
                clear hX
                go_wp2_with fail
                go_ret
                exact Gives.bool rfl (E4.out.trans E7.out)
              · have HA6 := Lib.hid ha6
                have HC6 := Lib.hid hc6
                clear ha6 hc6
                have h3' : ((j : Int) + 1 == 3) = false := beq_eq_false_iff_ne.2 h3
                go_wp2_with fail
                go_loopw [14] (fun i wr => ∃ (q : Nat) (own : Nat → Nat) (Vq : AcW), q ≤ 6 ∧ i = .int .i64 q ∧ Hid (Sit w0 ⟨own, wr⟩ x kk Vq) ∧ Hid (Row ⟨own, wr⟩ 9 3 1 (.slice Ah 3 ch) 3 [.int .i64 39, .int .i64 38, .int .i64 37]) ∧ Hid (AcW.awaitR (6 - q) ((j : Int) + 1) Vq = some X6)) (fun i _ => 6 - (intOf i).toNat)
                case atStart => exact ⟨0, own6, U6, by decide, rfl, S6, R6, HA6⟩
                case round =>
                  clear S6 R6 HA6 own6
                  obtain ⟨q, own7, V7, hq, rfl, S7, R7, HA7⟩ := hrel
                  obtain ⟨w7, rfl⟩ : ∃ w7 : World, w7 = wr := ⟨_, rfl⟩
                  by_cases hlt : q < 6
                  · have hlt' : (q : Int) < 6 := by omega
                    have HST := Lib.hid (sit_status S7.out)
                    simp only at HST
                    by_cases hs : V7.a.status = (j : Int) + 1
                    · have he := awaitR_exit _ _ _ _ HA7.out (Or.inr hs)
                      subst he
                      rw [hs] at HST
                      clear HA7 hs
                      go_wp2_with fail
                      refine HST.out.mono ?_
                      rintro e w' ⟨rfl, rfl⟩
                      have HST2 := Lib.hid (show Calls Tryz.prog 18 #[.pointer (some ⟨x, 0, none⟩)] w7 (fun e w' => e = .returned (.int .i64 ((j : Int) + 1)) ∧ w7 = w') from by have h := sit_status S7.out; rw [hsx] at h; exact h)
                      go_wp2_with fail
                      refine HST2.out.mono ?_
                      rintro e w' ⟨rfl, rfl⟩
                      go_wp2_with fail
                      go_roundw
                      case rel => exact ⟨j + 1, own7, X6, by omega, by omega, by go_num, S7, R7, Lib.hid (by rw [show m - (j + 1) = m - j - 1 by omega, show (((j + 1 : Nat) : Int) + 1) = (j : Int) + 1 + 1 by omega]; exact HC6.out)⟩
                      case measure => simp [intOf]; omega
                    · have hz : (V7.a.status != (j : Int) + 1) = true := by simp [hs]
                      have ha7 := HA7.out
                      obtain ⟨y, hy⟩ : ∃ y, 6 - q = y + 1 := ⟨6 - q - 1, by omega⟩
                      rw [hy] at ha7
                      obtain ⟨x8, hx8, ha8⟩ := awaitR_step _ _ _ _ ha7 hs
                      obtain ⟨⟨xr, xb⟩, xW⟩ := x8
                      simp only at ha8
                      have HSP := Lib.hid (show Calls Tryz.prog 9 #[.pointer (some ⟨x, 0, none⟩), .pointer (some ⟨kk, 0, none⟩)] w7 (Does (.tuple #[.agg #[.int .i64 xr.op, .int .i64 xr.own, .int .i64 xr.e, .bool xr.v.ref, .complex .f64 xr.v.z.1 xr.v.z.2], .bool xb]) ⟨own7, w7⟩ (acT 500 100) (fun g' => Sit w0 g' x kk xW)) from sit_step S7.out _ hx8)
                      generalize V7.a.status = st at *
                      clear ha7 HA7 hx8 hs
                      go_wp2_with fail
                      refine HST.out.mono ?_
                      rintro e w' ⟨rfl, rfl⟩
                      go_wp2_with fail
                      refine HSP.out.mono ?_
                      rintro e w8 ⟨rfl, own8, m8, s8⟩
                      have S8 := Lib.hid s8
                      have R8 := Lib.hid (R7.out.keep m8 (fun h => by unfold acT at h; omega))
                      clear s8 m8 HSP S7 R7 HST
                      go_wp2_with fail
                      go_roundw
                      case rel => exact ⟨q + 1, own8, xW, by omega, by go_num, S8, R8, Lib.hid (by rw [show 6 - (q + 1) = y by omega]; exact ha8)⟩
                      case measure => simp [intOf]; omega
                  · obtain rfl : q = 6 := by omega
                    have he := awaitR_exit _ _ _ _ HA7.out (Or.inl rfl)
                    subst he
                    clear HA7
                    have HST2 := Lib.hid (show Calls Tryz.prog 18 #[.pointer (some ⟨x, 0, none⟩)] w7 (fun e w' => e = .returned (.int .i64 ((j : Int) + 1)) ∧ w7 = w') from by have h := sit_status S7.out; rw [hsx] at h; exact h)
                    go_wp2_with fail
                    refine HST2.out.mono ?_
                    rintro e w' ⟨rfl, rfl⟩
                    go_wp2_with fail
                    go_roundw
                    case rel => exact ⟨j + 1, own7, X6, by omega, by omega, by go_num, S7, R7, Lib.hid (by rw [show m - (j + 1) = m - j - 1 by omega, show (((j + 1 : Nat) : Int) + 1) = (j : Int) + 1 + 1 by omega]; exact HC6.out)⟩
                    case measure => simp [intOf]; omega
          · obtain rfl : j = m := by omega
            have hU : W = U := by have h := HC5.out; rw [Nat.sub_self] at h; unfold barStages at h; injection h
            subst hU
            clear HC5
            have S7 := S5
            have R7 := R5
            clear S5 R5
            generalize own5 = own7 at *
            generalize w5 = w7 at *
            rcases (show j = 1 ∨ j = 2 by omega) with rfl | rfl
            · have hfin' : barLow 1 W = true := hfin
              clear hfin
              have hfin := hfin'
              obtain ⟨⟨⟨⟨xo, xw, xe, ⟨xf, xz⟩⟩, xb⟩, xW⟩, hun, hxb, hxe, hb38, hb37, hb39⟩ := barLow_end _ _ hfin
              simp only at hxb hxe hb38 hb37 hb39
              subst hxb hxe
              have HUN := Lib.hid (show Calls Tryz.prog 15 #[.pointer (some ⟨x, 0, none⟩), .pointer (some ⟨kk, 0, none⟩), .int .i64 20] w7 (Does (.tuple #[.agg #[.int .i64 xo, .int .i64 xw, .int .i64 0, .bool xf, .complex .f64 xz.1 xz.2], .bool true]) ⟨own7, w7⟩ (acT 500 100) (fun g' => Sit w0 g' x kk xW)) from sit_until 20 (by decide) w0 ⟨own7, w7⟩ x kk _ S7.out _ hun)
              go_wp2_with fail
              refine HUN.out.mono ?_
              rintro e w8 ⟨rfl, own8, m8, s8⟩
              have S8 := Lib.hid s8
              have R8 := Lib.hid (R7.out.keep m8 (fun h => by unfold acT at h; omega))
              clear s8 m8 HUN S7 R7
              go_upto_region 38 with fail
              obtain ⟨own9, m9, B9⟩ := start1 ⟨own8, w8⟩ 36 [.int .i64 xo, .int .i64 xw, .int .i64 0, .bool xf, .complex .f64 xz.1 xz.2]
              have m9' : Mod (fun _ => False) (⟨own8, w8⟩ : GW) ⟨own9, w8.alloc (.cells #[.int .i64 xo, .int .i64 xw, .int .i64 0, .bool xf, .complex .f64 xz.1 xz.2] 36)⟩ := m9
              have B9' := Lib.hid (show Blk ⟨own9, w8.alloc (.cells #[.int .i64 xo, .int .i64 xw, .int .i64 0, .bool xf, .complex .f64 xz.1 xz.2] 36)⟩ 9 w8.heap.size 36 [.int .i64 xo, .int .i64 xw, .int .i64 0, .bool xf, .complex .f64 xz.1 xz.2] from B9)
              have S9 := Lib.hid (S8.out.keep m9')
              have R9 := Lib.hid (R8.out.keep m9' id)
              clear m9 B9 m9' S8 R8
              generalize w8.alloc (.cells #[.int .i64 xo, .int .i64 xw, .int .i64 0, .bool xf, .complex .f64 xz.1 xz.2] 36) = w9 at *
              generalize w8.heap.size = q9 at *
              obtain ⟨qh, rfl, hqh, -, hcell, -⟩ := R9.out.block (by decide)
              have hd0 := hcell 0 (.int .i64 39) rfl
              have hd1 := hcell 1 (.int .i64 38) rfl
              have hd2 := hcell 2 (.int .i64 37) rfl
              simp only at hqh
              clear hcell
              obtain ⟨bs8, bh8, c10, c12, ck, s0, sl, -, -⟩ := sit_core S9.out
              simp only at c10 c12 ck s0 sl
              obtain ⟨z0, z1, z2, z3, z4, zl⟩ := B9'.out.c5
              (try simp only [GW.to] at z0 z1 z2 z3 z4 zl)
              have HTB := Lib.hid (fun w => shade_table TbId.tb w)
              obtain ⟨f, hf⟩ : ∃ f : Int → Bool, ∀ i, xW.K.sp.tab.black i true = f i := ⟨_, fun _ => rfl⟩
              have f38 : f 38 = true := by rw [← hf]; exact hb38
              have f37 : f 37 = true := by rw [← hf]; exact hb37
              have HBK := Lib.hid (fun (X : Extra) (i : Int) => (show Calls Tryz.prog 20 #[.pointer (some ⟨TbId.tb, 0, none⟩), .int .i64 i, .bool true] (w9.patch X) (Gives (.bool (f i)) (w9.patch X)) from by have h := same_gives (sit_black (S9.out.keep (Mod.pt (Mod.refl (fun _ => False) _) X)) i true); rw [hf] at h; exact h))
              refine wp_region_mixed [true, true, true, true, true, true, true, true, true, true, true, true, true, true, true, true, true, true, true, true, true, true, true, true, true, true] 0 26 (by kernel_rfl) (by kernel_rfl) (by kernel_rfl) ?_ (by decide) (by decide) (by decide) (by kernel_rfl) ?_
              · intro c a d v w h; cases d <;> exact h
              intro X00
              simp only [pickOps]
              repeat (go_big_quiet_step (first | (go_at_call 12; exact Calls.added (HTB.out _)) | (go_at_call 20; exact Calls.added (HBK.out _ _))))
              refine wpQuiet_nil (fun X0 => ?_)
              clear X00
              refine wpAnyM_done (by kernel_rfl) (fun X0' => ?_) _
              rw [f38, f37]
              (try go_simp)
              obtain ⟨own10, m10⟩ : ∃ ownZ, Mod (fun _ => False) (⟨own9, w9⟩ : GW) ⟨ownZ, w9.patch ⟨X0.blocks ++ X0'.blocks, X0'.drawn⟩⟩ := ⟨_, Mod.pt (g := ⟨own9, w9⟩) (Mod.refl _ _) _⟩
              have S10 := Lib.hid (S9.out.keep m10)
              have R10 := Lib.hid (R9.out.keep m10 id)
              have B10 := Lib.hid (B9'.out.keep m10 id)
              generalize w9.patch ⟨X0.blocks ++ X0'.blocks, X0'.drawn⟩ = w10 at *
              clear m10 S9 R9 B9' HBK hd0 hd1 hd2 hqh c10 c12 ck s0 sl z0 z1 z2 z3 z4 zl
              go_upto_region 40 with fail
              obtain ⟨qh2, hAh, hqh, -, hcell, -⟩ := R10.out.block (by decide)
              injection hAh with hAh
              injection hAh with hAh
              subst hAh
              have hd0 := hcell 0 (.int .i64 39) rfl
              simp only at hqh
              clear hcell
              obtain ⟨bs8, bh8, c10, c12, ck, s0, sl, -, -⟩ := sit_core S10.out
              simp only at c10 c12 ck s0 sl
              obtain ⟨z0, z1, z2, z3, z4, zl⟩ := B10.out.c5
              (try simp only [GW.to] at z0 z1 z2 z3 z4 zl)
              have HB3 := Lib.hid (fun X => (show Calls Tryz.prog 20 #[.pointer (some ⟨TbId.tb, 0, none⟩), .int .i64 39, .bool true] (w10.patch X) (Gives (.bool false) (w10.patch X)) from by have h := same_gives (sit_black (S10.out.keep (Mod.pt (Mod.refl (fun _ => False) _) X)) 39 true); rw [show xW.K.sp.tab.black 39 true = false from hb39] at h; exact h))
              refine wp_region_mixed [true, true, true, true, true, true, true, true, true, true, true, true, true, true, true, true, true, true, true, true, true, true, true, true, true, true, true, true, true, true, true, true, true, true, true] 0 35 (by kernel_rfl) (by kernel_rfl) (by kernel_rfl) ?_ (by decide) (by decide) (by decide) (by kernel_rfl) ?_
              · intro c a d v w h; cases d <;> exact h
              intro X00
              simp only [pickOps]
              repeat (go_big_quiet_step (first | (go_at_call 6; exact Calls.added (HF.out _)) | (go_at_call 12; exact Calls.added (HTB.out _)) | (go_at_call 20; exact Calls.added (HB3.out _))))
              refine wpQuiet_nil (fun X0 => ?_)
              clear X00
              refine wpAnyM_done (by kernel_rfl) (fun X0' => ?_) _
              go_wp2_with fail
              go_ret
              exact Gives.bool rfl (E4.out.trans (S10.out.fin.trans (by (repeat (first | (with_reducible (first | assumption | exact zR _ | exact zM _ _ _ _)) | apply zA | refine zS ?_ (by first | exact zL _ | exact zK _ _ | assumption) _ | apply zP | apply zD | apply zN)))))
            · have hfin' : barLow 2 W = true := hfin
              clear hfin
              have hfin := hfin'
              obtain ⟨⟨⟨⟨xo, xw, xe, ⟨xf, xz⟩⟩, xb⟩, xW⟩, hun, hxb, hxe, hb38, hb37, hb39⟩ := barLow_end _ _ hfin
              simp only at hxb hxe hb38 hb37 hb39
              subst hxb hxe
              have HUN := Lib.hid (show Calls Tryz.prog 15 #[.pointer (some ⟨x, 0, none⟩), .pointer (some ⟨kk, 0, none⟩), .int .i64 20] w7 (Does (.tuple #[.agg #[.int .i64 xo, .int .i64 xw, .int .i64 0, .bool xf, .complex .f64 xz.1 xz.2], .bool true]) ⟨own7, w7⟩ (acT 500 100) (fun g' => Sit w0 g' x kk xW)) from sit_until 20 (by decide) w0 ⟨own7, w7⟩ x kk _ S7.out _ hun)
              go_wp2_with fail
              refine HUN.out.mono ?_
              rintro e w8 ⟨rfl, own8, m8, s8⟩
              have S8 := Lib.hid s8
              have R8 := Lib.hid (R7.out.keep m8 (fun h => by unfold acT at h; omega))
              clear s8 m8 HUN S7 R7
              go_upto_region 38 with fail
              obtain ⟨own9, m9, B9⟩ := start1 ⟨own8, w8⟩ 36 [.int .i64 xo, .int .i64 xw, .int .i64 0, .bool xf, .complex .f64 xz.1 xz.2]
              have m9' : Mod (fun _ => False) (⟨own8, w8⟩ : GW) ⟨own9, w8.alloc (.cells #[.int .i64 xo, .int .i64 xw, .int .i64 0, .bool xf, .complex .f64 xz.1 xz.2] 36)⟩ := m9
              have B9' := Lib.hid (show Blk ⟨own9, w8.alloc (.cells #[.int .i64 xo, .int .i64 xw, .int .i64 0, .bool xf, .complex .f64 xz.1 xz.2] 36)⟩ 9 w8.heap.size 36 [.int .i64 xo, .int .i64 xw, .int .i64 0, .bool xf, .complex .f64 xz.1 xz.2] from B9)
              have S9 := Lib.hid (S8.out.keep m9')
              have R9 := Lib.hid (R8.out.keep m9' id)
              clear m9 B9 m9' S8 R8
              generalize w8.alloc (.cells #[.int .i64 xo, .int .i64 xw, .int .i64 0, .bool xf, .complex .f64 xz.1 xz.2] 36) = w9 at *
              generalize w8.heap.size = q9 at *
              obtain ⟨qh, rfl, hqh, -, hcell, -⟩ := R9.out.block (by decide)
              have hd0 := hcell 0 (.int .i64 39) rfl
              have hd1 := hcell 1 (.int .i64 38) rfl
              have hd2 := hcell 2 (.int .i64 37) rfl
              simp only at hqh
              clear hcell
              obtain ⟨bs8, bh8, c10, c12, ck, s0, sl, -, -⟩ := sit_core S9.out
              simp only at c10 c12 ck s0 sl
              obtain ⟨z0, z1, z2, z3, z4, zl⟩ := B9'.out.c5
              (try simp only [GW.to] at z0 z1 z2 z3 z4 zl)
              have HTB := Lib.hid (fun w => shade_table TbId.tb w)
              obtain ⟨f, hf⟩ : ∃ f : Int → Bool, ∀ i, xW.K.sp.tab.black i true = f i := ⟨_, fun _ => rfl⟩
              have f38 : f 38 = true := by rw [← hf]; exact hb38
              have f37 : f 37 = true := by rw [← hf]; exact hb37
              have HBK := Lib.hid (fun (X : Extra) (i : Int) => (show Calls Tryz.prog 20 #[.pointer (some ⟨TbId.tb, 0, none⟩), .int .i64 i, .bool true] (w9.patch X) (Gives (.bool (f i)) (w9.patch X)) from by have h := same_gives (sit_black (S9.out.keep (Mod.pt (Mod.refl (fun _ => False) _) X)) i true); rw [hf] at h; exact h))
              refine wp_region_mixed [true, true, true, true, true, true, true, true, true, true, true, true, true, true, true, true, true, true, true, true, true, true, true, true, true, true] 0 26 (by kernel_rfl) (by kernel_rfl) (by kernel_rfl) ?_ (by decide) (by decide) (by decide) (by kernel_rfl) ?_
              · intro c a d v w h; cases d <;> exact h
              intro X00
              simp only [pickOps]
              repeat (go_big_quiet_step (first | (go_at_call 12; exact Calls.added (HTB.out _)) | (go_at_call 20; exact Calls.added (HBK.out _ _))))
              refine wpQuiet_nil (fun X0 => ?_)
              clear X00
              refine wpAnyM_done (by kernel_rfl) (fun X0' => ?_) _
              rw [f38, f37]
              (try go_simp)
              obtain ⟨own10, m10⟩ : ∃ ownZ, Mod (fun _ => False) (⟨own9, w9⟩ : GW) ⟨ownZ, w9.patch ⟨X0.blocks ++ X0'.blocks, X0'.drawn⟩⟩ := ⟨_, Mod.pt (g := ⟨own9, w9⟩) (Mod.refl _ _) _⟩
              have S10 := Lib.hid (S9.out.keep m10)
              have R10 := Lib.hid (R9.out.keep m10 id)
              have B10 := Lib.hid (B9'.out.keep m10 id)
              generalize w9.patch ⟨X0.blocks ++ X0'.blocks, X0'.drawn⟩ = w10 at *
              clear m10 S9 R9 B9' HBK hd0 hd1 hd2 hqh c10 c12 ck s0 sl z0 z1 z2 z3 z4 zl
              go_upto_region 40 with fail
              obtain ⟨qh2, hAh, hqh, -, hcell, -⟩ := R10.out.block (by decide)
              injection hAh with hAh
              injection hAh with hAh
              subst hAh
              have hd0 := hcell 0 (.int .i64 39) rfl
              simp only at hqh
              clear hcell
              obtain ⟨bs8, bh8, c10, c12, ck, s0, sl, -, -⟩ := sit_core S10.out
              simp only at c10 c12 ck s0 sl
              obtain ⟨z0, z1, z2, z3, z4, zl⟩ := B10.out.c5
              (try simp only [GW.to] at z0 z1 z2 z3 z4 zl)
              have HB3 := Lib.hid (fun X => (show Calls Tryz.prog 20 #[.pointer (some ⟨TbId.tb, 0, none⟩), .int .i64 39, .bool true] (w10.patch X) (Gives (.bool false) (w10.patch X)) from by have h := same_gives (sit_black (S10.out.keep (Mod.pt (Mod.refl (fun _ => False) _) X)) 39 true); rw [show xW.K.sp.tab.black 39 true = false from hb39] at h; exact h))
              refine wp_region_mixed [true, true, true, true, true, true, true, true, true, true, true, true, true, true, true, true, true, true, true, true, true, true, true, true, true, true, true, true, true, true, true, true, true, true, true] 0 35 (by kernel_rfl) (by kernel_rfl) (by kernel_rfl) ?_ (by decide) (by decide) (by decide) (by kernel_rfl) ?_
              · intro c a d v w h; cases d <;> exact h
              intro X00
              simp only [pickOps]
              repeat (go_big_quiet_step (first | (go_at_call 6; exact Calls.added (HF.out _)) | (go_at_call 12; exact Calls.added (HTB.out _)) | (go_at_call 20; exact Calls.added (HB3.out _))))
              refine wpQuiet_nil (fun X0 => ?_)
              clear X00
              refine wpAnyM_done (by kernel_rfl) (fun X0' => ?_) _
              go_wp2_with fail
              go_ret
              exact Gives.bool rfl (E4.out.trans (S10.out.fin.trans (by (repeat (first | (with_reducible (first | assumption | exact zR _ | exact zM _ _ _ _)) | apply zA | refine zS ?_ (by first | exact zL _ | exact zK _ _ | assumption) _ | apply zP | apply zD | apply zN)))))
end Go.Proofs.YtoaehfdjffejeaaGreat

