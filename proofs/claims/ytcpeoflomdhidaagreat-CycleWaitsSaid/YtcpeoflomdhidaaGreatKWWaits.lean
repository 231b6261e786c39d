import Derived.Test.YtcpeoflomdhidaaGreatKW18
open Go.Ext renaming alloc → zA, patch → zP, drew → zD, drewN → zN, more → zM, refl → zR, setCell → zS
open Nat renaming le_refl → zL, le_add_right → zK
/-
  CycleWaits: the walk.
-/
namespace Go.Proofs.YtcpeoflomdhidaaGreat
open Go Go.RowKit
set_option linter.unusedVariables false
set_option linter.unnecessarySimpa false
set_option linter.unusedSimpArgs false
set_option maxHeartbeats 4000000
set_option maxRecDepth 100000
def stagesV : List Value := [.int .i64 2, .int .i64 3, .int .i64 4, .int .i64 6, .int .i64 8]
theorem stages_at (n : Nat) (h : n < 5) : stagesV[n]? = some (.int .i64 ([2, 3, 4, 6, 8].getD n 0)) := by
  match n, h with
  | 0, _ => rfl
  | 1, _ => rfl
  | 2, _ => rfl
  | 3, _ => rfl
  | 4, _ => rfl
theorem waits_any (which : Int) (w : World) : Calls Tryz.prog 4 #[.int .i64 which] w (Gives (.bool true) w) := by
  have HF := Lib.hid (fun w => first24_any w)
  go_enter Tryz.func4, Tryz.ntmps4
  go_wp2_with fail
  refine (HF.out _).mono ?_
  rintro e w1 ⟨rfl, hX⟩
  have E1 := Lib.hid (show Ext w w1 from hX)
  clear hX
  by_cases hlo : which < 0
  · have d0 : decide (which < 0) = true := decide_eq_true hlo
    clear hlo
    go_wp2_with fail
    refine (HF.out _).mono ?_
    rintro e w9 ⟨rfl, hX⟩
    have E9 := Lib.hid (show Ext w1 w9 from hX)
    clear hX
    go_wp2_with fail
    go_ret
    exact Gives.bool rfl (E1.out.trans E9.out)
  by_cases hhi : 4 < which
  · have d0 : decide (which < 0) = false := decide_eq_false hlo
    have d1 : decide (4 < which) = true := decide_eq_true hhi
    clear hlo hhi
    go_wp2_with fail
    refine (HF.out _).mono ?_
    rintro e w9 ⟨rfl, hX⟩
    have E9 := Lib.hid (show Ext w1 w9 from hX)
    clear hX
    go_wp2_with fail
    go_ret
    exact Gives.bool rfl (E1.out.trans E9.out)
  obtain ⟨m, rfl⟩ := Int.eq_ofNat_of_zero_le (show 0 ≤ which by omega)
  have hm : m < 5 := by omega
  have d0 : decide ((m : Int) < 0) = false := decide_eq_false hlo
  have d1 : decide (4 < (m : Int)) = false := decide_eq_false hhi
  clear hlo hhi
  have HCH := Lib.hid (chains_any 20 9 w1)
  go_wp2_with fail
  refine HCH.out.mono ?_
  rintro e w2 ⟨A, A1, A2, rfl, hE, hOK⟩
  have E2 := Lib.hid (E1.out.trans hE)
  have E2b := Lib.hid (show Ext w2 (w2.alloc (.cells #[.int .i64 12, .int .i64 0, .int .i64 0, .int .i64 0, .int .i64 0, .complex .f64 0 0] 80)) by (repeat (first | (with_reducible (first | assumption | exact zR _ | exact zM _ _ _ _)) | apply zA | refine zS ?_ (by first | exact zL _ | exact zK _ _ | assumption) _ | apply zP | apply zD | apply zN)))
  have HAL := Lib.hid (alone_any (cChain 20 9 A A1 A2) (some ⟨w2.heap.size, 0, none⟩) 1 [opW] (w2.alloc (.cells #[.int .i64 12, .int .i64 0, .int .i64 0, .int .i64 0, .int .i64 0, .complex .f64 0 0] 80)) 1 rfl (cChain_check A A1 A2) (hOK.ext E2b.out) rfl (by decide) (cellsAt_new w2 [.int .i64 12, .int .i64 0, .int .i64 0, .int .i64 0, .int .i64 0, .complex .f64 0 0] _ _ rfl))
  obtain ⟨x0, EE, hx0, hcn, hrun, hfin, herr⟩ := waits_run A A1 A2 m (waits_all A A1 A2 m hm)
  obtain ⟨D0, hDe⟩ : ∃ D0, D0 = aloneD (cChain 20 9 A A1 A2) [opW] := ⟨_, rfl⟩
  rw [← hDe] at hx0 hrun hcn
  have HX0 := Lib.hid hx0
  have HRUN := Lib.hid hrun
  have HDE := Lib.hid hDe
  clear hE hOK hx0 hrun HCH d0 d1 hDe
  generalize (cChain 20 9 A A1 A2).val = cv at *
  go_wp2_with fail
  refine HAL.out.mono ?_
  rintro e w3 ⟨w0, own3, k, y, a, rfl, hE0, hD0⟩
  have E3 := Lib.hid ((E2.out.trans E2b.out).trans hE0)
  rw [← HDE.out] at hD0
  have HSA := Lib.hid (duo_stepA hD0 x0 HX0.out)
  clear HDE
  generalize resV x0.1 = rx at *
  clear hE0 hD0 HAL HX0 E1 E2 E2b
  go_wp2_with fail
  refine HSA.out.mono ?_
  rintro e w4 ⟨rfl, own4, m4, s4⟩
  obtain ⟨bsp, hcl, hkl, hfo⟩ := duo_force s4 (of_decide_eq_true hcn)
  have HFO := Lib.hid hfo
  simp only at hcl hkl
  clear m4 s4 HSA hcn hfo
  go_wp2_with fail
  refine HFO.out.mono ?_
  rintro e w5 ⟨rfl, own5, m5, s5⟩
  have S5 := Lib.hid s5
  generalize DuW.force (DuW.putA D0 x0.2) = D1 at *
  clear m5 s5 HFO hcl hkl
  go_upto_region 11 with fail
  obtain ⟨own6, m6, B6⟩ := start1 ⟨own5, w5⟩ 3 stagesV
  have S6 := Lib.hid (S5.out.keep m6)
  have B6' := Lib.hid (show Blk ⟨own6, w5.alloc (.cells #[.int .i64 2, .int .i64 3, .int .i64 4, .int .i64 6, .int .i64 8] 3)⟩ 9 w5.heap.size 3 stagesV from B6)
  have S6' := Lib.hid (show DuIs w0 ⟨own6, w5.alloc (.cells #[.int .i64 2, .int .i64 3, .int .i64 4, .int .i64 6, .int .i64 8] 3)⟩ a y k D1 from S6.out)
  clear m6 B6 S6 S5
  generalize w5.alloc (.cells #[.int .i64 2, .int .i64 3, .int .i64 4, .int .i64 6, .int .i64 8] 3) = w6 at *
  generalize w5.heap.size = q at *
  go_wp2_with fail
  go_loopw [7, 8] (fun n i wr => ∃ (j nn : Nat) (own : Nat → Nat) (D : DuW), j ≤ 2000 ∧ nn ≤ j ∧ n = .int .i64 nn ∧ i = .int .i64 j ∧ Hid (DuIs w0 ⟨own, wr⟩ a y k D) ∧ Hid (Blk ⟨own, wr⟩ 9 q 3 stagesV) ∧ Hid (DuW.waitRun m (2000 - j) nn D = some (5, EE))) (fun _ i _ => 2000 - (intOf i).toNat)
  case atStart => exact ⟨0, 0, own6, D1, Nat.zero_le _, Nat.le_refl _, rfl, rfl, S6', B6', HRUN⟩
  case round =>
    clear S6' B6' HRUN
    obtain ⟨j, nn, own6, D, hj, hn, rfl, rfl, S6, B6, HR6⟩ := hrel
    obtain ⟨w6, rfl⟩ : ∃ w6 : World, w6 = wr := ⟨_, rfl⟩
    by_cases hlt : j < 2000
    · have hlt' : (j : Int) < 2000 := by omega
      have HF6 := Lib.hid (duo_finished S6.out)
      by_cases hf0 : D.y.finished = 0
      · rw [hf0] at HF6
        obtain ⟨f, hf⟩ : ∃ f, 2000 - j = f + 1 := ⟨2000 - j - 1, by omega⟩
        have hr := HR6.out
        rw [hf] at hr
        obtain ⟨V, hV, hok, hcs⟩ := DuW.waitRun_step _ _ _ _ _ hr hf0
        have HSC := Lib.hid (duo_stepC S6.out V hV)
        clear hr hV HR6 S6
        go_wp2_with fail
        refine HF6.out.mono ?_
        rintro e w' ⟨rfl, rfl⟩
        go_wp2_with fail
        refine HSC.out.mono ?_
        rintro e w7 ⟨rfl, own7, m7, s7⟩
        have B7 := Lib.hid (B6.out.keep m7 (fun h => by simp only [duT, acT, cyT] at h; omega))
        have HST := Lib.hid (duo_status s7)
        have HPO := Lib.hid (duo_posted s7 hok)
        clear m7 s7 HSC HF6 hf0 hok
        generalize DuW.putC D V = D2 at *
        have hsd : D2.same = (D2.a.status == D2.K.hand.status) := rfl
        rw [hsd] at hcs
        clear hsd
        generalize D2.a.status = sa at *
        generalize D2.K.hand.status = sb at *
        go_wp2_with fail
        refine HST.out.mono ?_
        rintro e w' ⟨rfl, rfl⟩
        go_wp2_with fail
        refine HPO.out.mono ?_
        rintro e w8 ⟨rfl, own8, m8, s8⟩
        have S8 := Lib.hid s8
        have B8 := Lib.hid (B7.out.keep m8 (fun h => by simp only [duT, acT, cyT] at h; omega))
        clear m8 s8 HST HPO B7 B6
        generalize DuW.tick D2 = D3 at *
        rcases hcs with ⟨hsm, hnx⟩ | ⟨hsm, D3', D4, hM, hJ, hnx⟩
        · go_wp2_with fail
          go_roundw
          case rel => exact ⟨j + 1, nn, own8, D3, by omega, by omega, by go_num, by go_num, S8, B8, Lib.hid (by rw [show 2000 - (j + 1) = f by omega]; exact hnx)⟩
          case measure => simp [intOf]; omega
        · have HR9 := Lib.hid hnx
          have HJ := Lib.hid hJ
          clear hnx hJ
          by_cases hnm : nn = m
          · obtain ⟨hY, hs3, hf3⟩ := DuW.waitM_yes _ _ _ _ hM hnm
            have HY := Lib.hid hY
            have hst := stages_at nn (by omega)
            generalize ([2, 3, 4, 6, 8] : List Int).getD nn 0 = st at *
            have hbm : ((nn : Int) == (m : Int)) = true := by simp [hnm]
            have hn5 : nn < 5 := by omega
            clear hY hM hnm
            go_wp2_with fail
            go_loopw [9] (fun i wr => ∃ (l : Nat) (own : Nat → Nat) (E : DuW), l ≤ 100 ∧ i = .int .i64 l ∧ Hid (DuIs w0 ⟨own, wr⟩ a y k E) ∧ Hid (Blk ⟨own, wr⟩ 9 q 3 stagesV) ∧ Hid (DuW.waitY (100 - l) E = some D3')) (fun i _ => 100 - (intOf i).toNat)
            case atStart => exact ⟨0, own8, D3, Nat.zero_le _, rfl, S8, B8, HY⟩
            case round =>
              obtain ⟨l, own9, E9, hl, rfl, S9, B9, Y9⟩ := hrel
              obtain ⟨w9, rfl⟩ : ∃ w9 : World, w9 = wr := ⟨_, rfl⟩
              clear S8 B8 HY
              by_cases hl1 : l < 100
              · have hl1' : (l : Int) < 100 := by omega
                obtain ⟨p, hp⟩ : ∃ p, 100 - l = p + 1 := ⟨100 - l - 1, by omega⟩
                have hy := Y9.out
                rw [hp] at hy
                obtain ⟨V9, hV9, hnx⟩ := DuW.waitY_step _ _ _ hy
                have HSC := Lib.hid (duo_stepC S9.out V9 hV9)
                clear hy hV9 Y9
                go_wp2_with fail
                refine HSC.out.mono ?_
                rintro e w10 ⟨rfl, own10, m10, s10⟩
                have S10 := Lib.hid s10
                have B10 := Lib.hid (B9.out.keep m10 (fun h => by simp only [duT, acT, cyT] at h; omega))
                clear m10 s10 HSC S9 B9
                go_wp2_with fail
                go_roundw
                case rel => exact ⟨l + 1, own10, _, by omega, by go_num, S10, B10, Lib.hid (by rw [show 100 - (l + 1) = p by omega]; exact hnx)⟩
                case measure => simp [intOf]; omega
              · obtain rfl : l = 100 := by omega
                have hy := DuW.waitY_end _ _ Y9.out
                subst hy
                clear Y9 hl hl1
                have HG9 := Lib.hid (fun X => (show Calls Tryz.prog 39 #[.pointer (some ⟨y, 0, none⟩)] ((⟨own9, w9⟩ : GW).pt X).w (Gives (.int .i64 st) _) from hs3 ▸ same_gives (duo_stage (S9.out.keep (Mod.pt (Mod.refl _ _) X)))))
                have HF9 := Lib.hid (fun X => (show Calls Tryz.prog 35 #[.pointer (some ⟨y, 0, none⟩)] ((⟨own9, w9⟩ : GW).pt X).w (Gives (.int .i64 0) _) from hf3 ▸ same_gives (duo_finished (S9.out.keep (Mod.pt (Mod.refl _ _) X)))))
                have z0 := B9.out.cell hst
                have zl := B9.out.lt
                simp only at z0 zl
                clear hs3 hf3 hst
                go_upto_region 22 with fail
                refine wp_region_mixed [true, true, true, true, true, true, true, true, true, true, true, true] 0 12 (by kernel_rfl) (by kernel_rfl) (by kernel_rfl) ?_ (by decide) (by decide) (by decide) (by kernel_rfl) ?_
                · intro c a d v w h; cases d <;> exact h
                intro X00
                simp only [pickOps]
                repeat (go_big_quiet_step (first | (go_at_call 39; exact Calls.added (HG9.out _)) | (go_at_call 35; exact Calls.added (HF9.out _))))
                refine wpQuiet_nil (fun X0 => ?_)
                clear X00
                refine wpAnyM_done (by kernel_rfl) (fun X0' => ?_) _
                (try go_simp)
                obtain ⟨own10, m10⟩ : ∃ ownZ, Mod (fun _ => False) (⟨own9, w9⟩ : GW) ⟨ownZ, w9.patch ⟨X0.blocks ++ X0'.blocks, X0'.drawn⟩⟩ := ⟨_, Mod.pt (g := ⟨own9, w9⟩) (Mod.refl _ _) _⟩
                have S10 := Lib.hid (S9.out.keep m10)
                have B10 := Lib.hid (B9.out.keep m10 id)
                generalize w9.patch ⟨X0.blocks ++ X0'.blocks, X0'.drawn⟩ = w10 at *
                clear m10 S9 B9 HG9 HF9 z0 zl
                go_wp2_with fail
                go_loopw [10] (fun i wr => ∃ (l : Nat) (own : Nat → Nat) (E : DuW), l ≤ 9 ∧ i = .int .i64 l ∧ Hid (DuIs w0 ⟨own, wr⟩ a y k E) ∧ Hid (Blk ⟨own, wr⟩ 9 q 3 stagesV) ∧ Hid (DuW.waitJ (9 - l) E = some D4)) (fun i _ => 9 - (intOf i).toNat)
                case atStart => exact ⟨0, own10, _, Nat.zero_le _, rfl, S10, B10, HJ⟩
                case round =>
                  obtain ⟨l, own11, E11, hl, rfl, S11, B11, J11⟩ := hrel
                  obtain ⟨w11, rfl⟩ : ∃ w11 : World, w11 = wr := ⟨_, rfl⟩
                  clear S10 B10 HJ
                  by_cases hl9 : l < 9
                  · have hl9' : (l : Int) < 9 := by omega
                    obtain ⟨p, hp⟩ : ∃ p, 9 - l = p + 1 := ⟨9 - l - 1, by omega⟩
                    have hj := J11.out
                    rw [hp] at hj
                    obtain ⟨hok, hcs⟩ := DuW.waitJ_step _ _ _ hj
                    have HST := Lib.hid (duo_status S11.out)
                    have HPO := Lib.hid (duo_posted S11.out hok)
                    rcases hcs with ⟨hsm, rfl⟩ | ⟨hsm, x, hx, hnx⟩
                    · have hse : (E11.a.status == E11.K.hand.status) = true := hsm
                      generalize E11.a.status = sa at *
                      generalize E11.K.hand.status = sb at *
                      clear hj hsm J11 hok
                      go_wp2_with fail
                      refine HST.out.mono ?_
                      rintro e w' ⟨rfl, rfl⟩
                      go_wp2_with fail
                      refine HPO.out.mono ?_
                      rintro e w12 ⟨rfl, own12, m12, s12⟩
                      have S12 := Lib.hid s12
                      have B12 := Lib.hid (B11.out.keep m12 (fun h => by simp only [duT, acT, cyT] at h; omega))
                      obtain ⟨E12, hE12⟩ : ∃ E12, E11.tick = E12 := ⟨_, rfl⟩
                      rw [hE12] at S12 HR9
                      clear s12 m12 HST HPO
                      go_wp2_with fail
                      go_roundw
                      case rel => exact ⟨j + 1, nn + 1, own12, E12, by omega, by omega, by go_num, by go_num, S12, B12, Lib.hid (by rw [show 2000 - (j + 1) = f by omega]; exact HR9.out)⟩
                      case measure => simp [intOf]; omega
                    · have hse : (E11.a.status == E11.K.hand.status) = false := hsm
                      generalize E11.a.status = sa at *
                      generalize E11.K.hand.status = sb at *
                      clear hj hsm hok
                      go_wp2_with fail
                      refine HST.out.mono ?_
                      rintro e w' ⟨rfl, rfl⟩
                      go_wp2_with fail
                      refine HPO.out.mono ?_
                      rintro e w12 ⟨rfl, own12, m12, s12⟩
                      have HSA := Lib.hid (duo_stepA s12 x hx)
                      have B12 := Lib.hid (B11.out.keep m12 (fun h => by simp only [duT, acT, cyT] at h; omega))
                      generalize resV x.1 = rx at *
                      clear s12 m12 HST HPO
                      go_wp2_with fail
                      refine HSA.out.mono ?_
                      rintro e w13 ⟨rfl, own13, m13, s13⟩
                      have S13 := Lib.hid s13
                      have B13 := Lib.hid (B12.out.keep m13 (fun h => by simp only [duT, acT, cyT] at h; omega))
                      clear s13 m13 HSA B12 S11 B11 J11
                      go_wp2_with fail
                      go_roundw
                      case rel => exact ⟨l + 1, own13, _, by omega, by go_num, S13, B13, Lib.hid (by rw [show 9 - (l + 1) = p by omega]; exact hnx)⟩
                      case measure => simp [intOf]; omega
                  · obtain rfl : l = 9 := by omega
                    have hj := DuW.waitJ_end _ _ J11.out
                    subst hj
                    clear J11
                    have S12 := S11
                    have B12 := B11
                    clear S11 B11
                    go_wp2_with fail
                    go_roundw
                    case rel => exact ⟨j + 1, nn + 1, own11, D4, by omega, by omega, by go_num, by go_num, S12, B12, Lib.hid (by rw [show 2000 - (j + 1) = f by omega]; exact HR9.out)⟩
                    case measure => simp [intOf]; omega
          · have hD3 := DuW.waitM_no _ _ _ _ hM hnm
            subst hD3
            have hbm : ((nn : Int) == (m : Int)) = false := by simp; omega
            clear hM hnm
            go_wp2_with fail
            go_loopw [10] (fun i wr => ∃ (l : Nat) (own : Nat → Nat) (E : DuW), l ≤ 9 ∧ i = .int .i64 l ∧ Hid (DuIs w0 ⟨own, wr⟩ a y k E) ∧ Hid (Blk ⟨own, wr⟩ 9 q 3 stagesV) ∧ Hid (DuW.waitJ (9 - l) E = some D4)) (fun i _ => 9 - (intOf i).toNat)
            case atStart => exact ⟨0, own8, _, Nat.zero_le _, rfl, S8, B8, HJ⟩
            case round =>
              obtain ⟨l, own11, E11, hl, rfl, S11, B11, J11⟩ := hrel
              obtain ⟨w11, rfl⟩ : ∃ w11 : World, w11 = wr := ⟨_, rfl⟩
              clear S8 B8 HJ
              by_cases hl9 : l < 9
              · have hl9' : (l : Int) < 9 := by omega
                obtain ⟨p, hp⟩ : ∃ p, 9 - l = p + 1 := ⟨9 - l - 1, by omega⟩
                have hj := J11.out
                rw [hp] at hj
                obtain ⟨hok, hcs⟩ := DuW.waitJ_step _ _ _ hj
                have HST := Lib.hid (duo_status S11.out)
                have HPO := Lib.hid (duo_posted S11.out hok)
                rcases hcs with ⟨hsm, rfl⟩ | ⟨hsm, x, hx, hnx⟩
                · have hse : (E11.a.status == E11.K.hand.status) = true := hsm
                  generalize E11.a.status = sa at *
                  generalize E11.K.hand.status = sb at *
                  clear hj hsm J11 hok
                  go_wp2_with fail
                  refine HST.out.mono ?_
                  rintro e w' ⟨rfl, rfl⟩
                  go_wp2_with fail
                  refine HPO.out.mono ?_
                  rintro e w12 ⟨rfl, own12, m12, s12⟩
                  have S12 := Lib.hid s12
                  have B12 := Lib.hid (B11.out.keep m12 (fun h => by simp only [duT, acT, cyT] at h; omega))
                  obtain ⟨E12, hE12⟩ : ∃ E12, E11.tick = E12 := ⟨_, rfl⟩
                  rw [hE12] at S12 HR9
                  clear s12 m12 HST HPO
                  go_wp2_with fail
                  go_roundw
                  case rel => exact ⟨j + 1, nn + 1, own12, E12, by omega, by omega, by go_num, by go_num, S12, B12, Lib.hid (by rw [show 2000 - (j + 1) = f by omega]; exact HR9.out)⟩
                  case measure => simp [intOf]; omega
                · have hse : (E11.a.status == E11.K.hand.status) = false := hsm
                  generalize E11.a.status = sa at *
                  generalize E11.K.hand.status = sb at *
                  clear hj hsm hok
                  go_wp2_with fail
                  refine HST.out.mono ?_
                  rintro e w' ⟨rfl, rfl⟩
                  go_wp2_with fail
                  refine HPO.out.mono ?_
                  rintro e w12 ⟨rfl, own12, m12, s12⟩
                  have HSA := Lib.hid (duo_stepA s12 x hx)
                  have B12 := Lib.hid (B11.out.keep m12 (fun h => by simp only [duT, acT, cyT] at h; omega))
                  generalize resV x.1 = rx at *
                  clear s12 m12 HST HPO
                  go_wp2_with fail
                  refine HSA.out.mono ?_
                  rintro e w13 ⟨rfl, own13, m13, s13⟩
                  have S13 := Lib.hid s13
                  have B13 := Lib.hid (B12.out.keep m13 (fun h => by simp only [duT, acT, cyT] at h; omega))
                  clear s13 m13 HSA B12 S11 B11 J11
                  go_wp2_with fail
                  go_roundw
                  case rel => exact ⟨l + 1, own13, _, by omega, by go_num, S13, B13, Lib.hid (by rw [show 9 - (l + 1) = p by omega]; exact hnx)⟩
                  case measure => simp [intOf]; omega
              · obtain rfl : l = 9 := by omega
                have hj := DuW.waitJ_end _ _ J11.out
                subst hj
                clear J11
                have S12 := S11
                have B12 := B11
                clear S11 B11
                go_wp2_with fail
                go_roundw
                case rel => exact ⟨j + 1, nn + 1, own11, D4, by omega, by omega, by go_num, by go_num, S12, B12, Lib.hid (by rw [show 2000 - (j + 1) = f by omega]; exact HR9.out)⟩
                case measure => simp [intOf]; omega
      · have hbf : (D.y.finished == 0) = false := by simpa using hf0
        have he := DuW.waitRun_exit _ _ _ _ _ HR6.out (Or.inr hf0)
        injection he with he1 he2
        subst he2
        obtain rfl : nn = 5 := he1.symm
        rw [hfin] at HF6
        clear HR6 hf0 he1 hbf
        go_wp2_with fail
        refine HF6.out.mono ?_
        rintro e w' ⟨rfl, rfl⟩
        go_wp2_with fail
        refine (HF.out _).mono ?_
        rintro e w7 ⟨rfl, hX⟩
        obtain ⟨own7, m7⟩ := Mod.ofExt (show Ext w6 w7 from hX) own6
        have S7 := Lib.hid (S6.out.keep m7)
        clear m7 hX S6
        have HF7 := Lib.hid (show Calls Tryz.prog 35 #[.pointer (some ⟨y, 0, none⟩)] w7 (fun e w' => e = .returned (.int .i64 1) ∧ w7 = w') from hfin ▸ duo_finished S7.out)
        have HE7 := Lib.hid (show Calls Tryz.prog 40 #[.pointer (some ⟨y, 0, none⟩)] w7 (fun e w' => e = .returned (.int .i64 0) ∧ w7 = w') from herr ▸ duo_errno S7.out)
        go_wp2_with fail
        refine HF7.out.mono ?_
        rintro e w' ⟨rfl, rfl⟩
        go_wp2_with fail
        refine HE7.out.mono ?_
        rintro e w' ⟨rfl, rfl⟩
        go_wp2_with fail
        go_ret
        exact Gives.bool rfl (E3.out.trans S7.out.fin)
    · obtain rfl : j = 2000 := by omega
      have he := DuW.waitRun_exit _ _ _ _ _ HR6.out (Or.inl rfl)
      injection he with he1 he2
      subst he2
      obtain rfl : nn = 5 := he1.symm
      clear HR6 he1
      go_wp2_with fail
      refine (HF.out _).mono ?_
      rintro e w7 ⟨rfl, hX⟩
      obtain ⟨own7, m7⟩ := Mod.ofExt (show Ext w6 w7 from hX) own6
      have S7 := Lib.hid (S6.out.keep m7)
      clear m7 hX S6
      have HF7 := Lib.hid (show Calls Tryz.prog 35 #[.pointer (some ⟨y, 0, none⟩)] w7 (fun e w' => e = .returned (.int .i64 1) ∧ w7 = w') from hfin ▸ duo_finished S7.out)
      have HE7 := Lib.hid (show Calls Tryz.prog 40 #[.pointer (some ⟨y, 0, none⟩)] w7 (fun e w' => e = .returned (.int .i64 0) ∧ w7 = w') from herr ▸ duo_errno S7.out)
      go_wp2_with fail
      refine HF7.out.mono ?_
      rintro e w' ⟨rfl, rfl⟩
      go_wp2_with fail
      refine HE7.out.mono ?_
      rintro e w' ⟨rfl, rfl⟩
      go_wp2_with fail
      go_ret
      exact Gives.bool rfl (E3.out.trans S7.out.fin)
end Go.Proofs.YtcpeoflomdhidaaGreat

