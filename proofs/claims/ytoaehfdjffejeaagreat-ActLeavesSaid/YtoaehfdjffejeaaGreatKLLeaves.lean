import Derived.Test.YtoaehfdjffejeaaGreatKL27
open Go.Ext renaming alloc → zA, patch → zP, drew → zD, drewN → zN, more → zM, refl → zR, setCell → zS
open Nat renaming le_refl → zL, le_add_right → zK
/-
  ActLeaves: the walk.
-/
namespace Go.Proofs.YtoaehfdjffejeaaGreat
open Go Go.RowKit
set_option linter.unusedVariables false
set_option linter.unnecessarySimpa false
set_option linter.unusedSimpArgs false
set_option maxHeartbeats 4000000
set_option maxRecDepth 100000
def lvL (k : Nat) : List Opr := (List.range k).map (fun (i : Nat) => opNew ((i : Int) % 3))
theorem lvL_succ (k : Nat) : lvL (k + 1) = lvL k ++ [opNew ((k : Int) % 3)] := by
  unfold lvL
  rw [List.range_succ, List.map_append]
  rfl
theorem lvL_len (k : Nat) : (lvL k).length = k := by unfold lvL; simp
theorem leaveRun_exit (n : Nat) (d : Int) (W : AcW) (r : Int × AcW) (h : leaveRun n d W = some r) (hx : n = 0 ∨ W.a.phase = 4) : r = (d, W) := by
  cases n with
  | zero => unfold leaveRun at h; injection h with h; exact h.symm
  | succ n =>
    rcases hx with hx | hx
    · cases hx
    · unfold leaveRun at h
      rw [if_pos (beq_iff_eq.2 hx)] at h
      injection h with h
      exact h.symm
theorem leaveRun_step (n : Nat) (d : Int) (W : AcW) (r : Int × AcW) (h : leaveRun (n + 1) d W = some r) (hx : W.a.phase ≠ 4) : ∃ x : AcR, W.stepR = some x ∧ leaveRun n (if x.1.2 then d + 1 else d) x.2 = some r := by
  unfold leaveRun at h
  rw [if_neg (by simpa using hx)] at h
  cases hs : W.stepR with
  | none => rw [hs] at h; cases h
  | some x => rw [hs] at h; exact ⟨x, rfl, h⟩
theorem locals_zero {l : List LVal} (h3 : l.length = 3) (ha : l.all (fun v => !v.ref && v.z == (0, 0)) = true) : l = [LVal.zero, LVal.zero, LVal.zero] := by
  have hz : ∀ v ∈ l, v = LVal.zero := fun v hv => by
    have h := List.all_eq_true.1 ha v hv
    simp only [Bool.and_eq_true, Bool.not_eq_true', beq_iff_eq] at h
    obtain ⟨r, z⟩ := v
    simp only at h
    rw [h.1, h.2]
    rfl
  match l, h3 with
  | [a, b, c], _ => rw [hz a (by simp), hz b (by simp), hz c (by simp)]
theorem leave_end (A A1 A2 : Option Addr) (asked : Bool) (n : Nat) (hn : n < 21) : ∃ (d : Int) (W : AcW) (x : AcR), leaveRun 2000 0 (pairW A A1 A2 (leaveOps asked n)) = some (d, W) ∧ W.a.locals = [LVal.zero, LVal.zero, LVal.zero] ∧ W.stepR = some x ∧ x.2.a.phase = 4 ∧ d = (n : Int) + (if asked then 1 else 0) ∧ x.2.K.hand.own 0 = -1 ∧ x.2.K.sp.tab.cnt 1 = 0 ∧ x.2.K.sp.tab.cnt 2 = n ∧ x.1.2 = false := by
  have h := leave_all A A1 A2 asked n hn
  unfold leaveAll at h
  cases hr : leaveRun 2000 0 (pairW A A1 A2 (leaveOps asked n)) with
  | none => rw [hr] at h; cases h
  | some q =>
    obtain ⟨d, W⟩ := q
    rw [hr] at h
    simp only at h
    unfold leaveDone at h
    cases hs : W.stepR with
    | none => rw [hs] at h; simp at h
    | some x =>
      rw [hs] at h
      simp only [Bool.and_eq_true, beq_iff_eq, Bool.not_eq_true'] at h
      obtain ⟨h1, h2, h3, h4, h5, h6, h7, h8⟩ := h
      exact ⟨d, W, x, rfl, locals_zero h1 h2, hs, h3, h4, h5, h6, h7, h8⟩
theorem leaves_any (asked : Bool) (n : Int) (w : World) : Calls Tryz.prog 3 #[.bool asked, .int .i64 n] w (Gives (.bool true) w) := by
  have HF := Lib.hid (fun w => first23_any w)
  go_enter Tryz.func3, Tryz.ntmps3
  go_wp2_with fail
  refine (HF.out _).mono ?_
  rintro e w1 ⟨rfl, hX⟩
  have E1 := Lib.hid (show Ext w w1 from hX)
  clear hX
  by_cases hlo : n < 0
  · have d0 : decide (n < 0) = true := decide_eq_true hlo
    clear hlo
    go_wp2_with fail
    refine (HF.out _).mono ?_
    rintro e w9 ⟨rfl, hX⟩
    have E9 := Lib.hid (show Ext w1 w9 from hX)
    clear hX
    go_wp2_with fail
    go_ret
    exact Gives.bool rfl (E1.out.trans E9.out)
  by_cases hhi : 20 < n
  · have d0 : decide (n < 0) = false := decide_eq_false hlo
    have d1 : decide (20 < n) = true := decide_eq_true hhi
    clear hlo hhi
    go_wp2_with fail
    refine (HF.out _).mono ?_
    rintro e w9 ⟨rfl, hX⟩
    have E9 := Lib.hid (show Ext w1 w9 from hX)
    clear hX
    go_wp2_with fail
    go_ret
    exact Gives.bool rfl (E1.out.trans E9.out)
  obtain ⟨m, rfl⟩ := Int.eq_ofNat_of_zero_le (show 0 ≤ n by omega)
  have hm : m < 21 := by omega
  have d0 : decide ((m : Int) < 0) = false := decide_eq_false hlo
  have d1 : decide (20 < (m : Int)) = false := decide_eq_false hhi
  clear hlo hhi
  obtain ⟨i0, hi, hz0, hz1, hz2⟩ := info_parts infoOp
  go_wp2_with fail
  go_loopw [5, 6] (fun v i wr => ∃ k : Nat, k ≤ m ∧ i = .int .i64 k ∧ Hid (wr.ownsRow w1.heap.size 26 6 v k ((lvL k).flatMap Opr.cells)) ∧ Hid (Ext w1 wr)) (fun _ i _ => m - (intOf i).toNat)
  case atStart => exact ⟨0, Nat.zero_le _, rfl, Lib.hid (World.ownsRow_nil _ _ _ _), Lib.hid (Ext.refl _)⟩
  case round =>
    obtain ⟨k, hk, rfl, HR, HE⟩ := hrel
    obtain ⟨Av, cv, rfl⟩ := own_form HR.out
    by_cases hlt : k < m
    · have hlt' : (k : Int) < (m : Int) := by omega
      have hsz := HE.out.size
      go_wp2_with (at_builtin; refine wpList_append_own _ rfl _ _ 23 rfl w1.heap.size 26 i0 (.agg #[.int .i64 0, .int .i64 0, .int .i64 0, .int .i64 0, .int .i64 0, .complex .f64 0 0]) 6 56 Tryz.underlying23 hi hz0 hz1 hz2 rfl (by decide) _ _ _ rfl (HR.out.alloc _) ⟨wr.heap.size, 0, none⟩ 1 1 (opNew ((k : Int) % 3)).cells rfl rfl (news_new _ (opNew ((k : Int) % 3)).cells 26) (oprs_one _) (by unfold maxLen; omega) (by omega) (by rw [World.size_alloc]; omega) ?_; intro v' w2 hown' hgrow _)
      have HE2 := Lib.hid (ext_grown (w := w1) (HE.out.alloc _) hgrow (fun j hj => (HR.out.lt j hj).1))
      have HN' := Lib.hid hown'
      clear hown' hgrow
      go_roundw
      case rel => exact ⟨k + 1, by omega, by go_num, Lib.hid (by rw [lvL_succ, List.flatMap_append, List.flatMap_cons, List.flatMap_nil, List.append_nil]; exact HN'.out), HE2⟩
      case measure => simp [intOf]; omega
    · obtain rfl : k = m := by omega
      have hsz := HE.out.size
      obtain ⟨w2, rfl⟩ : ∃ w2 : World, w2 = wr := ⟨_, rfl⟩
      cases asked
      · have HL := Lib.hid (show CellsAt w2 Av ((leaveOps false k).flatMap Opr.cells) from by rw [show leaveOps false k = lvL k by unfold leaveOps lvL; simp]; exact cellsAt_of_own HR.out)
        have HLN := Lib.hid (show (leaveOps false k).length = k by unfold leaveOps; simp)
        have HPR := Lib.hid (pair_any Av cv (leaveOps false k) w2 k HLN.out (by omega) HL.out)
        have E2 := Lib.hid (E1.out.trans HE.out)
        clear HR HE hsz HL HLN
        go_wp2_with fail
        refine HPR.out.mono ?_
        rintro e w4 ⟨w0, own4, kk, x, y, A, A1, A2, tb, rfl, hE4, hM4, hW4⟩
        letI : TbId := ⟨⟨tb⟩⟩
        have S0 := Lib.hid (show Sit w0 ⟨own4, w4⟩ x kk (pairW A A1 A2 (leaveOps false k)) from ⟨hM4.mono (fun _ => False.elim), hW4⟩)
        have E4 := Lib.hid (show Ext w w0 from E2.out.trans hE4)
        clear hE4 hM4 hW4 HPR
        obtain ⟨D, Wf, xx, hrun, hloc, hst, hph, hD, hown, hc1, hc2, hb⟩ := leave_end A A1 A2 false k hm
        simp only [if_true, Bool.false_eq_true, if_false, Int.add_zero] at hD
        go_wp2_with fail
        go_loopw [10, 11] (fun dn i wr => ∃ (j : Nat) (d : Int) (own : Nat → Nat) (V : AcW), j ≤ 2000 ∧ dn = .int .i64 d ∧ i = .int .i64 j ∧ (0 ≤ d ∧ d ≤ j) ∧ Hid (Sit w0 ⟨own, wr⟩ x kk V) ∧ Hid (leaveRun (2000 - j) d V = some (D, Wf))) (fun _ i _ => 2000 - (intOf i).toNat)
        case atStart => exact ⟨0, 0, own4, _, by decide, rfl, rfl, ⟨Int.le_refl _, Int.le_refl _⟩, S0, Lib.hid hrun⟩
        case round =>
          clear S0 hrun own4
          obtain ⟨j, d, own4, V, hj, rfl, rfl, hd, S4, HR4⟩ := hrel
          obtain ⟨w4, rfl⟩ : ∃ w4 : World, w4 = wr := ⟨_, rfl⟩
          obtain ⟨hd0, hd1⟩ := hd
          by_cases hlt : j < 2000
          · have hlt' : (j : Int) < 2000 := by omega
            have HPH := Lib.hid (sit_phase S4.out)
            simp only at HPH
            by_cases hp4 : V.a.phase = 4
            · have he := leaveRun_exit _ _ _ _ HR4.out (Or.inr hp4)
              injection he with he1 he2
              subst he1 he2
              rw [hp4] at HPH
              clear HR4 hp4 hj hlt
              go_wp2_with fail
              refine HPH.out.mono ?_
              rintro e w' ⟨rfl, rfl⟩
              subst hD
              have HLC := Lib.hid (sit_locals S4.out 3 (by rw [hloc]; rfl) (by decide))
              rw [hloc] at HLC
              go_wp2_with fail
              refine HLC.out.mono ?_
              rintro e w6 ⟨A6, c6, rfl, m6, r6, hE6, hf6, hc6⟩
              obtain ⟨q6, rfl, hq6, -, hcell, -⟩ := r6.block (by decide)
              have hv : ∀ j : Nat, j < 3 → w6.cell? ⟨q6, j * 2, none⟩ = some (.bool false) ∧ w6.cell? ⟨q6, j * 2 + 1, none⟩ = some (.complex .f64 0 0) := fun j hj => by
                have h0 := hcell (j * 2) (.bool false)
                have h1 := hcell (j * 2 + 1) (.complex .f64 0 0)
                match j, hj with
                | 0, _ => exact ⟨h0 rfl, h1 rfl⟩
                | 1, _ => exact ⟨h0 rfl, h1 rfl⟩
                | 2, _ => exact ⟨h0 rfl, h1 rfl⟩
              have hq6' : q6 < w6.heap.size := hq6
              obtain ⟨own6, m6'⟩ : ∃ ownZ, Mod (fun _ => False) (⟨own4, w4⟩ : GW) ⟨ownZ, w6⟩ := ⟨_, m6⟩
              have S6 := Lib.hid (S4.out.keep m6')
              have HV := Lib.hid hv
              clear hcell hv m6 m6' r6 hE6 hf6 hc6 hq6 HLC S4
              have HW := Lib.hid (fun w => wsame 0 0 w)
              go_wp2_with fail
              go_loopw [15] (fun i wr => ∃ j : Nat, j ≤ 3 ∧ i = .int .i64 j ∧ w6 = wr) (fun i _ => 3 - (intOf i).toNat)
              case atStart => exact ⟨0, by decide, rfl, rfl⟩
              case round =>
                obtain ⟨j, hj, rfl, rfl⟩ := hrel
                by_cases hlt : j < 3
                · have hlt' : (j : Int) < 3 := by omega
                  obtain ⟨v0, v1⟩ := HV.out j hlt
                  go_wp2_with fail
                  refine (HW.out _).mono ?_
                  rintro e w' ⟨rfl, rfl⟩
                  go_wp2_with fail
                  go_roundw
                  case rel => exact ⟨j + 1, by omega, by go_num, by first | rfl | trivial⟩
                  case measure => simp [intOf]; omega
                · obtain rfl : j = 3 := by omega
                  obtain ⟨⟨xr, xb⟩, xW⟩ := xx
                  simp only at hph hown hc1 hc2 hb
                  subst hb
                  have HST := Lib.hid (show Calls Tryz.prog 9 #[.pointer (some ⟨x, 0, none⟩), .pointer (some ⟨kk, 0, none⟩)] w6 (Does (.tuple #[.agg #[.int .i64 xr.op, .int .i64 xr.own, .int .i64 xr.e, .bool xr.v.ref, .complex .f64 xr.v.z.1 xr.v.z.2], .bool false]) ⟨own6, w6⟩ (acT 500 100) (fun g' => Sit w0 g' x kk xW)) from sit_step S6.out _ hst)
                  go_wp2_with fail
                  refine HST.out.mono ?_
                  rintro e w7 ⟨rfl, own7, m7, s7⟩
                  have S7 := Lib.hid s7
                  clear s7 m7 HST S6 HV
                  go_upto_region 29 with fail
                  obtain ⟨own8, m8⟩ : ∃ ownZ, Mod (fun _ => False) (⟨own7, w7⟩ : GW) ⟨ownZ, w7.alloc (.cells #[.int .i64 xr.op, .int .i64 xr.own, .int .i64 xr.e, .bool xr.v.ref, .complex .f64 xr.v.z.1 xr.v.z.2] 36)⟩ := Mod.ofExt (by (repeat (first | (with_reducible (first | assumption | exact zR _ | exact zM _ _ _ _)) | apply zA | refine zS ?_ (by first | exact zL _ | exact zK _ _ | assumption) _ | apply zP | apply zD | apply zN))) own7
                  have S8 := Lib.hid (S7.out.keep m8)
                  generalize w7.alloc (.cells #[.int .i64 xr.op, .int .i64 xr.own, .int .i64 xr.e, .bool xr.v.ref, .complex .f64 xr.v.z.1 xr.v.z.2] 36) = w8 at *
                  clear m8 S7
                  have HTB := Lib.hid (fun w => shade_table TbId.tb w)
                  obtain ⟨bs8, bh8, c10, c12, ck, s0, sl, -, -⟩ := sit_core S8.out
                  simp only at c10 c12 ck s0 sl
                  go_wp2_with fail
                  refine (HTB.out _).mono ?_
                  rintro e w9 ⟨rfl, hX⟩
                  obtain ⟨own9, m9⟩ := Mod.ofExt (show Ext w8 w9 from hX) own8
                  have S9 := Lib.hid (S8.out.keep m9)
                  clear m9 hX S8 c10 c12 ck s0 sl HTB
                  have HCN := Lib.hid (show Calls Tryz.prog 13 #[.pointer (some ⟨TbId.tb, 0, none⟩)] w9 (Gives (.tuple #[.int .i64 (xW.K.sp.tab.cnt 0), .int .i64 0, .int .i64 k]) w9) from by
                    have h := sit_counts S9.out
                    rw [hc1, hc2] at h
                    exact h)
                  go_wp2_with fail
                  refine HCN.out.mono ?_
                  rintro e w10 ⟨rfl, hX⟩
                  obtain ⟨own10, m10⟩ := Mod.ofExt (show Ext w9 w10 from hX) own9
                  have S10 := Lib.hid (S9.out.keep m10)
                  clear m10 hX S9 HCN
                  go_wp2_with fail
                  refine (HF.out _).mono ?_
                  rintro e w11 ⟨rfl, hX⟩
                  obtain ⟨own11, m11⟩ := Mod.ofExt (show Ext w10 w11 from hX) own10
                  have S11 := Lib.hid (S10.out.keep m11)
                  clear m11 hX S10
                  have HPH2 := Lib.hid (show Calls Tryz.prog 8 #[.pointer (some ⟨x, 0, none⟩)] w11 (fun e w' => e = .returned (.int .i64 4) ∧ w11 = w') from by
                    have h := sit_phase S11.out
                    rw [hph] at h
                    exact h)
                  obtain ⟨bs8, bh8, c10, c12, ck, s0, sl, -, hst8⟩ := sit_core S11.out
                  have HST8 := Lib.hid (show Calls Tryz.prog 14 #[.pointer (some ⟨bh8, 0, none⟩), .int .i64 0] w11 (fun e w' => e = .returned (.int .i64 (-1)) ∧ w11 = w') from by
                    have h := hst8 0
                    rw [hown] at h
                    exact h)
                  simp only at c10 c12 ck s0 sl
                  clear hst8
                  go_wp2_with fail
                  refine HPH2.out.mono ?_
                  rintro e w' ⟨rfl, rfl⟩
                  go_wp2_with fail
                  refine HST8.out.mono ?_
                  rintro e w' ⟨rfl, rfl⟩
                  go_wp2_with fail
                  go_ret
                  exact Gives.bool rfl (E4.out.trans S11.out.fin)
            · have hz : (V.a.phase != 4) = true := by simp [hp4]
              obtain ⟨q, hq⟩ : ∃ q, 2000 - j = q + 1 := ⟨2000 - j - 1, by omega⟩
              have hr4 := HR4.out
              rw [hq] at hr4
              obtain ⟨x5, hx5, hr5⟩ := leaveRun_step _ _ _ _ hr4 hp4
              obtain ⟨⟨xr, xb⟩, xW⟩ := x5
              simp only at hr5
              have HST := Lib.hid (show Calls Tryz.prog 9 #[.pointer (some ⟨x, 0, none⟩), .pointer (some ⟨kk, 0, none⟩)] w4 (Does (.tuple #[.agg #[.int .i64 xr.op, .int .i64 xr.own, .int .i64 xr.e, .bool xr.v.ref, .complex .f64 xr.v.z.1 xr.v.z.2], .bool xb]) ⟨own4, w4⟩ (acT 500 100) (fun g' => Sit w0 g' x kk xW)) from sit_step S4.out _ hx5)
              generalize V.a.phase = ph at *
              clear hr4 HR4 hx5 hp4
              go_wp2_with fail
              refine HPH.out.mono ?_
              rintro e w' ⟨rfl, rfl⟩
              go_wp2_with fail
              refine HST.out.mono ?_
              rintro e w5 ⟨rfl, own5, m5, s5⟩
              have S5 := Lib.hid s5
              clear s5 m5 HST S4 HPH
              go_upto_region 20 with fail
              obtain ⟨own6, m6⟩ : ∃ ownZ, Mod (fun _ => False) (⟨own5, w5⟩ : GW) ⟨ownZ, w5.alloc (.cells #[.int .i64 xr.op, .int .i64 xr.own, .int .i64 xr.e, .bool xr.v.ref, .complex .f64 xr.v.z.1 xr.v.z.2] 36)⟩ := Mod.ofExt (by (repeat (first | (with_reducible (first | assumption | exact zR _ | exact zM _ _ _ _)) | apply zA | refine zS ?_ (by first | exact zL _ | exact zK _ _ | assumption) _ | apply zP | apply zD | apply zN))) own5
              have S6 := Lib.hid (S5.out.keep m6)
              generalize w5.alloc (.cells #[.int .i64 xr.op, .int .i64 xr.own, .int .i64 xr.e, .bool xr.v.ref, .complex .f64 xr.v.z.1 xr.v.z.2] 36) = w6 at *
              clear m6 S5
              cases xb
              · simp only [Bool.false_eq_true, if_false] at hr5
                go_wp2_with fail
                go_roundw
                case rel => exact ⟨j + 1, d, own6, xW, by omega, rfl, by go_num, ⟨hd0, by omega⟩, S6, Lib.hid (by rw [show 2000 - (j + 1) = q by omega]; exact hr5)⟩
                case measure => simp [intOf]; omega
              · simp only [if_true] at hr5
                go_wp2_with fail
                go_roundw
                case rel => exact ⟨j + 1, d + 1, own6, xW, by omega, by go_num, by go_num, ⟨by omega, by omega⟩, S6, Lib.hid (by rw [show 2000 - (j + 1) = q by omega]; exact hr5)⟩
                case measure => simp [intOf]; omega
          · obtain rfl : j = 2000 := by omega
            have he := leaveRun_exit _ _ _ _ HR4.out (Or.inl rfl)
            injection he with he1 he2
            subst he1 he2
            clear HR4 hj hlt
            go_wp2_with fail
            subst hD
            have HLC := Lib.hid (sit_locals S4.out 3 (by rw [hloc]; rfl) (by decide))
            rw [hloc] at HLC
            go_wp2_with fail
            refine HLC.out.mono ?_
            rintro e w6 ⟨A6, c6, rfl, m6, r6, hE6, hf6, hc6⟩
            obtain ⟨q6, rfl, hq6, -, hcell, -⟩ := r6.block (by decide)
            have hv : ∀ j : Nat, j < 3 → w6.cell? ⟨q6, j * 2, none⟩ = some (.bool false) ∧ w6.cell? ⟨q6, j * 2 + 1, none⟩ = some (.complex .f64 0 0) := fun j hj => by
              have h0 := hcell (j * 2) (.bool false)
              have h1 := hcell (j * 2 + 1) (.complex .f64 0 0)
              match j, hj with
              | 0, _ => exact ⟨h0 rfl, h1 rfl⟩
              | 1, _ => exact ⟨h0 rfl, h1 rfl⟩
              | 2, _ => exact ⟨h0 rfl, h1 rfl⟩
            have hq6' : q6 < w6.heap.size := hq6
            obtain ⟨own6, m6'⟩ : ∃ ownZ, Mod (fun _ => False) (⟨own4, w4⟩ : GW) ⟨ownZ, w6⟩ := ⟨_, m6⟩
            have S6 := Lib.hid (S4.out.keep m6')
            have HV := Lib.hid hv
            clear hcell hv m6 m6' r6 hE6 hf6 hc6 hq6 HLC S4
            have HW := Lib.hid (fun w => wsame 0 0 w)
            go_wp2_with fail
            go_loopw [15] (fun i wr => ∃ j : Nat, j ≤ 3 ∧ i = .int .i64 j ∧ w6 = wr) (fun i _ => 3 - (intOf i).toNat)
            case atStart => exact ⟨0, by decide, rfl, rfl⟩
            case round =>
              obtain ⟨j, hj, rfl, rfl⟩ := hrel
              by_cases hlt : j < 3
              · have hlt' : (j : Int) < 3 := by omega
                obtain ⟨v0, v1⟩ := HV.out j hlt
                go_wp2_with fail
                refine (HW.out _).mono ?_
                rintro e w' ⟨rfl, rfl⟩
                go_wp2_with fail
                go_roundw
                case rel => exact ⟨j + 1, by omega, by go_num, by first | rfl | trivial⟩
                case measure => simp [intOf]; omega
              · obtain rfl : j = 3 := by omega
                obtain ⟨⟨xr, xb⟩, xW⟩ := xx
                simp only at hph hown hc1 hc2 hb
                subst hb
                have HST := Lib.hid (show Calls Tryz.prog 9 #[.pointer (some ⟨x, 0, none⟩), .pointer (some ⟨kk, 0, none⟩)] w6 (Does (.tuple #[.agg #[.int .i64 xr.op, .int .i64 xr.own, .int .i64 xr.e, .bool xr.v.ref, .complex .f64 xr.v.z.1 xr.v.z.2], .bool false]) ⟨own6, w6⟩ (acT 500 100) (fun g' => Sit w0 g' x kk xW)) from sit_step S6.out _ hst)
                go_wp2_with fail
                refine HST.out.mono ?_
                rintro e w7 ⟨rfl, own7, m7, s7⟩
                have S7 := Lib.hid s7
                clear s7 m7 HST S6 HV
                go_upto_region 29 with fail
                obtain ⟨own8, m8⟩ : ∃ ownZ, Mod (fun _ => False) (⟨own7, w7⟩ : GW) ⟨ownZ, w7.alloc (.cells #[.int .i64 xr.op, .int .i64 xr.own, .int .i64 xr.e, .bool xr.v.ref, .complex .f64 xr.v.z.1 xr.v.z.2] 36)⟩ := Mod.ofExt (by (repeat (first | (with_reducible (first | assumption | exact zR _ | exact zM _ _ _ _)) | apply zA | refine zS ?_ (by first | exact zL _ | exact zK _ _ | assumption) _ | apply zP | apply zD | apply zN))) own7
                have S8 := Lib.hid (S7.out.keep m8)
                generalize w7.alloc (.cells #[.int .i64 xr.op, .int .i64 xr.own, .int .i64 xr.e, .bool xr.v.ref, .complex .f64 xr.v.z.1 xr.v.z.2] 36) = w8 at *
                clear m8 S7
                have HTB := Lib.hid (fun w => shade_table TbId.tb w)
                obtain ⟨bs8, bh8, c10, c12, ck, s0, sl, -, -⟩ := sit_core S8.out
                simp only at c10 c12 ck s0 sl
                go_wp2_with fail
                refine (HTB.out _).mono ?_
                rintro e w9 ⟨rfl, hX⟩
                obtain ⟨own9, m9⟩ := Mod.ofExt (show Ext w8 w9 from hX) own8
                have S9 := Lib.hid (S8.out.keep m9)
                clear m9 hX S8 c10 c12 ck s0 sl HTB
                have HCN := Lib.hid (show Calls Tryz.prog 13 #[.pointer (some ⟨TbId.tb, 0, none⟩)] w9 (Gives (.tuple #[.int .i64 (xW.K.sp.tab.cnt 0), .int .i64 0, .int .i64 k]) w9) from by
                  have h := sit_counts S9.out
                  rw [hc1, hc2] at h
                  exact h)
                go_wp2_with fail
                refine HCN.out.mono ?_
                rintro e w10 ⟨rfl, hX⟩
                obtain ⟨own10, m10⟩ := Mod.ofExt (show Ext w9 w10 from hX) own9
                have S10 := Lib.hid (S9.out.keep m10)
                clear m10 hX S9 HCN
                go_wp2_with fail
                refine (HF.out _).mono ?_
                rintro e w11 ⟨rfl, hX⟩
                obtain ⟨own11, m11⟩ := Mod.ofExt (show Ext w10 w11 from hX) own10
                have S11 := Lib.hid (S10.out.keep m11)
                clear m11 hX S10
                have HPH2 := Lib.hid (show Calls Tryz.prog 8 #[.pointer (some ⟨x, 0, none⟩)] w11 (fun e w' => e = .returned (.int .i64 4) ∧ w11 = w') from by
                  have h := sit_phase S11.out
                  rw [hph] at h
                  exact h)
                obtain ⟨bs8, bh8, c10, c12, ck, s0, sl, -, hst8⟩ := sit_core S11.out
                have HST8 := Lib.hid (show Calls Tryz.prog 14 #[.pointer (some ⟨bh8, 0, none⟩), .int .i64 0] w11 (fun e w' => e = .returned (.int .i64 (-1)) ∧ w11 = w') from by
                  have h := hst8 0
                  rw [hown] at h
                  exact h)
                simp only at c10 c12 ck s0 sl
                clear hst8
                go_wp2_with fail
                refine HPH2.out.mono ?_
                rintro e w' ⟨rfl, rfl⟩
                go_wp2_with fail
                refine HST8.out.mono ?_
                rintro e w' ⟨rfl, rfl⟩
                go_wp2_with fail
                go_ret
                exact Gives.bool rfl (E4.out.trans S11.out.fin)
      · go_wp2_with (at_builtin; refine wpList_append_own _ rfl _ _ 23 rfl w1.heap.size 26 i0 (.agg #[.int .i64 0, .int .i64 0, .int .i64 0, .int .i64 0, .int .i64 0, .complex .f64 0 0]) 6 56 Tryz.underlying23 hi hz0 hz1 hz2 rfl (by decide) _ _ _ rfl (HR.out.alloc _) ⟨w2.heap.size, 0, none⟩ 2 2 ((⟨18, 0, 0, 0, 0, 0, 0⟩ : Opr).cells ++ (opNew 0).cells) rfl rfl (news_new _ ((⟨18, 0, 0, 0, 0, 0, 0⟩ : Opr).cells ++ (opNew 0).cells) 26) (by intro u hu; rcases List.mem_append.1 hu with h | h; exact oprs_one _ u h; exact oprs_one _ u h) (by unfold maxLen; omega) (by omega) (by rw [World.size_alloc]; omega) ?_; intro v' w3 hown' hgrow _)
        have E3 := Lib.hid (E1.out.trans (ext_grown (w := w1) (HE.out.alloc _) hgrow (fun j hj => (HR.out.lt j hj).1)))
        obtain ⟨A3, c3, rfl⟩ := own_form hown'
        have HL := Lib.hid (show CellsAt w3 A3 ((leaveOps true k).flatMap Opr.cells) from by rw [show leaveOps true k = lvL k ++ [⟨18, 0, 0, 0, 0, 0, 0⟩, opNew 0] by unfold leaveOps lvL; simp, List.flatMap_append]; exact cellsAt_of_own hown')
        have HLN := Lib.hid (show (leaveOps true k).length = k + 2 by unfold leaveOps; simp)
        have HPR := Lib.hid (pair_any A3 c3 (leaveOps true k) w3 (k + 2) HLN.out (by omega) HL.out)
        clear HR HE hsz HL HLN hown' hgrow
        go_wp2_with fail
        refine HPR.out.mono ?_
        rintro e w4 ⟨w0, own4, kk, x, y, A, A1, A2, tb, rfl, hE4, hM4, hW4⟩
        letI : TbId := ⟨⟨tb⟩⟩
        have S0 := Lib.hid (show Sit w0 ⟨own4, w4⟩ x kk (pairW A A1 A2 (leaveOps true k)) from ⟨hM4.mono (fun _ => False.elim), hW4⟩)
        have E4 := Lib.hid (show Ext w w0 from E3.out.trans hE4)
        clear hE4 hM4 hW4 HPR
        obtain ⟨D, Wf, xx, hrun, hloc, hst, hph, hD, hown, hc1, hc2, hb⟩ := leave_end A A1 A2 true k hm
        simp only [if_true, Bool.false_eq_true, if_false, Int.add_zero] at hD
        go_wp2_with fail
        go_loopw [10, 11] (fun dn i wr => ∃ (j : Nat) (d : Int) (own : Nat → Nat) (V : AcW), j ≤ 2000 ∧ dn = .int .i64 d ∧ i = .int .i64 j ∧ (0 ≤ d ∧ d ≤ j) ∧ Hid (Sit w0 ⟨own, wr⟩ x kk V) ∧ Hid (leaveRun (2000 - j) d V = some (D, Wf))) (fun _ i _ => 2000 - (intOf i).toNat)
        case atStart => exact ⟨0, 0, own4, _, by decide, rfl, rfl, ⟨Int.le_refl _, Int.le_refl _⟩, S0, Lib.hid hrun⟩
        case round =>
          clear S0 hrun own4
          obtain ⟨j, d, own4, V, hj, rfl, rfl, hd, S4, HR4⟩ := hrel
          obtain ⟨w4, rfl⟩ : ∃ w4 : World, w4 = wr := ⟨_, rfl⟩
          obtain ⟨hd0, hd1⟩ := hd
          by_cases hlt : j < 2000
          · have hlt' : (j : Int) < 2000 := by omega
            have HPH := Lib.hid (sit_phase S4.out)
            simp only at HPH
            by_cases hp4 : V.a.phase = 4
            · have he := leaveRun_exit _ _ _ _ HR4.out (Or.inr hp4)
              injection he with he1 he2
              subst he1 he2
              rw [hp4] at HPH
              clear HR4 hp4 hj hlt
              go_wp2_with fail
              refine HPH.out.mono ?_
              rintro e w' ⟨rfl, rfl⟩
              subst hD
              have HLC := Lib.hid (sit_locals S4.out 3 (by rw [hloc]; rfl) (by decide))
              rw [hloc] at HLC
              go_wp2_with fail
              refine HLC.out.mono ?_
              rintro e w6 ⟨A6, c6, rfl, m6, r6, hE6, hf6, hc6⟩
              obtain ⟨q6, rfl, hq6, -, hcell, -⟩ := r6.block (by decide)
              have hv : ∀ j : Nat, j < 3 → w6.cell? ⟨q6, j * 2, none⟩ = some (.bool false) ∧ w6.cell? ⟨q6, j * 2 + 1, none⟩ = some (.complex .f64 0 0) := fun j hj => by
                have h0 := hcell (j * 2) (.bool false)
                have h1 := hcell (j * 2 + 1) (.complex .f64 0 0)
                match j, hj with
                | 0, _ => exact ⟨h0 rfl, h1 rfl⟩
                | 1, _ => exact ⟨h0 rfl, h1 rfl⟩
                | 2, _ => exact ⟨h0 rfl, h1 rfl⟩
              have hq6' : q6 < w6.heap.size := hq6
              obtain ⟨own6, m6'⟩ : ∃ ownZ, Mod (fun _ => False) (⟨own4, w4⟩ : GW) ⟨ownZ, w6⟩ := ⟨_, m6⟩
              have S6 := Lib.hid (S4.out.keep m6')
              have HV := Lib.hid hv
              clear hcell hv m6 m6' r6 hE6 hf6 hc6 hq6 HLC S4
              have HW := Lib.hid (fun w => wsame 0 0 w)
              go_wp2_with fail
              go_loopw [15] (fun i wr => ∃ j : Nat, j ≤ 3 ∧ i = .int .i64 j ∧ w6 = wr) (fun i _ => 3 - (intOf i).toNat)
              case atStart => exact ⟨0, by decide, rfl, rfl⟩
              case round =>
                obtain ⟨j, hj, rfl, rfl⟩ := hrel
                by_cases hlt : j < 3
                · have hlt' : (j : Int) < 3 := by omega
                  obtain ⟨v0, v1⟩ := HV.out j hlt
                  go_wp2_with fail
                  refine (HW.out _).mono ?_
                  rintro e w' ⟨rfl, rfl⟩
                  go_wp2_with fail
                  go_roundw
                  case rel => exact ⟨j + 1, by omega, by go_num, by first | rfl | trivial⟩
                  case measure => simp [intOf]; omega
                · obtain rfl : j = 3 := by omega
                  obtain ⟨⟨xr, xb⟩, xW⟩ := xx
                  simp only at hph hown hc1 hc2 hb
                  subst hb
                  have HST := Lib.hid (show Calls Tryz.prog 9 #[.pointer (some ⟨x, 0, none⟩), .pointer (some ⟨kk, 0, none⟩)] w6 (Does (.tuple #[.agg #[.int .i64 xr.op, .int .i64 xr.own, .int .i64 xr.e, .bool xr.v.ref, .complex .f64 xr.v.z.1 xr.v.z.2], .bool false]) ⟨own6, w6⟩ (acT 500 100) (fun g' => Sit w0 g' x kk xW)) from sit_step S6.out _ hst)
                  go_wp2_with fail
                  refine HST.out.mono ?_
                  rintro e w7 ⟨rfl, own7, m7, s7⟩
                  have S7 := Lib.hid s7
                  clear s7 m7 HST S6 HV
                  go_upto_region 29 with fail
                  obtain ⟨own8, m8⟩ : ∃ ownZ, Mod (fun _ => False) (⟨own7, w7⟩ : GW) ⟨ownZ, w7.alloc (.cells #[.int .i64 xr.op, .int .i64 xr.own, .int .i64 xr.e, .bool xr.v.ref, .complex .f64 xr.v.z.1 xr.v.z.2] 36)⟩ := Mod.ofExt (by (repeat (first | (with_reducible (first | assumption | exact zR _ | exact zM _ _ _ _)) | apply zA | refine zS ?_ (by first | exact zL _ | exact zK _ _ | assumption) _ | apply zP | apply zD | apply zN))) own7
                  have S8 := Lib.hid (S7.out.keep m8)
                  generalize w7.alloc (.cells #[.int .i64 xr.op, .int .i64 xr.own, .int .i64 xr.e, .bool xr.v.ref, .complex .f64 xr.v.z.1 xr.v.z.2] 36) = w8 at *
                  clear m8 S7
                  have HTB := Lib.hid (fun w => shade_table TbId.tb w)
                  obtain ⟨bs8, bh8, c10, c12, ck, s0, sl, -, -⟩ := sit_core S8.out
                  simp only at c10 c12 ck s0 sl
                  go_wp2_with fail
                  refine (HTB.out _).mono ?_
                  rintro e w9 ⟨rfl, hX⟩
                  obtain ⟨own9, m9⟩ := Mod.ofExt (show Ext w8 w9 from hX) own8
                  have S9 := Lib.hid (S8.out.keep m9)
                  clear m9 hX S8 c10 c12 ck s0 sl HTB
                  have HCN := Lib.hid (show Calls Tryz.prog 13 #[.pointer (some ⟨TbId.tb, 0, none⟩)] w9 (Gives (.tuple #[.int .i64 (xW.K.sp.tab.cnt 0), .int .i64 0, .int .i64 k]) w9) from by
                    have h := sit_counts S9.out
                    rw [hc1, hc2] at h
                    exact h)
                  go_wp2_with fail
                  refine HCN.out.mono ?_
                  rintro e w10 ⟨rfl, hX⟩
                  obtain ⟨own10, m10⟩ := Mod.ofExt (show Ext w9 w10 from hX) own9
                  have S10 := Lib.hid (S9.out.keep m10)
                  clear m10 hX S9 HCN
                  go_wp2_with fail
                  refine (HF.out _).mono ?_
                  rintro e w11 ⟨rfl, hX⟩
                  obtain ⟨own11, m11⟩ := Mod.ofExt (show Ext w10 w11 from hX) own10
                  have S11 := Lib.hid (S10.out.keep m11)
                  clear m11 hX S10
                  have HPH2 := Lib.hid (show Calls Tryz.prog 8 #[.pointer (some ⟨x, 0, none⟩)] w11 (fun e w' => e = .returned (.int .i64 4) ∧ w11 = w') from by
                    have h := sit_phase S11.out
                    rw [hph] at h
                    exact h)
                  obtain ⟨bs8, bh8, c10, c12, ck, s0, sl, -, hst8⟩ := sit_core S11.out
                  have HST8 := Lib.hid (show Calls Tryz.prog 14 #[.pointer (some ⟨bh8, 0, none⟩), .int .i64 0] w11 (fun e w' => e = .returned (.int .i64 (-1)) ∧ w11 = w') from by
                    have h := hst8 0
                    rw [hown] at h
                    exact h)
                  simp only at c10 c12 ck s0 sl
                  clear hst8
                  go_wp2_with fail
                  refine HPH2.out.mono ?_
                  rintro e w' ⟨rfl, rfl⟩
                  go_wp2_with fail
                  refine HST8.out.mono ?_
                  rintro e w' ⟨rfl, rfl⟩
                  go_wp2_with fail
                  go_ret
                  exact Gives.bool rfl (E4.out.trans S11.out.fin)
            · have hz : (V.a.phase != 4) = true := by simp [hp4]
              obtain ⟨q, hq⟩ : ∃ q, 2000 - j = q + 1 := ⟨2000 - j - 1, by omega⟩
              have hr4 := HR4.out
              rw [hq] at hr4
              obtain ⟨x5, hx5, hr5⟩ := leaveRun_step _ _ _ _ hr4 hp4
              obtain ⟨⟨xr, xb⟩, xW⟩ := x5
              simp only at hr5
              have HST := Lib.hid (show Calls Tryz.prog 9 #[.pointer (some ⟨x, 0, none⟩), .pointer (some ⟨kk, 0, none⟩)] w4 (Does (.tuple #[.agg #[.int .i64 xr.op, .int .i64 xr.own, .int .i64 xr.e, .bool xr.v.ref, .complex .f64 xr.v.z.1 xr.v.z.2], .bool xb]) ⟨own4, w4⟩ (acT 500 100) (fun g' => Sit w0 g' x kk xW)) from sit_step S4.out _ hx5)
              generalize V.a.phase = ph at *
              clear hr4 HR4 hx5 hp4
              go_wp2_with fail
              refine HPH.out.mono ?_
              rintro e w' ⟨rfl, rfl⟩
              go_wp2_with fail
              refine HST.out.mono ?_
              rintro e w5 ⟨rfl, own5, m5, s5⟩
              have S5 := Lib.hid s5
              clear s5 m5 HST S4 HPH
              go_upto_region 20 with fail
              obtain ⟨own6, m6⟩ : ∃ ownZ, Mod (fun _ => False) (⟨own5, w5⟩ : GW) ⟨ownZ, w5.alloc (.cells #[.int .i64 xr.op, .int .i64 xr.own, .int .i64 xr.e, .bool xr.v.ref, .complex .f64 xr.v.z.1 xr.v.z.2] 36)⟩ := Mod.ofExt (by (repeat (first | (with_reducible (first | assumption | exact zR _ | exact zM _ _ _ _)) | apply zA | refine zS ?_ (by first | exact zL _ | exact zK _ _ | assumption) _ | apply zP | apply zD | apply zN))) own5
              have S6 := Lib.hid (S5.out.keep m6)
              generalize w5.alloc (.cells #[.int .i64 xr.op, .int .i64 xr.own, .int .i64 xr.e, .bool xr.v.ref, .complex .f64 xr.v.z.1 xr.v.z.2] 36) = w6 at *
              clear m6 S5
              cases xb
              · simp only [Bool.false_eq_true, if_false] at hr5
                go_wp2_with fail
                go_roundw
                case rel => exact ⟨j + 1, d, own6, xW, by omega, rfl, by go_num, ⟨hd0, by omega⟩, S6, Lib.hid (by rw [show 2000 - (j + 1) = q by omega]; exact hr5)⟩
                case measure => simp [intOf]; omega
              · simp only [if_true] at hr5
                go_wp2_with fail
                go_roundw
                case rel => exact ⟨j + 1, d + 1, own6, xW, by omega, by go_num, by go_num, ⟨by omega, by omega⟩, S6, Lib.hid (by rw [show 2000 - (j + 1) = q by omega]; exact hr5)⟩
                case measure => simp [intOf]; omega
          · obtain rfl : j = 2000 := by omega
            have he := leaveRun_exit _ _ _ _ HR4.out (Or.inl rfl)
            injection he with he1 he2
            subst he1 he2
            clear HR4 hj hlt
            go_wp2_with fail
            subst hD
            have HLC := Lib.hid (sit_locals S4.out 3 (by rw [hloc]; rfl) (by decide))
            rw [hloc] at HLC
            go_wp2_with fail
            refine HLC.out.mono ?_
            rintro e w6 ⟨A6, c6, rfl, m6, r6, hE6, hf6, hc6⟩
            obtain ⟨q6, rfl, hq6, -, hcell, -⟩ := r6.block (by decide)
            have hv : ∀ j : Nat, j < 3 → w6.cell? ⟨q6, j * 2, none⟩ = some (.bool false) ∧ w6.cell? ⟨q6, j * 2 + 1, none⟩ = some (.complex .f64 0 0) := fun j hj => by
              have h0 := hcell (j * 2) (.bool false)
              have h1 := hcell (j * 2 + 1) (.complex .f64 0 0)
              match j, hj with
              | 0, _ => exact ⟨h0 rfl, h1 rfl⟩
              | 1, _ => exact ⟨h0 rfl, h1 rfl⟩
              | 2, _ => exact ⟨h0 rfl, h1 rfl⟩
            have hq6' : q6 < w6.heap.size := hq6
            obtain ⟨own6, m6'⟩ : ∃ ownZ, Mod (fun _ => False) (⟨own4, w4⟩ : GW) ⟨ownZ, w6⟩ := ⟨_, m6⟩
            have S6 := Lib.hid (S4.out.keep m6')
            have HV := Lib.hid hv
            clear hcell hv m6 m6' r6 hE6 hf6 hc6 hq6 HLC S4
            have HW := Lib.hid (fun w => wsame 0 0 w)
            go_wp2_with fail
            go_loopw [15] (fun i wr => ∃ j : Nat, j ≤ 3 ∧ i = .int .i64 j ∧ w6 = wr) (fun i _ => 3 - (intOf i).toNat)
            case atStart => exact ⟨0, by decide, rfl, rfl⟩
            case round =>
              obtain ⟨j, hj, rfl, rfl⟩ := hrel
              by_cases hlt : j < 3
              · have hlt' : (j : Int) < 3 := by omega
                obtain ⟨v0, v1⟩ := HV.out j hlt
                go_wp2_with fail
                refine (HW.out _).mono ?_
                rintro e w' ⟨rfl, rfl⟩
                go_wp2_with fail
                go_roundw
                case rel => exact ⟨j + 1, by omega, by go_num, by first | rfl | trivial⟩
                case measure => simp [intOf]; omega
              · obtain rfl : j = 3 := by omega
                obtain ⟨⟨xr, xb⟩, xW⟩ := xx
                simp only at hph hown hc1 hc2 hb
                subst hb
                have HST := Lib.hid (show Calls Tryz.prog 9 #[.pointer (some ⟨x, 0, none⟩), .pointer (some ⟨kk, 0, none⟩)] w6 (Does (.tuple #[.agg #[.int .i64 xr.op, .int .i64 xr.own, .int .i64 xr.e, .bool xr.v.ref, .complex .f64 xr.v.z.1 xr.v.z.2], .bool false]) ⟨own6, w6⟩ (acT 500 100) (fun g' => Sit w0 g' x kk xW)) from sit_step S6.out _ hst)
                go_wp2_with fail
                refine HST.out.mono ?_
                rintro e w7 ⟨rfl, own7, m7, s7⟩
                have S7 := Lib.hid s7
                clear s7 m7 HST S6 HV
                go_upto_region 29 with fail
                obtain ⟨own8, m8⟩ : ∃ ownZ, Mod (fun _ => False) (⟨own7, w7⟩ : GW) ⟨ownZ, w7.alloc (.cells #[.int .i64 xr.op, .int .i64 xr.own, .int .i64 xr.e, .bool xr.v.ref, .complex .f64 xr.v.z.1 xr.v.z.2] 36)⟩ := Mod.ofExt (by (repeat (first | (with_reducible (first | assumption | exact zR _ | exact zM _ _ _ _)) | apply zA | refine zS ?_ (by first | exact zL _ | exact zK _ _ | assumption) _ | apply zP | apply zD | apply zN))) own7
                have S8 := Lib.hid (S7.out.keep m8)
                generalize w7.alloc (.cells #[.int .i64 xr.op, .int .i64 xr.own, .int .i64 xr.e, .bool xr.v.ref, .complex .f64 xr.v.z.1 xr.v.z.2] 36) = w8 at *
                clear m8 S7
                have HTB := Lib.hid (fun w => shade_table TbId.tb w)
                obtain ⟨bs8, bh8, c10, c12, ck, s0, sl, -, -⟩ := sit_core S8.out
                simp only at c10 c12 ck s0 sl
                go_wp2_with fail
                refine (HTB.out _).mono ?_
                rintro e w9 ⟨rfl, hX⟩
                obtain ⟨own9, m9⟩ := Mod.ofExt (show Ext w8 w9 from hX) own8
                have S9 := Lib.hid (S8.out.keep m9)
                clear m9 hX S8 c10 c12 ck s0 sl HTB
                have HCN := Lib.hid (show Calls Tryz.prog 13 #[.pointer (some ⟨TbId.tb, 0, none⟩)] w9 (Gives (.tuple #[.int .i64 (xW.K.sp.tab.cnt 0), .int .i64 0, .int .i64 k]) w9) from by
                  have h := sit_counts S9.out
                  rw [hc1, hc2] at h
                  exact h)
                go_wp2_with fail
                refine HCN.out.mono ?_
                rintro e w10 ⟨rfl, hX⟩
                obtain ⟨own10, m10⟩ := Mod.ofExt (show Ext w9 w10 from hX) own9
                have S10 := Lib.hid (S9.out.keep m10)
                clear m10 hX S9 HCN
                go_wp2_with fail
                refine (HF.out _).mono ?_
                rintro e w11 ⟨rfl, hX⟩
                obtain ⟨own11, m11⟩ := Mod.ofExt (show Ext w10 w11 from hX) own10
                have S11 := Lib.hid (S10.out.keep m11)
                clear m11 hX S10
                have HPH2 := Lib.hid (show Calls Tryz.prog 8 #[.pointer (some ⟨x, 0, none⟩)] w11 (fun e w' => e = .returned (.int .i64 4) ∧ w11 = w') from by
                  have h := sit_phase S11.out
                  rw [hph] at h
                  exact h)
                obtain ⟨bs8, bh8, c10, c12, ck, s0, sl, -, hst8⟩ := sit_core S11.out
                have HST8 := Lib.hid (show Calls Tryz.prog 14 #[.pointer (some ⟨bh8, 0, none⟩), .int .i64 0] w11 (fun e w' => e = .returned (.int .i64 (-1)) ∧ w11 = w') from by
                  have h := hst8 0
                  rw [hown] at h
                  exact h)
                simp only at c10 c12 ck s0 sl
                clear hst8
                go_wp2_with fail
                refine HPH2.out.mono ?_
                rintro e w' ⟨rfl, rfl⟩
                go_wp2_with fail
                refine HST8.out.mono ?_
                rintro e w' ⟨rfl, rfl⟩
                go_wp2_with fail
                go_ret
                exact Gives.bool rfl (E4.out.trans S11.out.fin)
end Go.Proofs.YtoaehfdjffejeaaGreat

