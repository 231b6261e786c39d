import Derived.Test.YtoaehfdjffejeaaGreatKL27
open Go.Ext renaming alloc → zA, patch → zP, drew → zD, drewN → zN, more → zM, refl → zR, setCell → zS
open Nat renaming le_refl → zL, le_add_right → zK
/-
  ActColours: the walk.
-/
namespace Go.Proofs.YtoaehfdjffejeaaGreat
open Go Go.RowKit
set_option linter.unusedVariables false
set_option linter.unnecessarySimpa false
set_option linter.unusedSimpArgs false
set_option maxHeartbeats 4000000
set_option maxRecDepth 100000
theorem postR_some {W V : AcW} {s : Int} {flip : Bool} (h : W.postR s flip = some V) : AcW.cntOk W.K.hand.count = true ∧ W.post s flip = V := by
  unfold AcW.postR at h
  split at h
  case isTrue hc => injection h with h; exact ⟨hc, h⟩
  case isFalse => cases h
theorem awaitR_exit (n : Nat) (s : Int) (W : AcW) (V : AcW) (h : AcW.awaitR n s W = some V) (hx : n = 0 ∨ W.a.status = s) : V = W := by
  cases n with
  | zero => unfold AcW.awaitR at h; injection h with h; exact h.symm
  | succ n =>
    rcases hx with hx | hx
    · cases hx
    · unfold AcW.awaitR at h
      rw [if_pos (beq_iff_eq.2 hx)] at h
      injection h with h
      exact h.symm
theorem awaitR_step (n : Nat) (s : Int) (W : AcW) (V : AcW) (h : AcW.awaitR (n + 1) s W = some V) (hx : W.a.status ≠ s) : ∃ x : AcR, W.stepR = some x ∧ AcW.awaitR n s x.2 = some V := by
  unfold AcW.awaitR at h
  rw [if_neg (by simpa using hx)] at h
  cases hs : W.stepR with
  | none => rw [hs] at h; cases h
  | some x => rw [hs] at h; exact ⟨x, rfl, h⟩
theorem colStages_step (k : Nat) (s : Int) (W V : AcW) (h : colStages (k + 1) s W = some V) : ∃ U X : AcW, (if decide (1 < s) then W.postR s false else some W) = some U ∧ AcW.awaitR 6 s U = some X ∧ colStages k (s + 1) X = some V := by
  unfold colStages at h
  cases h1 : (if decide (1 < s) then W.postR s false else some W) with
  | none => rw [h1] at h; cases h
  | some U =>
    rw [h1] at h
    simp only at h
    cases h2 : AcW.awaitR 6 s U with
    | none => rw [h2] at h; cases h
    | some X => rw [h2] at h; exact ⟨U, X, rfl, h2, h⟩
theorem col_end (A A1 A2 : Option Addr) (m : Nat) (hm : m < 5) : ∃ (x : AcR) (V U : AcW), (pairW A A1 A2 [opNew 0]).stepR = some x ∧ (if decide (0 < (m : Int)) then x.2.postR 1 true else some x.2) = some V ∧ colStages m 1 V = some U ∧ colRun m 30 U = true := by
  have h := col_all A A1 A2 m hm
  unfold colAll colStart at h
  cases h1 : (pairW A A1 A2 [opNew 0]).stepR with
  | none => rw [h1] at h; cases h
  | some x =>
    rw [h1] at h
    simp only at h
    cases h2 : (if decide (0 < (m : Int)) then x.2.postR 1 true else some x.2) with
    | none => rw [h2] at h; cases h
    | some V =>
      rw [h2] at h
      simp only [Int.toNat_natCast] at h
      cases h3 : colStages m 1 V with
      | none => rw [h3] at h; cases h
      | some U => rw [h3] at h; exact ⟨x, V, U, rfl, h2, h3, h⟩
theorem colRun_step (m : Int) (n : Nat) (W : AcW) (h : colRun m n W = true) : ∃ (q : Nat) (x : AcR), n = q + 1 ∧ W.stepR = some x ∧ ((x.1.2 = true ∧ colDone m x = true) ∨ (x.1.2 = false ∧ (decide ((0 : Int) < W.K.sp.tab.cnt 2) && x.2.K.sp.tab.head 39) = false ∧ colRun m q x.2 = true)) := by
  cases n with
  | zero => unfold colRun at h; cases h
  | succ q =>
    unfold colRun at h
    cases hs : W.stepR with
    | none => rw [hs] at h; cases h
    | some x =>
      rw [hs] at h
      simp only at h
      cases hb : x.1.2
      · rw [hb] at h
        simp only [Bool.false_eq_true, if_false] at h
        split at h
        case isTrue => cases h
        case isFalse hn => exact ⟨q, x, rfl, rfl, Or.inr ⟨hb, by simpa using hn, h⟩⟩
      · rw [hb] at h
        exact ⟨q, x, rfl, rfl, Or.inl ⟨hb, h⟩⟩
theorem zRef39 : zRef 39 = (4630826316843712512, 4607182418800017408) := by kernel_rfl
theorem colours_any (n : Int) (w : World) : Calls Tryz.prog 5 #[.int .i64 n] w (Gives (.bool true) w) := by
  have HF := Lib.hid (fun w => first23_any w)
  go_enter Tryz.func5, Tryz.ntmps5
  go_wp2_with fail
  refine (HF.out _).mono ?_
  rintro e w1 ⟨rfl, hX⟩
  have E1 := Lib.hid (show Ext w w1 from hX)
  clear hX
  by_cases hlo : n < 0
  · have d0 : decide (n < 0) = true := decide_eq_true hlo
    clear hlo
    go_wp2_with fail
    refine (HF.out _).mono ?_
    rintro e w9 ⟨rfl, hX⟩
    have E9 := Lib.hid (show Ext w1 w9 from hX)
    clear hX
    go_wp2_with fail
    go_ret
    exact Gives.bool rfl (E1.out.trans E9.out)
  by_cases hhi : 4 < n
  · have d0 : decide (n < 0) = false := decide_eq_false hlo
    have d1 : decide (4 < n) = true := decide_eq_true hhi
    clear hlo hhi
    go_wp2_with fail
    refine (HF.out _).mono ?_
    rintro e w9 ⟨rfl, hX⟩
    have E9 := Lib.hid (show Ext w1 w9 from hX)
    clear hX
    go_wp2_with fail
    go_ret
    exact Gives.bool rfl (E1.out.trans E9.out)
  obtain ⟨m, rfl⟩ := Int.eq_ofNat_of_zero_le (show 0 ≤ n by omega)
  have hm : m < 5 := by omega
  have d0 : decide ((m : Int) < 0) = false := decide_eq_false hlo
  have d1 : decide (4 < (m : Int)) = false := decide_eq_false hhi
  clear hlo hhi
  have E2 : Ext w1 (w1.alloc (.cells #[.int .i64 1, .int .i64 0, .int .i64 0, .int .i64 0, .int .i64 0, .complex .f64 0 0] 26)) := by (repeat (first | (with_reducible (first | assumption | exact zR _ | exact zM _ _ _ _)) | apply zA | refine zS ?_ (by first | exact zL _ | exact zK _ _ | assumption) _ | apply zP | apply zD | apply zN))
  have HPR := Lib.hid (show Calls Tryz.prog 7 #[.slice (some ⟨w1.heap.size, 0, none⟩) 1 1, .slice none 0 0] (w1.alloc (.cells #[.int .i64 1, .int .i64 0, .int .i64 0, .int .i64 0, .int .i64 0, .complex .f64 0 0] 26)) (PairMade [opNew 0] _) from pair_any _ 1 [opNew 0] _ 1 rfl (by decide) (cellsAt_new w1 ([opNew 0].flatMap Opr.cells) 26 _ rfl))
  go_wp2_with fail
  refine HPR.out.mono ?_
  rintro e w4 ⟨w0, own4, kk, x, y, A, A1, A2, tb, rfl, hE4, hM4, hW4⟩
  letI : TbId := ⟨⟨tb⟩⟩
  have S4 := Lib.hid (show Sit w0 ⟨own4, w4⟩ x kk (pairW A A1 A2 [opNew 0]) from ⟨hM4.mono (fun _ => False.elim), hW4⟩)
  have E4 := Lib.hid (show Ext w w0 from (E1.out.trans E2).trans hE4)
  clear hE4 hM4 hW4 HPR E2
  obtain ⟨⟨⟨zr, zb⟩, zW⟩, V, U, hst, hpo, hsg, hrn⟩ := col_end A A1 A2 m hm
  simp only at hpo
  have HRN := Lib.hid hrn
  have HST := Lib.hid (show Calls Tryz.prog 9 #[.pointer (some ⟨x, 0, none⟩), .pointer (some ⟨kk, 0, none⟩)] w4 (Does (.tuple #[.agg #[.int .i64 zr.op, .int .i64 zr.own, .int .i64 zr.e, .bool zr.v.ref, .complex .f64 zr.v.z.1 zr.v.z.2], .bool zb]) ⟨own4, w4⟩ (acT 500 100) (fun g' => Sit w0 g' x kk zW)) from sit_step S4.out _ hst)
  clear hrn hst
  go_wp2_with fail
  refine HST.out.mono ?_
  rintro e w5 ⟨rfl, own5, m5, s5⟩
  have S5 := Lib.hid s5
  clear s5 m5 HST S4
  by_cases hm0 : m = 0
  · subst hm0
    have hV : zW = V := by have h := hpo; simp only [Int.natCast_zero, Int.lt_irrefl, decide_false, Bool.false_eq_true, if_false] at h; injection h
    have hU : V = U := by have h := hsg; unfold colStages at h; injection h
    subst hV hU
    clear hpo hsg
    go_wp2_with fail
    go_loopw [6] (fun s wr => s = .int .i64 1 ∧ w5 = wr) (fun s _ => 0)
    case atStart => exact ⟨rfl, rfl⟩
    case round =>
      obtain ⟨rfl, rfl⟩ := hrel
      have S6 := S5
      clear S5
      generalize own5 = own6 at *
      generalize w5 = w6 at *
      obtain ⟨bs8, bh8, c10, c12, ck, s0, sl, -, -⟩ := sit_core S6.out
      have HTB := Lib.hid (fun w => shade_table TbId.tb w)
      simp only at c10 c12 ck s0 sl
      go_wp2_with fail
      refine (HTB.out _).mono ?_
      rintro e w7 ⟨rfl, hX⟩
      obtain ⟨own7, m7⟩ := Mod.ofExt (show Ext w6 w7 from hX) own6
      have S7 := Lib.hid (S6.out.keep m7)
      clear m7 hX S6 c10 c12 ck s0 sl HTB
      go_wp2_with fail
      go_loopw [9] (fun i wr => ∃ (q : Nat) (own : Nat → Nat) (V : AcW), q ≤ 30 ∧ i = .int .i64 q ∧ Hid (Sit w0 ⟨own, wr⟩ x kk V) ∧ Hid (colRun ((0 : Nat) : Int) (30 - q) V = true)) (fun i _ => 30 - (intOf i).toNat)
      case atStart => exact ⟨0, own7, zW, by decide, rfl, S7, HRN⟩
      case round =>
        clear S7 HRN own7
        obtain ⟨q, own7, V7, hq, rfl, S7, HR7⟩ := hrel
        obtain ⟨w7, rfl⟩ : ∃ w7 : World, w7 = wr := ⟨_, rfl⟩
        obtain ⟨y7, x7, hy, hst, hcase⟩ := colRun_step _ _ _ HR7.out
        have hlt : q < 30 := by omega
        have hlt' : (q : Int) < 30 := by omega
        obtain ⟨⟨⟨ro, rw_, re, ⟨rf, rz⟩⟩, xb⟩, xW⟩ := x7
        simp only at hcase
        have HCN := Lib.hid (sit_counts S7.out)
        simp only at HCN
        generalize V7.K.sp.tab.cnt 0 = cn0 at *
        generalize V7.K.sp.tab.cnt 1 = cn1 at *
        generalize V7.K.sp.tab.cnt 2 = cn2 at *
        go_wp2_with fail
        refine HCN.out.mono ?_
        rintro e w8 ⟨rfl, hX⟩
        obtain ⟨own8, m8⟩ := Mod.ofExt (show Ext w7 w8 from hX) own7
        have S8 := Lib.hid (S7.out.keep m8)
        clear m8 hX S7 HCN HR7
        have HSP := Lib.hid (show Calls Tryz.prog 9 #[.pointer (some ⟨x, 0, none⟩), .pointer (some ⟨kk, 0, none⟩)] w8 (Does (.tuple #[.agg #[.int .i64 ro, .int .i64 rw_, .int .i64 re, .bool rf, .complex .f64 rz.1 rz.2], .bool xb]) ⟨own8, w8⟩ (acT 500 100) (fun g' => Sit w0 g' x kk xW)) from sit_step S8.out _ hst)
        clear hst
        go_wp2_with fail
        refine HSP.out.mono ?_
        rintro e w9 ⟨rfl, own9, m9, s9⟩
        have S9 := Lib.hid s9
        clear s9 m9 HSP S8
        go_upto_region 26 with fail
        obtain ⟨own10, m10, B10⟩ := start1 ⟨own9, w9⟩ 36 [.int .i64 ro, .int .i64 rw_, .int .i64 re, .bool rf, .complex .f64 rz.1 rz.2]
        have m10' : Mod (fun _ => False) (⟨own9, w9⟩ : GW) ⟨own10, w9.alloc (.cells #[.int .i64 ro, .int .i64 rw_, .int .i64 re, .bool rf, .complex .f64 rz.1 rz.2] 36)⟩ := m10
        have B10' := Lib.hid (show Blk ⟨own10, w9.alloc (.cells #[.int .i64 ro, .int .i64 rw_, .int .i64 re, .bool rf, .complex .f64 rz.1 rz.2] 36)⟩ 9 w9.heap.size 36 [.int .i64 ro, .int .i64 rw_, .int .i64 re, .bool rf, .complex .f64 rz.1 rz.2] from B10)
        have S10 := Lib.hid (S9.out.keep m10')
        clear m10 B10 m10' S9
        generalize w9.alloc (.cells #[.int .i64 ro, .int .i64 rw_, .int .i64 re, .bool rf, .complex .f64 rz.1 rz.2] 36) = w10 at *
        generalize w9.heap.size = q10 at *
        rcases hcase with ⟨rfl, hdone⟩ | ⟨rfl, hno, hnext⟩
        · unfold colDone at hdone
          simp only [Bool.and_eq_true, beq_iff_eq] at hdone
          obtain ⟨rfl, hz, h39, hbl, hse, hss⟩ := hdone
          rw [zRef39] at hz
          subst hz
          go_wp2_with fail
          refine (HF.out _).mono ?_
          rintro e w11 ⟨rfl, hX⟩
          obtain ⟨own11, m11⟩ := Mod.ofExt (show Ext w10 w11 from hX) own10
          have S11 := Lib.hid (S10.out.keep m11)
          have B11 := Lib.hid (B10'.out.keep m11 id)
          clear m11 hX S10 B10'
          have HW := Lib.hid (fun w => wsame 4630826316843712512 4607182418800017408 w)
          have HHD := Lib.hid (show Calls Tryz.prog 21 #[.pointer (some ⟨TbId.tb, 0, none⟩), .int .i64 39] w11 (fun e w' => e = .returned (.bool true) ∧ w11 = w') from by have h := sit_head S11.out 39; rw [h39] at h; exact h)
          have HBL := Lib.hid (show Calls Tryz.prog 20 #[.pointer (some ⟨TbId.tb, 0, none⟩), .int .i64 39, .bool true] w11 (fun e w' => e = .returned (.bool (decide ((3 : Int) ≤ ((0 : Nat) : Int)))) ∧ w11 = w') from by have h := sit_black S11.out 39 true; rw [hbl] at h; exact h)
          have HSE := Lib.hid (show Calls Tryz.prog 22 #[.pointer (some ⟨x, 0, none⟩)] w11 (fun e w' => e = .returned (.bool (decide ((0 : Int) < ((0 : Nat) : Int)))) ∧ w11 = w') from by have h := sit_sense S11.out; rw [hse] at h; exact h)
          have HSS := Lib.hid (show Calls Tryz.prog 18 #[.pointer (some ⟨x, 0, none⟩)] w11 (fun e w' => e = .returned (.int .i64 ((0 : Nat) : Int)) ∧ w11 = w') from by have h := sit_status S11.out; rw [hss] at h; exact h)
          obtain ⟨z0, z1, z2, z3, z4, zl⟩ := B11.out.c5
          (try simp only [GW.to] at z0 z1 z2 z3 z4 zl)
          go_wp2_with fail
          refine (HW.out _).mono ?_
          rintro e w' ⟨rfl, rfl⟩
          go_wp2_with fail
          refine HHD.out.mono ?_
          rintro e w' ⟨rfl, rfl⟩
          go_wp2_with fail
          refine HBL.out.mono ?_
          rintro e w' ⟨rfl, rfl⟩
          go_wp2_with fail
          refine HSE.out.mono ?_
          rintro e w' ⟨rfl, rfl⟩
          go_wp2_with fail
          refine HSS.out.mono ?_
          rintro e w' ⟨rfl, rfl⟩
          go_wp2_with fail
          go_ret
          exact Gives.bool (by simp) (E4.out.trans S11.out.fin)
        · have HHD := Lib.hid (sit_head S10.out 39)
          by_cases hc : cn2 = 0
          · subst hc
            go_wp2_with fail
            go_roundw
            case rel => exact ⟨q + 1, own10, xW, by omega, by go_num, S10, Lib.hid (by rw [show 30 - (q + 1) = y7 by omega]; exact hnext)⟩
            case measure => simp [intOf]; omega
          · have hc1 : (0 : Int) < (cn2 : Int) := by omega
            have hc2 : 0 < cn2 := by omega
            rw [decide_eq_true hc1, Bool.true_and] at hno
            rw [hno] at HHD
            go_wp2_with fail
            refine HHD.out.mono ?_
            rintro e w' ⟨rfl, rfl⟩
            go_wp2_with fail
            go_roundw
            case rel => exact ⟨q + 1, own10, xW, by omega, by go_num, S10, Lib.hid (by rw [show 30 - (q + 1) = y7 by omega]; exact hnext)⟩
            case measure => simp [intOf]; omega
  · have hmp : (0 : Int) < (m : Int) := by omega
    have hd9 : decide ((0 : Int) < (m : Int)) = true := decide_eq_true hmp
    rw [hd9, if_pos rfl] at hpo
    obtain ⟨hco, hV⟩ := postR_some hpo
    subst hV
    obtain ⟨bs8, bh8, c10, c12, ck, s0, sl, hps, -⟩ := sit_core S5.out
    have HPS := Lib.hid (show Calls Tryz.prog 17 #[.pointer (some ⟨bh8, 0, none⟩), .int .i64 1, .bool true] w5 (Does (.bool (HandS.knownB 1)) ⟨own5, w5⟩ (acT 500 100) (fun g' => Sit w0 g' x kk (zW.post 1 true))) from hps 1 true hco)
    simp only at c10 c12 ck s0 sl
    clear hps hpo hco
    go_wp2_with fail
    refine HPS.out.mono ?_
    rintro e w6 ⟨rfl, own6, m6, s6⟩
    have S6 := Lib.hid s6
    clear m6 s6 HPS S5 c10 c12 ck s0 sl
    generalize zW.post 1 true = V at *
    go_wp2_with fail
    go_loopw [6] (fun s wr => ∃ (j : Nat) (own : Nat → Nat) (W : AcW), j ≤ m ∧ s = .int .i64 ((j : Int) + 1) ∧ Hid (Sit w0 ⟨own, wr⟩ x kk W) ∧ Hid (colStages (m - j) ((j : Int) + 1) W = some U)) (fun s _ => m + 1 - (intOf s).toNat)
    case atStart => exact ⟨0, own6, V, Nat.zero_le _, rfl, S6, Lib.hid hsg⟩
    case round =>
      clear S6 hsg own6
      obtain ⟨j, own5, W, hj, rfl, S5, HC5⟩ := hrel
      obtain ⟨w5, rfl⟩ : ∃ w5 : World, w5 = wr := ⟨_, rfl⟩
      by_cases hlt : j < m
      · have hlt' : (j : Int) + 1 ≤ (m : Int) := by omega
        have hc5 := HC5.out
        rw [show m - j = m - j - 1 + 1 by omega] at hc5
        obtain ⟨U6, X6, hu, ha6, hc6⟩ := colStages_step _ _ _ _ hc5
        have HA6 := Lib.hid ha6
        have HC6 := Lib.hid hc6
        clear ha6 hc6 hc5 HC5
        by_cases hj0 : j = 0
        · have hjn : decide ((1 : Int) < (j : Int) + 1) = false := decide_eq_false (by omega)
          have hWU : W = U6 := by have h := hu; rw [hjn] at h; simp only [Bool.false_eq_true, if_false] at h; injection h
          subst hWU
          clear hu
          have S6 := S5
          clear S5
          generalize own5 = own6 at *
          generalize w5 = w6 at *
          generalize W = U6 at *
          clear hj0
          go_wp2_with fail
          go_loopw [7] (fun i wr => ∃ (q : Nat) (own : Nat → Nat) (V : AcW), q ≤ 6 ∧ i = .int .i64 q ∧ Hid (Sit w0 ⟨own, wr⟩ x kk V) ∧ Hid (AcW.awaitR (6 - q) ((j : Int) + 1) V = some X6)) (fun i _ => 6 - (intOf i).toNat)
          case atStart => exact ⟨0, own6, U6, by decide, rfl, S6, HA6⟩
          case round =>
            clear S6 HA6 own6
            obtain ⟨q, own7, V7, hq, rfl, S7, HA7⟩ := hrel
            obtain ⟨w7, rfl⟩ : ∃ w7 : World, w7 = wr := ⟨_, rfl⟩
            by_cases hlt : q < 6
            · have hlt' : (q : Int) < 6 := by omega
              have HST := Lib.hid (sit_status S7.out)
              simp only at HST
              by_cases hs : V7.a.status = (j : Int) + 1
              · have he := awaitR_exit _ _ _ _ HA7.out (Or.inr hs)
                subst he
                rw [hs] at HST
                clear HA7 hs
                go_wp2_with fail
                refine HST.out.mono ?_
                rintro e w' ⟨rfl, rfl⟩
                go_wp2_with fail
                go_roundw
                case rel => exact ⟨j + 1, own7, X6, by omega, by go_num, S7, Lib.hid (by rw [show m - (j + 1) = m - j - 1 by omega, show (((j + 1 : Nat) : Int) + 1) = (j : Int) + 1 + 1 by omega]; exact HC6.out)⟩
                case measure => simp [intOf]; omega
              · have hz : (V7.a.status != (j : Int) + 1) = true := by simp [hs]
                have ha7 := HA7.out
                obtain ⟨y, hy⟩ : ∃ y, 6 - q = y + 1 := ⟨6 - q - 1, by omega⟩
                rw [hy] at ha7
                obtain ⟨x8, hx8, ha8⟩ := awaitR_step _ _ _ _ ha7 hs
                obtain ⟨⟨xr, xb⟩, xW⟩ := x8
                simp only at ha8
                have HSP := Lib.hid (show Calls Tryz.prog 9 #[.pointer (some ⟨x, 0, none⟩), .pointer (some ⟨kk, 0, none⟩)] w7 (Does (.tuple #[.agg #[.int .i64 xr.op, .int .i64 xr.own, .int .i64 xr.e, .bool xr.v.ref, .complex .f64 xr.v.z.1 xr.v.z.2], .bool xb]) ⟨own7, w7⟩ (acT 500 100) (fun g' => Sit w0 g' x kk xW)) from sit_step S7.out _ hx8)
                generalize V7.a.status = st at *
                clear ha7 HA7 hx8 hs
                go_wp2_with fail
                refine HST.out.mono ?_
                rintro e w' ⟨rfl, rfl⟩
                go_wp2_with fail
                refine HSP.out.mono ?_
                rintro e w8 ⟨rfl, own8, m8, s8⟩
                have S8 := Lib.hid s8
                clear s8 m8 HSP S7 HST
                go_wp2_with fail
                go_roundw
                case rel => exact ⟨q + 1, own8, xW, by omega, by go_num, S8, Lib.hid (by rw [show 6 - (q + 1) = y by omega]; exact ha8)⟩
                case measure => simp [intOf]; omega
            · obtain rfl : q = 6 := by omega
              have he := awaitR_exit _ _ _ _ HA7.out (Or.inl rfl)
              subst he
              clear HA7
              go_wp2_with fail
              go_roundw
              case rel => exact ⟨j + 1, own7, X6, by omega, by go_num, S7, Lib.hid (by rw [show m - (j + 1) = m - j - 1 by omega, show (((j + 1 : Nat) : Int) + 1) = (j : Int) + 1 + 1 by omega]; exact HC6.out)⟩
              case measure => simp [intOf]; omega
        · have hjp : (1 : Int) < (j : Int) + 1 := by omega
          rw [decide_eq_true hjp, if_pos rfl] at hu
          obtain ⟨hco, hV⟩ := postR_some hu
          subst hV
          obtain ⟨bs8, bh8, c10, c12, ck, s0, sl, hps, -⟩ := sit_core S5.out
          have HPS := Lib.hid (show Calls Tryz.prog 17 #[.pointer (some ⟨bh8, 0, none⟩), .int .i64 ((j : Int) + 1), .bool false] w5 (Does (.bool (HandS.knownB ((j : Int) + 1))) ⟨own5, w5⟩ (acT 500 100) (fun g' => Sit w0 g' x kk (W.post ((j : Int) + 1) false))) from hps ((j : Int) + 1) false hco)
          simp only at c10 c12 ck s0 sl
          clear hps hu hco
          go_wp2_with fail
          refine HPS.out.mono ?_
          rintro e w6 ⟨rfl, own6, m6, s6⟩
          have S6 := Lib.hid s6
          clear m6 s6 HPS S5 c10 c12 ck s0 sl
          generalize W.post ((j : Int) + 1) false = U6 at *
          go_wp2_with fail
          go_loopw [7] (fun i wr => ∃ (q : Nat) (own : Nat → Nat) (V : AcW), q ≤ 6 ∧ i = .int .i64 q ∧ Hid (Sit w0 ⟨own, wr⟩ x kk V) ∧ Hid (AcW.awaitR (6 - q) ((j : Int) + 1) V = some X6)) (fun i _ => 6 - (intOf i).toNat)
          case atStart => exact ⟨0, own6, U6, by decide, rfl, S6, HA6⟩
          case round =>
            clear S6 HA6 own6
            obtain ⟨q, own7, V7, hq, rfl, S7, HA7⟩ := hrel
            obtain ⟨w7, rfl⟩ : ∃ w7 : World, w7 = wr := ⟨_, rfl⟩
            by_cases hlt : q < 6
            · have hlt' : (q : Int) < 6 := by omega
              have HST := Lib.hid (sit_status S7.out)
              simp only at HST
              by_cases hs : V7.a.status = (j : Int) + 1
              · have he := awaitR_exit _ _ _ _ HA7.out (Or.inr hs)
                subst he
                rw [hs] at HST
                clear HA7 hs
                go_wp2_with fail
                refine HST.out.mono ?_
                rintro e w' ⟨rfl, rfl⟩
                go_wp2_with fail
                go_roundw
                case rel => exact ⟨j + 1, own7, X6, by omega, by go_num, S7, Lib.hid (by rw [show m - (j + 1) = m - j - 1 by omega, show (((j + 1 : Nat) : Int) + 1) = (j : Int) + 1 + 1 by omega]; exact HC6.out)⟩
                case measure => simp [intOf]; omega
              · have hz : (V7.a.status != (j : Int) + 1) = true := by simp [hs]
                have ha7 := HA7.out
                obtain ⟨y, hy⟩ : ∃ y, 6 - q = y + 1 := ⟨6 - q - 1, by omega⟩
                rw [hy] at ha7
                obtain ⟨x8, hx8, ha8⟩ := awaitR_step _ _ _ _ ha7 hs
                obtain ⟨⟨xr, xb⟩, xW⟩ := x8
                simp only at ha8
                have HSP := Lib.hid (show Calls Tryz.prog 9 #[.pointer (some ⟨x, 0, none⟩), .pointer (some ⟨kk, 0, none⟩)] w7 (Does (.tuple #[.agg #[.int .i64 xr.op, .int .i64 xr.own, .int .i64 xr.e, .bool xr.v.ref, .complex .f64 xr.v.z.1 xr.v.z.2], .bool xb]) ⟨own7, w7⟩ (acT 500 100) (fun g' => Sit w0 g' x kk xW)) from sit_step S7.out _ hx8)
                generalize V7.a.status = st at *
                clear ha7 HA7 hx8 hs
                go_wp2_with fail
                refine HST.out.mono ?_
                rintro e w' ⟨rfl, rfl⟩
                go_wp2_with fail
                refine HSP.out.mono ?_
                rintro e w8 ⟨rfl, own8, m8, s8⟩
                have S8 := Lib.hid s8
                clear s8 m8 HSP S7 HST
                go_wp2_with fail
                go_roundw
                case rel => exact ⟨q + 1, own8, xW, by omega, by go_num, S8, Lib.hid (by rw [show 6 - (q + 1) = y by omega]; exact ha8)⟩
                case measure => simp [intOf]; omega
            · obtain rfl : q = 6 := by omega
              have he := awaitR_exit _ _ _ _ HA7.out (Or.inl rfl)
              subst he
              clear HA7
              go_wp2_with fail
              go_roundw
              case rel => exact ⟨j + 1, own7, X6, by omega, by go_num, S7, Lib.hid (by rw [show m - (j + 1) = m - j - 1 by omega, show (((j + 1 : Nat) : Int) + 1) = (j : Int) + 1 + 1 by omega]; exact HC6.out)⟩
              case measure => simp [intOf]; omega
      · obtain rfl : j = m := by omega
        have hU : W = U := by have h := HC5.out; rw [Nat.sub_self] at h; unfold colStages at h; injection h
        subst hU
        clear HC5
        have S6 := S5
        clear S5
        generalize own5 = own6 at *
        generalize w5 = w6 at *
        obtain ⟨bs8, bh8, c10, c12, ck, s0, sl, -, -⟩ := sit_core S6.out
        have HTB := Lib.hid (fun w => shade_table TbId.tb w)
        simp only at c10 c12 ck s0 sl
        go_wp2_with fail
        refine (HTB.out _).mono ?_
        rintro e w7 ⟨rfl, hX⟩
        obtain ⟨own7, m7⟩ := Mod.ofExt (show Ext w6 w7 from hX) own6
        have S7 := Lib.hid (S6.out.keep m7)
        clear m7 hX S6 c10 c12 ck s0 sl HTB
        go_wp2_with fail
        go_loopw [9] (fun i wr => ∃ (q : Nat) (own : Nat → Nat) (V : AcW), q ≤ 30 ∧ i = .int .i64 q ∧ Hid (Sit w0 ⟨own, wr⟩ x kk V) ∧ Hid (colRun ((j : Nat) : Int) (30 - q) V = true)) (fun i _ => 30 - (intOf i).toNat)
        case atStart => exact ⟨0, own7, W, by decide, rfl, S7, HRN⟩
        case round =>
          clear S7 HRN own7
          obtain ⟨q, own7, V7, hq, rfl, S7, HR7⟩ := hrel
          obtain ⟨w7, rfl⟩ : ∃ w7 : World, w7 = wr := ⟨_, rfl⟩
          obtain ⟨y7, x7, hy, hst, hcase⟩ := colRun_step _ _ _ HR7.out
          have hlt : q < 30 := by omega
          have hlt' : (q : Int) < 30 := by omega
          obtain ⟨⟨⟨ro, rw_, re, ⟨rf, rz⟩⟩, xb⟩, xW⟩ := x7
          simp only at hcase
          have HCN := Lib.hid (sit_counts S7.out)
          simp only at HCN
          generalize V7.K.sp.tab.cnt 0 = cn0 at *
          generalize V7.K.sp.tab.cnt 1 = cn1 at *
          generalize V7.K.sp.tab.cnt 2 = cn2 at *
          go_wp2_with fail
          refine HCN.out.mono ?_
          rintro e w8 ⟨rfl, hX⟩
          obtain ⟨own8, m8⟩ := Mod.ofExt (show Ext w7 w8 from hX) own7
          have S8 := Lib.hid (S7.out.keep m8)
          clear m8 hX S7 HCN HR7
          have HSP := Lib.hid (show Calls Tryz.prog 9 #[.pointer (some ⟨x, 0, none⟩), .pointer (some ⟨kk, 0, none⟩)] w8 (Does (.tuple #[.agg #[.int .i64 ro, .int .i64 rw_, .int .i64 re, .bool rf, .complex .f64 rz.1 rz.2], .bool xb]) ⟨own8, w8⟩ (acT 500 100) (fun g' => Sit w0 g' x kk xW)) from sit_step S8.out _ hst)
          clear hst
          go_wp2_with fail
          refine HSP.out.mono ?_
          rintro e w9 ⟨rfl, own9, m9, s9⟩
          have S9 := Lib.hid s9
          clear s9 m9 HSP S8
          go_upto_region 26 with fail
          obtain ⟨own10, m10, B10⟩ := start1 ⟨own9, w9⟩ 36 [.int .i64 ro, .int .i64 rw_, .int .i64 re, .bool rf, .complex .f64 rz.1 rz.2]
          have m10' : Mod (fun _ => False) (⟨own9, w9⟩ : GW) ⟨own10, w9.alloc (.cells #[.int .i64 ro, .int .i64 rw_, .int .i64 re, .bool rf, .complex .f64 rz.1 rz.2] 36)⟩ := m10
          have B10' := Lib.hid (show Blk ⟨own10, w9.alloc (.cells #[.int .i64 ro, .int .i64 rw_, .int .i64 re, .bool rf, .complex .f64 rz.1 rz.2] 36)⟩ 9 w9.heap.size 36 [.int .i64 ro, .int .i64 rw_, .int .i64 re, .bool rf, .complex .f64 rz.1 rz.2] from B10)
          have S10 := Lib.hid (S9.out.keep m10')
          clear m10 B10 m10' S9
          generalize w9.alloc (.cells #[.int .i64 ro, .int .i64 rw_, .int .i64 re, .bool rf, .complex .f64 rz.1 rz.2] 36) = w10 at *
          generalize w9.heap.size = q10 at *
          rcases hcase with ⟨rfl, hdone⟩ | ⟨rfl, hno, hnext⟩
          · unfold colDone at hdone
            simp only [Bool.and_eq_true, beq_iff_eq] at hdone
            obtain ⟨rfl, hz, h39, hbl, hse, hss⟩ := hdone
            rw [zRef39] at hz
            subst hz
            go_wp2_with fail
            refine (HF.out _).mono ?_
            rintro e w11 ⟨rfl, hX⟩
            obtain ⟨own11, m11⟩ := Mod.ofExt (show Ext w10 w11 from hX) own10
            have S11 := Lib.hid (S10.out.keep m11)
            have B11 := Lib.hid (B10'.out.keep m11 id)
            clear m11 hX S10 B10'
            have HW := Lib.hid (fun w => wsame 4630826316843712512 4607182418800017408 w)
            have HHD := Lib.hid (show Calls Tryz.prog 21 #[.pointer (some ⟨TbId.tb, 0, none⟩), .int .i64 39] w11 (fun e w' => e = .returned (.bool true) ∧ w11 = w') from by have h := sit_head S11.out 39; rw [h39] at h; exact h)
            have HBL := Lib.hid (show Calls Tryz.prog 20 #[.pointer (some ⟨TbId.tb, 0, none⟩), .int .i64 39, .bool true] w11 (fun e w' => e = .returned (.bool (decide ((3 : Int) ≤ ((j : Nat) : Int)))) ∧ w11 = w') from by have h := sit_black S11.out 39 true; rw [hbl] at h; exact h)
            have HSE := Lib.hid (show Calls Tryz.prog 22 #[.pointer (some ⟨x, 0, none⟩)] w11 (fun e w' => e = .returned (.bool (decide ((0 : Int) < ((j : Nat) : Int)))) ∧ w11 = w') from by have h := sit_sense S11.out; rw [hse] at h; exact h)
            have HSS := Lib.hid (show Calls Tryz.prog 18 #[.pointer (some ⟨x, 0, none⟩)] w11 (fun e w' => e = .returned (.int .i64 ((j : Nat) : Int)) ∧ w11 = w') from by have h := sit_status S11.out; rw [hss] at h; exact h)
            obtain ⟨z0, z1, z2, z3, z4, zl⟩ := B11.out.c5
            (try simp only [GW.to] at z0 z1 z2 z3 z4 zl)
            go_wp2_with fail
            refine (HW.out _).mono ?_
            rintro e w' ⟨rfl, rfl⟩
            go_wp2_with fail
            refine HHD.out.mono ?_
            rintro e w' ⟨rfl, rfl⟩
            go_wp2_with fail
            refine HBL.out.mono ?_
            rintro e w' ⟨rfl, rfl⟩
            go_wp2_with fail
            refine HSE.out.mono ?_
            rintro e w' ⟨rfl, rfl⟩
            go_wp2_with fail
            refine HSS.out.mono ?_
            rintro e w' ⟨rfl, rfl⟩
            go_wp2_with fail
            go_ret
            exact Gives.bool (by simp) (E4.out.trans S11.out.fin)
          · have HHD := Lib.hid (sit_head S10.out 39)
            by_cases hc : cn2 = 0
            · subst hc
              go_wp2_with fail
              go_roundw
              case rel => exact ⟨q + 1, own10, xW, by omega, by go_num, S10, Lib.hid (by rw [show 30 - (q + 1) = y7 by omega]; exact hnext)⟩
              case measure => simp [intOf]; omega
            · have hc1 : (0 : Int) < (cn2 : Int) := by omega
              have hc2 : 0 < cn2 := by omega
              rw [decide_eq_true hc1, Bool.true_and] at hno
              rw [hno] at HHD
              go_wp2_with fail
              refine HHD.out.mono ?_
              rintro e w' ⟨rfl, rfl⟩
              go_wp2_with fail
              go_roundw
              case rel => exact ⟨q + 1, own10, xW, by omega, by go_num, S10, Lib.hid (by rw [show 30 - (q + 1) = y7 by omega]; exact hnext)⟩
              case measure => simp [intOf]; omega
end Go.Proofs.YtoaehfdjffejeaaGreat

