import Derived.Test.YtnebimabokgofaaGreatMgCyH
import Derived.Test.YtnebimabokgofaaGreatRefChk
/-
  CycleIdle: the walk.
-/
namespace Go.Proofs.YtnebimabokgofaaGreat
open Go Go.RowKit
set_option linter.unusedVariables false
set_option linter.unnecessarySimpa false
set_option linter.unusedSimpArgs false
set_option maxHeartbeats 4000000
set_option maxRecDepth 100000
theorem idle_any (c : Cnf) (times : Int) (w : World) (hc : c.Ok w) : Calls Tryz.prog 3 #[c.val, .int .i64 times] w (Gives (.bool true) w) := by
  have HF := Lib.hid (fun w => first24_any w)
  have HFW := Lib.hid (fun w' (he : Ext w w') => few_any c w' (hc.ext he))
  have HCK := Lib.hid (fun w' (he : Ext w w') => check_any c w' (hc.ext he))
  have HRC := Lib.hid (fun w' (he : Ext w w') => rcheck_any c w' (hc.ext he))
  have HC := Lib.hid hc
  unfold Cnf.val at HFW HCK HRC ⊢
  obtain ⟨own0, m0, b0⟩ : ∃ own0, Mod (fun _ => False) ⟨fun _ => 0, w⟩ ⟨own0, w.alloc (.cells #[.int .i64 c.frags, .int .i64 c.spine, .int .i64 c.globals, .int .i64 c.threads, .int .i64 c.locals, .int .i64 c.cache, .int .i64 c.stack, .int .i64 c.low, .slice c.A c.shapes.length c.cap] 24)⟩ ∧ Blk ⟨own0, w.alloc (.cells #[.int .i64 c.frags, .int .i64 c.spine, .int .i64 c.globals, .int .i64 c.threads, .int .i64 c.locals, .int .i64 c.cache, .int .i64 c.stack, .int .i64 c.low, .slice c.A c.shapes.length c.cap] 24)⟩ 9 w.heap.size 24 [.int .i64 c.frags, .int .i64 c.spine, .int .i64 c.globals, .int .i64 c.threads, .int .i64 c.locals, .int .i64 c.cache, .int .i64 c.stack, .int .i64 c.low, .slice c.A c.shapes.length c.cap] := ⟨_, Mod.ext (g := ⟨fun _ => 0, w⟩) (by (repeat (first | (with_reducible assumption) | (with_reducible exact Ext.refl _) | (with_reducible exact Ext.more _ _ _ _) | apply Ext.alloc | refine Ext.setCell ?_ (by first | exact Nat.le_refl _ | exact Nat.le_add_right _ _ | assumption) _ | apply Ext.patch | apply Ext.drew | apply Ext.drewN))) 9, Blk.new ⟨fun _ => 0, w⟩ 9 24 [.int .i64 c.frags, .int .i64 c.spine, .int .i64 c.globals, .int .i64 c.threads, .int .i64 c.locals, .int .i64 c.cache, .int .i64 c.stack, .int .i64 c.low, .slice c.A c.shapes.length c.cap]⟩
  have M0 := Lib.hid m0
  have B0 := Lib.hid b0
  clear hc m0 b0
  go_enter Tryz.func3, Tryz.ntmps3
  go_wp2_with fail
  refine (HF.out _).mono ?_
  rintro e w1 ⟨rfl, hX⟩
  obtain ⟨own1, m1⟩ := Mod.ofExt (show Ext _ w1 from hX) own0
  have M1 := Lib.hid (M0.out.trans m1)
  have B1 := Lib.hid (B0.out.keep m1 id)
  clear m1 hX
  have a0 := B1.out.cell (i := 0) rfl
  have a1 := B1.out.cell (i := 1) rfl
  have a2 := B1.out.cell (i := 2) rfl
  have a3 := B1.out.cell (i := 3) rfl
  have a4 := B1.out.cell (i := 4) rfl
  have a5 := B1.out.cell (i := 5) rfl
  have a6 := B1.out.cell (i := 6) rfl
  have a7 := B1.out.cell (i := 7) rfl
  have a8 := B1.out.cell (i := 8) rfl
  have al := B1.out.lt
  (try simp only [GW.to] at a0 a1 a2 a3 a4 a5 a6 a7 a8 al)
  go_wp2_with fail
  refine (HFW.out _ M1.out.toExt).mono ?_
  rintro e w2 ⟨rfl, hX⟩
  obtain ⟨own2, m2⟩ := Mod.ofExt (show Ext w1 w2 from hX) own1
  have M2 := Lib.hid (M1.out.trans m2)
  have B2 := Lib.hid (B1.out.keep m2 id)
  clear m2 hX a0 a1 a2 a3 a4 a5 a6 a7 a8 al
  have a0 := B2.out.cell (i := 0) rfl
  have a1 := B2.out.cell (i := 1) rfl
  have a2 := B2.out.cell (i := 2) rfl
  have a3 := B2.out.cell (i := 3) rfl
  have a4 := B2.out.cell (i := 4) rfl
  have a5 := B2.out.cell (i := 5) rfl
  have a6 := B2.out.cell (i := 6) rfl
  have a7 := B2.out.cell (i := 7) rfl
  have a8 := B2.out.cell (i := 8) rfl
  have al := B2.out.lt
  (try simp only [GW.to] at a0 a1 a2 a3 a4 a5 a6 a7 a8 al)
  cases hf : Few c
  case false =>
    clear hf
    go_wp2_with fail
    refine (HF.out _).mono ?_
    rintro e w9 ⟨rfl, hX⟩
    have E9 := Lib.hid (show Ext _ w9 from hX)
    clear hX
    go_wp2_with fail
    go_ret
    exact Gives.bool rfl (M2.out.toExt.trans E9.out)
  case true =>
    clear hf
    go_wp2_with fail
    refine (HCK.out _ M2.out.toExt).mono ?_
    rintro e w3 ⟨rfl, hX⟩
    obtain ⟨own3, m3⟩ := Mod.ofExt (show Ext w2 w3 from hX) own2
    have M3 := Lib.hid (M2.out.trans m3)
    have B3 := Lib.hid (B2.out.keep m3 id)
    clear m3 hX a0 a1 a2 a3 a4 a5 a6 a7 a8 al
    have a0 := B3.out.cell (i := 0) rfl
    have a1 := B3.out.cell (i := 1) rfl
    have a2 := B3.out.cell (i := 2) rfl
    have a3 := B3.out.cell (i := 3) rfl
    have a4 := B3.out.cell (i := 4) rfl
    have a5 := B3.out.cell (i := 5) rfl
    have a6 := B3.out.cell (i := 6) rfl
    have a7 := B3.out.cell (i := 7) rfl
    have a8 := B3.out.cell (i := 8) rfl
    have al := B3.out.lt
    (try simp only [GW.to] at a0 a1 a2 a3 a4 a5 a6 a7 a8 al)
    by_cases hck : c.check = 0
    case neg =>
      have hk1 : (c.check != 0) = true := by simp [hck]
      clear hck
      go_wp2_with fail
      refine (HF.out _).mono ?_
      rintro e w9 ⟨rfl, hX⟩
      have E9 := Lib.hid (show Ext _ w9 from hX)
      clear hX
      go_wp2_with fail
      go_ret
      exact Gives.bool rfl (M3.out.toExt.trans E9.out)
    case pos =>
      have HCKZ := Lib.hid hck
      rw [hck]
      go_wp2_with fail
      refine (HRC.out _ M3.out.toExt).mono ?_
      rintro e w4 ⟨rfl, hX⟩
      obtain ⟨own4, m4⟩ := Mod.ofExt (show Ext w3 w4 from hX) own3
      have M4 := Lib.hid (M3.out.trans m4)
      have B4 := Lib.hid (B3.out.keep m4 id)
      clear m4 hX a0 a1 a2 a3 a4 a5 a6 a7 a8 al
      have a0 := B4.out.cell (i := 0) rfl
      have a1 := B4.out.cell (i := 1) rfl
      have a2 := B4.out.cell (i := 2) rfl
      have a3 := B4.out.cell (i := 3) rfl
      have a4 := B4.out.cell (i := 4) rfl
      have a5 := B4.out.cell (i := 5) rfl
      have a6 := B4.out.cell (i := 6) rfl
      have a7 := B4.out.cell (i := 7) rfl
      have a8 := B4.out.cell (i := 8) rfl
      have al := B4.out.lt
      (try simp only [GW.to] at a0 a1 a2 a3 a4 a5 a6 a7 a8 al)
      rw [hck]
      clear hck
      by_cases hlo : times < 0
      · have d0 : decide (times < 0) = true := decide_eq_true hlo
        clear hlo
        go_wp2_with fail
        refine (HF.out _).mono ?_
        rintro e w9 ⟨rfl, hX⟩
        have E9 := Lib.hid (show Ext _ w9 from hX)
        clear hX
        go_wp2_with fail
        go_ret
        exact Gives.bool rfl (M4.out.toExt.trans E9.out)
      by_cases hhi : 5 < times
      · have d0 : decide (times < 0) = false := decide_eq_false hlo
        have d1 : decide (5 < times) = true := decide_eq_true hhi
        clear hlo hhi
        go_wp2_with fail
        refine (HF.out _).mono ?_
        rintro e w9 ⟨rfl, hX⟩
        have E9 := Lib.hid (show Ext _ w9 from hX)
        clear hX
        go_wp2_with fail
        go_ret
        exact Gives.bool rfl (M4.out.toExt.trans E9.out)
      have d0 : decide (times < 0) = false := decide_eq_false hlo
      have d1 : decide (5 < times) = false := decide_eq_false hhi
      obtain ⟨m, rfl⟩ := Int.eq_ofNat_of_zero_le (show 0 ≤ times by omega)
      have hm5 : m ≤ 5 := by omega
      clear hlo hhi
      obtain ⟨⟨r0, r1⟩, -, ⟨r4, r5⟩, ⟨r6, r7⟩, -⟩ := Cnf.ranged (Cnf.check_zero HCKZ.out).1
      have HNW := Lib.hid (show Calls Tryz.prog 14 #[c.val] w4 (CoreMade c 100 ⟨fun k => if k = w.heap.size then 9 else 0, w4⟩) from core_new c 100 ⟨fun k => if k = w.heap.size then 9 else 0, w4⟩ (HC.out.ext M4.out.toExt) (by omega) (fun k _ => by simp only; split <;> omega))
      unfold Cnf.val at HNW
      go_wp2_with fail
      refine HNW.out.mono ?_
      rintro e w5 hh
      unfold CoreMade at hh
      rw [if_pos HCKZ.out] at hh
      obtain ⟨own5, k, rfl, m5, h5⟩ := hh
      have B5 := Lib.hid (Blk.keep (t := 9) (g := ⟨fun k => if k = w.heap.size then 9 else 0, w4⟩) ⟨B4.out.row, by simp⟩ m5 id)
      have M5 := Lib.hid m5
      obtain ⟨bm, bs, bt, bp, bsp, bh, cm, h5⟩ := h5
      have H5 := Lib.hid h5
      clear m5 h5 HNW a0 a1 a2 a3 a4 a5 a6 a7 a8 al d0 d1
      go_wp2_with fail
      refine (cy_new ⟨own5, w5⟩ 500).mono ?_
      rintro e w6 ⟨own6, b, rfl, m6, h6⟩
      have M6 := Lib.hid (M5.out.trans m6)
      have B6 := Lib.hid (B5.out.keep m6 id)
      have H6 := Lib.hid (show CyIn ⟨own6, w6⟩ 500 100 b k (freshW c) none none bm bs bt bp bsp bh cm from ⟨h6, H5.out.keep m6 (fun _ => False.elim)⟩)
      clear m6 h6 H5 M5 B5
      have c0 := H6.out.c.blk.cell (i := 0) rfl
      have c1 := H6.out.c.blk.cell (i := 1) rfl
      have c2 := H6.out.c.blk.cell (i := 2) rfl
      have c3 := H6.out.c.blk.cell (i := 3) rfl
      have c4 := H6.out.c.blk.cell (i := 4) rfl
      have c5 := H6.out.c.blk.cell (i := 5) rfl
      have c6 := H6.out.c.blk.cell (i := 6) rfl
      have c7 := H6.out.c.blk.cell (i := 7) rfl
      have c8 := H6.out.c.blk.cell (i := 8) rfl
      have c9 := H6.out.c.blk.cell (i := 9) rfl
      have c10 := H6.out.c.blk.cell (i := 10) rfl
      have c11 := H6.out.c.blk.cell (i := 11) rfl
      have c12 := H6.out.c.blk.cell (i := 12) rfl
      have cl := H6.out.c.blk.lt
      (try simp only [GW.to] at c0 c1 c2 c3 c4 c5 c6 c7 c8 c9 c10 c11 c12 cl)
      go_wp2_with fail
      clear c0 c1 c2 c3 c4 c5 c6 c7 c8 c9 c10 c11 c12 cl
      go_loopw [8] (fun i wr => ∃ (n : Nat) (own : Nat → Nat) (W : CyW), n ≤ m ∧ i = .int .i64 n ∧ Hid (Mod (cyT 500 100) ⟨own6, w6⟩ ⟨own, wr⟩) ∧ Hid (CyWAt ⟨own, wr⟩ 500 100 b k W) ∧ Hid (JD c n (n % 2 == 1) W)) (fun i _ => m - (intOf i).toNat)
      case atStart => exact ⟨0, own6, freshW c, Nat.zero_le _, rfl, Lib.hid (Mod.refl _ _), Lib.hid H6.out.at_, Lib.hid (jd_fresh c HCKZ.out)⟩
      case round =>
        obtain ⟨n, own7, W, hn, rfl, M7, H7, J7⟩ := hrel
        obtain ⟨w7, rfl⟩ : ∃ w7 : World, w7 = wr := ⟨_, rfl⟩
        have hJb := J7.out.b
        have hjp := J7.out.p
        have hcnt : 0 ≤ W.K.sp.count ∧ W.K.sp.count ≤ 1099511627776 := by have := hJb.K.sc; omega
        have B7 := Lib.hid (B6.out.keep M7.out (fun h : cyT 500 100 9 => by simp only [cyT] at h; omega))
        obtain ⟨tp, hp, bm, bs, bt, bp, bsp, bh, cm, h7⟩ := H7.out
        have I7 := Lib.hid h7
        clear h7
        by_cases hlt : n < m
        · have hlt' : (n : Int) < (m : Int) := by omega
          have c0 := I7.out.c.blk.cell (i := 0) rfl
          have c1 := I7.out.c.blk.cell (i := 1) rfl
          have c2 := I7.out.c.blk.cell (i := 2) rfl
          have c3 := I7.out.c.blk.cell (i := 3) rfl
          have c4 := I7.out.c.blk.cell (i := 4) rfl
          have c5 := I7.out.c.blk.cell (i := 5) rfl
          have c6 := I7.out.c.blk.cell (i := 6) rfl
          have c7 := I7.out.c.blk.cell (i := 7) rfl
          have c8 := I7.out.c.blk.cell (i := 8) rfl
          have c9 := I7.out.c.blk.cell (i := 9) rfl
          have c10 := I7.out.c.blk.cell (i := 10) rfl
          have c11 := I7.out.c.blk.cell (i := 11) rfl
          have c12 := I7.out.c.blk.cell (i := 12) rfl
          have cl := I7.out.c.blk.lt
          (try simp only [GW.to] at c0 c1 c2 c3 c4 c5 c6 c7 c8 c9 c10 c11 c12 cl)
          have HFO := Lib.hid (I7.out.force apart1 hcnt)
          have J8 := Lib.hid (jw_force J7.out (by omega))
          clear hJb hcnt hjp
          go_wp2_with fail
          refine HFO.out.mono ?_
          rintro e w8 ⟨rfl, own8, m8, h8⟩
          have M8 := Lib.hid (M7.out.trans m8)
          have H8 := Lib.hid h8
          clear m8 h8 HFO c0 c1 c2 c3 c4 c5 c6 c7 c8 c9 c10 c11 c12 cl
          go_wp2_with fail
          refine (cy_stage ⟨own8, w8⟩ 500 b _ _ _ _ _ H8.out.y).mono ?_
          rintro e w' ⟨rfl, rfl⟩
          have H8b := Lib.hid (CyIn.at_ H8.out)
          have hL0 : 0 ≤ 5 * c.threads + c.frags + c.globals + 14 := by omega
          obtain ⟨Ln, hLn⟩ := Int.eq_ofNat_of_zero_le hL0
          have HLN := Lib.hid hLn
          have hLb : Ln ≤ 2000 := by omega
          rw [hLn] at J8
          clear hLn hL0
          generalize W.spc (forceS W.K.sp) = W8 at *
          go_wp2_with fail
          go_loopw [9, 10] (fun l i wr => ∃ (q : Nat) (own : Nat → Nat) (V : CyW), q ≤ Ln ∧ l = .int .i64 V.y.stage ∧ i = .int .i64 q ∧ Hid (Mod (cyT 500 100) ⟨own6, w6⟩ ⟨own, wr⟩) ∧ Hid (CyWAt ⟨own, wr⟩ 500 100 b k V) ∧ Hid (JW c n (n % 2 == 1) (Ln - q) V ∨ (JD c (n + 1) (!(n % 2 == 1)) V ∧ q = Ln))) (fun _ i _ => Ln - (intOf i).toNat)
          case atStart => exact ⟨0, own8, W8, Nat.zero_le _, rfl, rfl, M8, H8b, Lib.hid (Or.inl (by rw [show ((Ln : Int) - ((0 : Nat) : Int)) = (Ln : Int) by omega]; exact J8.out))⟩
          case round =>
            obtain ⟨q, own9, V, hq, rfl, rfl, M9, H9, JJ9⟩ := hrel
            obtain ⟨w9, rfl⟩ : ∃ w9 : World, w9 = wr := ⟨_, rfl⟩
            have B9 := Lib.hid (B6.out.keep M9.out (fun h : cyT 500 100 9 => by simp only [cyT] at h; omega))
            obtain ⟨tp, hp, bm, bs, bt, bp, bsp, bh, cm, h9⟩ := H9.out
            have I9 := Lib.hid h9
            clear h9
            have a0 := B9.out.cell (i := 0) rfl
            have a1 := B9.out.cell (i := 1) rfl
            have a2 := B9.out.cell (i := 2) rfl
            have a3 := B9.out.cell (i := 3) rfl
            have a4 := B9.out.cell (i := 4) rfl
            have a5 := B9.out.cell (i := 5) rfl
            have a6 := B9.out.cell (i := 6) rfl
            have a7 := B9.out.cell (i := 7) rfl
            have a8 := B9.out.cell (i := 8) rfl
            have al := B9.out.lt
            (try simp only [GW.to] at a0 a1 a2 a3 a4 a5 a6 a7 a8 al)
            have db : decide ((q : Int) < 20 + 6 * c.threads + 2 * c.frags + 2 * c.globals + 10) = true := decide_eq_true (by have := HLN.out; omega)
            rcases JJ9.out with hj | hj
            · have J9 := Lib.hid hj
              have hfin : V.y.finished = n := hj.b.fin
              have hF9 := Lib.hid (show Calls Tryz.prog 18 #[.pointer (some ⟨b, 0, none⟩)] w9 (fun e w' => e = .returned (.int .i64 n) ∧ w9 = w') from hfin ▸ cy_finished ⟨own9, w9⟩ 500 b _ _ _ _ _ I9.out.y)
              clear hj hfin
              go_wp2_with fail
              refine hF9.out.mono ?_
              rintro e w' ⟨rfl, rfl⟩
              go_wp2_with fail
              have hL1 : 1 ≤ (Ln : Int) - (q : Int) := by
                cases J9.out.p <;> omega
              have hsb : 0 ≤ V.y.stage ∧ V.y.stage ≤ 10 := by
                cases J9.out.p <;> omega
              refine (cy_idle_step apart1 HCKZ.out (by omega) J9.out I9.out.at_).mono ?_
              rintro e w10 ⟨rfl, own10, m10, V', h10, j10⟩
              have M10 := Lib.hid (M9.out.trans m10)
              have B10 := Lib.hid (B9.out.keep m10 (fun h : cyT 500 100 9 => by simp only [cyT] at h; omega))
              have H10 := Lib.hid h10
              obtain ⟨tp, hp, bm, bs, bt, bp, bsp, bh, cm, h10⟩ := h10
              have I10 := Lib.hid h10
              clear h10 m10 a0 a1 a2 a3 a4 a5 a6 a7 a8 al
              go_wp2_with fail
              refine (cy_stage ⟨own10, w10⟩ 500 b _ _ _ _ _ I10.out.y).mono ?_
              rintro e w' ⟨rfl, rfl⟩
              have hE : V'.y.e = 0 := by
                rcases j10 with ⟨j, -⟩ | ⟨j, -, -⟩
                · exact j.b.e
                · exact j.b.e
              have HER := Lib.hid (show Calls Tryz.prog 20 #[.pointer (some ⟨b, 0, none⟩)] w10 (fun e w' => e = .returned (.int .i64 0) ∧ w10 = w') from hE ▸ cy_errno ⟨own10, w10⟩ 500 b _ _ _ _ _ I10.out.y)
              clear hE
              generalize hsv : V.y.stage = s at *
              generalize hsv' : V'.y.stage = s' at *
              have HSV := Lib.hid hsv'
              obtain ⟨hs0, hs1⟩ := hsb
              have JNX := Lib.hid (show JW c n (n % 2 == 1) (Ln - ((q + 1 : Nat) : Int)) V' ∨ (JD c (n + 1) (!(n % 2 == 1)) V' ∧ q + 1 = Ln) from by
                rcases j10 with ⟨j, -⟩ | ⟨j, -, hl⟩
                · exact Or.inl (by rw [show ((Ln : Int) - ((q + 1 : Nat) : Int)) = Ln - q - 1 by omega]; exact j)
                · exact Or.inr ⟨j, by omega⟩)
              have hcs : s' = s ∨ s' = s + 1 ∨ (s = 10 ∧ s' = 0) := by
                rcases j10 with ⟨j, h | h⟩ | ⟨j, h, hl⟩
                · exact Or.inl (by omega)
                · exact Or.inr (Or.inl (by omega))
                · exact Or.inr (Or.inr ⟨by omega, by have := j.p.1; omega⟩)
              clear j10 hsv hsv'
              rcases hcs with rfl | rfl | ⟨rfl, rfl⟩
              · go_wp2_with fail
                refine HER.out.mono ?_
                rintro e w' ⟨rfl, rfl⟩
                go_wp2_with fail
                go_roundw
                case rel => exact ⟨q + 1, own10, V', by omega, by rw [HSV.out], by go_num, M10, H10, JNX⟩
                case measure => simp [intOf]; omega
              · have hne : (s + 1 != s) = true := bne_iff_ne.2 (by omega)
                go_wp2_with fail
                refine HER.out.mono ?_
                rintro e w' ⟨rfl, rfl⟩
                go_wp2_with fail
                go_roundw
                case rel => exact ⟨q + 1, own10, V', by omega, by rw [HSV.out], by go_num, M10, H10, JNX⟩
                case measure => simp [intOf]; omega
              · go_wp2_with fail
                refine HER.out.mono ?_
                rintro e w' ⟨rfl, rfl⟩
                go_wp2_with fail
                go_roundw
                case rel => exact ⟨q + 1, own10, V', by omega, by rw [HSV.out], by go_num, M10, H10, JNX⟩
                case measure => simp [intOf]; omega
            · have J9 := Lib.hid hj.1
              have hjb := hj.1.b.fin
              have hjs := hj.1.s
              have hjp := hj.1.p.1
              have hne : ((n : Int) + 1 == (n : Int)) = false := beq_eq_false_iff_ne.2 (by omega)
              have hF9 := Lib.hid (show Calls Tryz.prog 18 #[.pointer (some ⟨b, 0, none⟩)] w9 (fun e w' => e = .returned (.int .i64 ((n : Int) + 1)) ∧ w9 = w') from hjb ▸ cy_finished ⟨own9, w9⟩ 500 b _ _ _ _ _ I9.out.y)
              have hS9 := Lib.hid (show Calls Tryz.prog 21 #[.pointer (some ⟨b, 0, none⟩)] w9 (fun e w' => e = .returned (.int .i64 ((n : Int) + 1)) ∧ w9 = w') from hjs.1 ▸ cy_started ⟨own9, w9⟩ 500 b _ _ _ _ _ I9.out.y)
              have hX9 := Lib.hid (show Calls Tryz.prog 22 #[.pointer (some ⟨b, 0, none⟩)] w9 (fun e w' => e = .returned (.bool (!(n % 2 == 1))) ∧ w9 = w') from hjs.2 ▸ cy_sense ⟨own9, w9⟩ 500 b _ _ _ _ _ I9.out.y)
              have hG9 := Lib.hid (show Calls Tryz.prog 17 #[.pointer (some ⟨b, 0, none⟩)] w9 (fun e w' => e = .returned (.int .i64 0) ∧ w9 = w') from hjp ▸ cy_stage ⟨own9, w9⟩ 500 b _ _ _ _ _ I9.out.y)
              clear hj hjb hjs hjp
              have hpar : (!(n % 2 == 1)) = (((n : Int).tmod 2) == 0) := by
                show (!(n % 2 == 1)) = (((n % 2 : Nat) : Int) == 0)
                rw [Bool.eq_iff_iff, Bool.not_eq_true', beq_eq_false_iff_ne, beq_iff_eq]
                omega
              go_wp2_with fail
              refine hF9.out.mono ?_
              rintro e w' ⟨rfl, rfl⟩
              go_wp2_with fail
              refine hF9.out.mono ?_
              rintro e w' ⟨rfl, rfl⟩
              go_wp2_with fail
              refine hS9.out.mono ?_
              rintro e w' ⟨rfl, rfl⟩
              go_wp2_with fail
              refine hX9.out.mono ?_
              rintro e w' ⟨rfl, rfl⟩
              rw [hpar]
              go_wp2_with fail
              refine hG9.out.mono ?_
              rintro e w' ⟨rfl, rfl⟩
              go_wp2_with fail
              go_roundw
              case rel => exact ⟨n + 1, own9, V, by omega, by go_num, M9, H9, Lib.hid (by rw [show ((n + 1) % 2 == 1) = !(n % 2 == 1) from by rw [Bool.eq_iff_iff]; simp; omega]; exact J9.out)⟩
              case measure => simp [intOf]; omega
        · obtain rfl : n = m := by omega
          have B9 := Lib.hid (B6.out.keep M7.out (fun h : cyT 500 100 9 => by simp only [cyT] at h; omega))
          have hfree := J7.out.b.K.free
          have hfr := J7.out.b.fr
          have hmv := J7.out.b.mv
          have HFR := Lib.hid (fun X => (show Calls Tryz.prog 23 #[.pointer (some ⟨b, 0, none⟩)] ((⟨own7, w7⟩ : GW).pt X).w (Gives (.int .i64 0) _) from hfr ▸ same_gives (cy_freed ((⟨own7, w7⟩ : GW).pt X) 500 b _ _ _ _ _ (I7.out.pt X).y)))
          have HMV := Lib.hid (fun X => (show Calls Tryz.prog 24 #[.pointer (some ⟨b, 0, none⟩)] ((⟨own7, w7⟩ : GW).pt X).w (Gives (.int .i64 0) _) from hmv ▸ same_gives (cy_moved ((⟨own7, w7⟩ : GW).pt X) 500 b _ _ _ _ _ (I7.out.pt X).y)))
          obtain ⟨qp, qk, ql, As, cs, cq, qs, hq⟩ := I7.out.c.sp
          have Q5 := Lib.hid hq
          clear hq
          have HRR := Lib.hid (fun X => (show Calls Tryz.prog 25 #[shelves cq qp qk ql] ((⟨own7, w7⟩ : GW).pt X).w (Gives (.int .i64 c.frags) _) from hfree ▸ sh_free ((⟨own7, w7⟩ : GW).pt X) (100 + 1) cq qp qk ql _ (Q5.out.pool.keep (Mod.pt (Mod.refl (fun _ => False) _) X) id)))
          unfold shelves at HRR
          have a0 := B9.out.cell (i := 0) rfl
          have a1 := B9.out.cell (i := 1) rfl
          have a2 := B9.out.cell (i := 2) rfl
          have a3 := B9.out.cell (i := 3) rfl
          have a4 := B9.out.cell (i := 4) rfl
          have a5 := B9.out.cell (i := 5) rfl
          have a6 := B9.out.cell (i := 6) rfl
          have a7 := B9.out.cell (i := 7) rfl
          have a8 := B9.out.cell (i := 8) rfl
          have al := B9.out.lt
          (try simp only [GW.to] at a0 a1 a2 a3 a4 a5 a6 a7 a8 al)
          have c0 := I7.out.c.blk.cell (i := 0) rfl
          have c1 := I7.out.c.blk.cell (i := 1) rfl
          have c2 := I7.out.c.blk.cell (i := 2) rfl
          have c3 := I7.out.c.blk.cell (i := 3) rfl
          have c4 := I7.out.c.blk.cell (i := 4) rfl
          have c5 := I7.out.c.blk.cell (i := 5) rfl
          have c6 := I7.out.c.blk.cell (i := 6) rfl
          have c7 := I7.out.c.blk.cell (i := 7) rfl
          have c8 := I7.out.c.blk.cell (i := 8) rfl
          have c9 := I7.out.c.blk.cell (i := 9) rfl
          have c10 := I7.out.c.blk.cell (i := 10) rfl
          have c11 := I7.out.c.blk.cell (i := 11) rfl
          have c12 := I7.out.c.blk.cell (i := 12) rfl
          have cl := I7.out.c.blk.lt
          (try simp only [GW.to] at c0 c1 c2 c3 c4 c5 c6 c7 c8 c9 c10 c11 c12 cl)
          have z0 := Q5.out.blk.cell (i := 0) rfl
          have z1 := Q5.out.blk.cell (i := 1) rfl
          have z2 := Q5.out.blk.cell (i := 2) rfl
          have z3 := Q5.out.blk.cell (i := 3) rfl
          have z4 := Q5.out.blk.cell (i := 4) rfl
          have z5 := Q5.out.blk.cell (i := 5) rfl
          have z6 := Q5.out.blk.cell (i := 6) rfl
          have z7 := Q5.out.blk.cell (i := 7) rfl
          have z8 := Q5.out.blk.cell (i := 8) rfl
          have z9 := Q5.out.blk.cell (i := 9) rfl
          have z10 := Q5.out.blk.cell (i := 10) rfl
          have z11 := Q5.out.blk.cell (i := 11) rfl
          have z12 := Q5.out.blk.cell (i := 12) rfl
          have z13 := Q5.out.blk.cell (i := 13) rfl
          have z14 := Q5.out.blk.cell (i := 14) rfl
          have z15 := Q5.out.blk.cell (i := 15) rfl
          have zl := Q5.out.blk.lt
          (try simp only [GW.to] at z0 z1 z2 z3 z4 z5 z6 z7 z8 z9 z10 z11 z12 z13 z14 z15 zl)
          clear hJb hcnt hjp hfree hfr hmv
          go_wp2_with fail
          refine wp_region_mixed [true, true, true, true, true, true, true, true, true, true, true, true, true, true, true, true, true, true, true, true, true, true, true, true, true] 0 25 (by kernel_rfl) (by kernel_rfl) (by kernel_rfl) ?_ (by decide) (by decide) (by decide) (by kernel_rfl) ?_
          · intro c a d v w h; cases d <;> exact h
          intro X00
          simp only [pickOps]
          repeat (go_big_quiet_step (first | (go_at_call 10; exact Calls.added (HF.out _)) | (go_at_call 23; exact Calls.added (HFR.out _)) | (go_at_call 24; exact Calls.added (HMV.out _)) | (go_at_call 25; exact Calls.added (HRR.out _))))
          refine wpQuiet_nil (fun X0 => ?_)
          clear X00
          refine wpAnyM_done (by kernel_rfl) (fun X0' => ?_) _
          go_wp2_with fail
          go_ret
          exact Gives.bool rfl ((M4.out.toExt.trans (((M6.out.mono (S := cyT 500 100) (fun _ => False.elim)).trans M7.out).nothing (fun j _ hj => by simp only [cyT] at hj; split at hj <;> omega)).toExt).trans (by (repeat (first | (with_reducible assumption) | (with_reducible exact Ext.refl _) | (with_reducible exact Ext.more _ _ _ _) | apply Ext.alloc | refine Ext.setCell ?_ (by first | exact Nat.le_refl _ | exact Nat.le_add_right _ _ | assumption) _ | apply Ext.patch | apply Ext.drew | apply Ext.drewN))))
end Go.Proofs.YtnebimabokgofaaGreat

