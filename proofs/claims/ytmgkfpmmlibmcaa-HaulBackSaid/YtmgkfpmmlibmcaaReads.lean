/-
  spolaw17.reads; sporef1.Int of whole numbers.
-/
import Derived.Test.YtmgkfpmmlibmcaaHaulX
import Derived.Test.YtmgkfpmmlibmcaaBits
namespace Go.Proofs.Ytmgkfpmmlibmcaa
open Go Go.RowKit
set_option linter.unusedVariables false
set_option linter.unnecessarySimpa false
set_option linter.unusedSimpArgs false
theorem rword_same (a b : Nat) (w : World) : Calls Try.prog 33 #[.complex .f64 a b, .complex .f64 a b] w (Gives (.bool true) w) :=
  (word_any (a, b) (a, b) w).mono fun e w' ⟨h1, h2⟩ => ⟨by rw [h1]; simp [sameW], ⟨#[], w.drawn⟩, by rw [← h2]; simp [World.patch]⟩
set_option maxRecDepth 100000 in
set_option maxHeartbeats 1000000 in
theorem rint_fits (n : Int) (hn : Fits n) (w : World) : Calls Try.prog 53 #[.complex .f64 (floatOfInt .f64 n) 0] w (Gives (.tuple #[.int .i64 n, .bool true]) w) := by
  have hcv : ∀ w, (convert 137 3 (.float .f64 (floatOfInt .f64 n))).run Try.prog w = .ok (.int .i64 n) w := fun w => run_convert_float_int w _ _ _ _ _ n (by kernel_rfl) (by kernel_rfl) (floatToInt_fits hn)
  have hlo := order_low hn
  have hhi := order_high hn
  have HWH := Lib.hid (fun w => rwhole_any n w hn.lo hn.hi)
  generalize floatOfInt .f64 n = b at *
  have HSM := Lib.hid (fun w => rword_same b 0 w)
  generalize hq : (FloatKind.format .f64).order b 14069245235905429504 = q1 at hlo
  generalize hr : (FloatKind.format .f64).order b 4845873199050653696 = q2 at hhi
  have hlo' : (q1 == some .gt) = true ∨ (q1 == some .eq) = true := by simpa using hlo
  have hhi' : (q2 == some .lt) = true ∨ (q2 == some .eq) = true := by simpa using hhi
  obtain ⟨o1, rfl⟩ : ∃ o : Ordering, q1 = some o := by
    cases q1 with
    | none => exact absurd hlo (by decide)
    | some o => exact ⟨o, rfl⟩
  obtain ⟨o2, rfl⟩ : ∃ o : Ordering, q2 = some o := by
    cases q2 with
    | none => exact absurd hhi (by decide)
    | some o => exact ⟨o, rfl⟩
  clear hlo' hhi'
  cases o1 <;> first | exact absurd hlo (by decide) | skip
  all_goals
    cases o2 <;> first | exact absurd hhi (by decide) | skip
    all_goals
      clear hlo hhi
      go_enter Try.func53, Try.ntmps53
      go_wp2_with fail
      refine (HWH.out _).mono ?_
      rintro e w1 ⟨rfl, X1, rfl⟩
      go_wp2_with fail
      refine (HSM.out _).mono ?_
      rintro e w1 ⟨rfl, X2, rfl⟩
      go_wp2_with fail
      go_ret2
      exact Gives.mk rfl (by (repeat (first | (with_reducible assumption) | (with_reducible exact Ext.refl _) | (with_reducible exact Ext.more _ _ _ _) | apply Ext.alloc | refine Ext.setCell ?_ (by first | exact Nat.le_refl _ | exact Nat.le_add_right _ _ | assumption) _ | apply Ext.patch | apply Ext.drew | apply Ext.drewN)))
set_option maxRecDepth 100000 in
set_option maxHeartbeats 2000000 in
/-- Do all sentinels read their slots? -/
theorem reads_any (g : GW) (bm : Nat) (m : MemS) (A : Option Addr) (cap : Nat) (zs : List Int) (B : Option Addr) (nb capb : Nat) (D : Option Addr) (capd : Nat) (tl : List Bool) (base : Int) (hm : MemAt g 300 bm m) (hz : CellsAt g.w A (zs.map (Value.int .i64))) (ht : CellsAt g.w D (tl.map Value.bool)) (hbz : zs.length ≤ nb) (hbm : nb ≤ 9223372036854775807) (htz : zs.length ≤ tl.length) (htm : tl.length ≤ 9223372036854775807) (hR : RdO (szOf zs) tl base m) (hs : ∀ q, q < zs.length → 0 ≤ zs.getD q 0 ∧ zs.getD q 0 ≤ 64) (h60 : zs.length ≤ 60) (hb : 0 ≤ base ∧ base ≤ 100000) :
    Calls Try.prog 52 #[.pointer (some ⟨bm, 0, none⟩), .slice A zs.length cap, .slice B nb capb, .slice D tl.length capd, .int .i64 base] g.w (Gives (.bool true) g.w) := by
  obtain ⟨own, w⟩ := g
  have HM := Lib.hid hm
  have HZ := Lib.hid hz
  have HT := Lib.hid ht
  have HR := Lib.hid hR
  have HS := Lib.hid hs
  have hlz : (szOf zs).length = zs.length := by unfold szOf; simp
  clear hm hz ht hR hs
  go_enter Try.func52, Try.ntmps52
  go_wp2_with fail
  have dE : decide ((zs.length : Int) ≤ nb) = true := decide_eq_true (by omega)
  have dE' : decide (zs.length ≤ nb) = true := decide_eq_true hbz
  go_loopw [11] (fun i wr => ∃ k : Nat, k ≤ zs.length ∧ i = .int .i64 k ∧ Hid (Ext w wr)) (fun i _ => zs.length - (intOf i).toNat)
  case atStart => exact ⟨0, Nat.zero_le _, rfl, Lib.hid (Ext.refl _)⟩
  case round =>
    obtain ⟨k, hk, rfl, HE⟩ := hrel
    obtain ⟨w1, rfl⟩ : ∃ w1 : World, w1 = wr := ⟨_, rfl⟩
    by_cases hlt : k < zs.length
    · have hkt : k < tl.length := by omega
      obtain ⟨bd, od, rfl, hbd, hcd⟩ := (HT.out.ext HE.out).cases (by simp; omega)
      have d0 := hcd k (.bool (tl.getD k false)) (by simp [List.getD_eq_getElem?_getD, hkt])
      have HTC := Lib.hid (fun w' (he : Ext w w') => show bd < w'.heap.size ∧ w'.cell? ⟨bd, od + k, none⟩ = some (.bool (tl.getD k false)) from by
        obtain ⟨b3, o3, e3, h3, hc3⟩ := (HT.out.ext he).cases (by simp; omega)
        simp only [Option.some.injEq, Addr.mk.injEq, and_true] at e3
        obtain ⟨rfl, rfl⟩ := e3
        exact ⟨h3, hc3 k (.bool (tl.getD k false)) (by simp [List.getD_eq_getElem?_getD, hkt])⟩)
      obtain ⟨bq, oq, rfl, hq, hcq⟩ := ints_at (HZ.out.ext HE.out) hlt
      have HZC := Lib.hid (fun w' (he : Ext w w') => show bq < w'.heap.size ∧ w'.cell? ⟨bq, oq + k, none⟩ = some (.int .i64 (zs.getD k 0)) from by
        obtain ⟨b3, o3, e3, h3, hc3⟩ := ints_at (HZ.out.ext he) hlt
        simp only [Option.some.injEq, Addr.mk.injEq, and_true] at e3
        obtain ⟨rfl, rfl⟩ := e3
        exact ⟨h3, hc3 k hlt⟩)
      have hrk := HR.out k (by omega)
      have hsk := HS.out k hlt
      have hy := szOf_get zs k
      have hy2 : (((szOf zs).getD k 0 : Nat) : Int) = zs.getD k 0 := by omega
      have HMx := Lib.hid (fun w' (he : Ext w w') => show MemAt ((⟨own, w⟩ : GW).to 0 w') 300 bm m from HM.out.keep (Mod.ext (T := fun _ => False) (g := ⟨own, w⟩) he 0) id)
      have hml := HM.out.len
      generalize (szOf zs).getD k 0 = sy at *
      generalize zs.getD k 0 = y at *
      generalize tl.getD k false = tv at *
      clear hcd hcq hy d0 hbd hq
      cases tv
      · have hpk := hrk.1 rfl
        have HPK := Lib.hid (fun w' (he : Ext w w') => show Calls Try.prog 34 #[.pointer (some ⟨bm, 0, none⟩), .int .i64 (8 * (k : Int) + 4)] w' (fun e w'' => e = .returned (.complex .f64 (floatOfInt .f64 (-1)) 0) ∧ w' = w'') from by
          have h1 := mem_peek ((⟨own, w⟩ : GW).to 0 w') 300 bm (8 * (k : Int) + 4) m (HMx.out w' he)
          rw [show 8 * (k : Int) + 4 = (k : Int) * 8 + 4 by omega, hpk] at h1
          rw [show 8 * (k : Int) + 4 = (k : Int) * 8 + 4 by omega]
          exact h1)
        clear hpk hrk
        go_wp2_with fail
        refine (HPK.out _ HE.out).mono ?_
        rintro e wv ⟨rfl, rfl⟩
        go_wp2_with fail
        refine (rint_fits (-1) ⟨by decide, by decide⟩ w1).mono ?_
        rintro e w2 ⟨rfl, hE2⟩
        have HE2 := Lib.hid (HE.out.trans (show Ext w1 w2 from hE2))
        clear hE2
        have d0 := (HTC.out _ HE2.out).2
        have hbd := (HTC.out _ HE2.out).1
        go_wp2_with fail
        go_roundw
        case rel => exact ⟨k + 1, by omega, by go_num, HE2⟩
        case measure => simp [intOf]; omega
      · obtain ⟨a, hpk, ha0, ha1, hsl⟩ := hrk.2 rfl
        have HSL := Lib.hid hsl
        have HPK := Lib.hid (fun w' (he : Ext w w') => show Calls Try.prog 34 #[.pointer (some ⟨bm, 0, none⟩), .int .i64 (8 * (k : Int) + 4)] w' (fun e w'' => e = .returned (.complex .f64 (floatOfInt .f64 a) 0) ∧ w' = w'') from by
          have h1 := mem_peek ((⟨own, w⟩ : GW).to 0 w') 300 bm (8 * (k : Int) + 4) m (HMx.out w' he)
          rw [show 8 * (k : Int) + 4 = (k : Int) * 8 + 4 by omega, hpk] at h1
          rw [show 8 * (k : Int) + 4 = (k : Int) * 8 + 4 by omega]
          exact h1)
        clear hpk hrk hsl
        go_wp2_with fail
        refine (HPK.out _ HE.out).mono ?_
        rintro e wv ⟨rfl, rfl⟩
        go_wp2_with fail
        refine (rint_fits a ⟨by omega, by omega⟩ w1).mono ?_
        rintro e w2 ⟨rfl, hE2⟩
        have HE2 := Lib.hid (HE.out.trans (show Ext w1 w2 from hE2))
        clear hE2 HE
        have d0 := (HTC.out _ HE2.out).2
        have hbd := (HTC.out _ HE2.out).1
        have z0 := (HZC.out _ HE2.out).2
        have hq := (HZC.out _ HE2.out).1
        have HLN := Lib.hid (fun X => show Calls Try.prog 27 #[.pointer (some ⟨bm, 0, none⟩)] (w2.patch X) (Gives (.int .i64 m.l.length) (w2.patch X)) from (mem_len ((⟨own, w⟩ : GW).to 0 (w2.patch X)) 300 bm m (HMx.out _ (HE2.out.trans ⟨X, rfl⟩))).mono (fun e w' ⟨h1, h2⟩ => ⟨h1, by rw [← h2]; exact Ext.refl _⟩))
        have q1 : decide (a < base) = false := decide_eq_false (by omega)
        have q2 : decide ((m.l.length : Int) < a + 2 + y) = false := decide_eq_false (by omega)
        go_wp2_with fail
        refine wp_region_mixed [true, true, true, true, true, true, true, true, true, true, true, true, true, true, true, true, true, true, true] 0 19 (by kernel_rfl) (by kernel_rfl) (by kernel_rfl) ?_ (by decide) (by decide) (by decide) (by kernel_rfl) ?_
        · intro c a d v w h; cases d <;> exact h
        intro X00
        simp only [pickOps]
        repeat (go_big_quiet_step (exact Calls.added (HLN.out _)))
        refine wpQuiet_nil (fun X0 => ?_)
        clear X00
        refine wpAnyM_done (by kernel_rfl) (fun X0' => ?_) _
        obtain ⟨w3, hw3⟩ : ∃ w3 : World, w3 = (w2.patch X0).patch X0' := ⟨_, rfl⟩
        have HE3 := Lib.hid (show Ext w w3 from HE2.out.trans (by rw [hw3]; exact Ext.trans ⟨X0, rfl⟩ ⟨X0', rfl⟩))
        rw [← hw3]
        clear hw3 HE2 d0 hbd z0 hq HLN q1 q2
        go_wp2_with fail
        go_loopw [14] (fun j wr => ∃ jn : Nat, jn ≤ sy ∧ j = .int .i64 jn ∧ Hid (Ext w wr)) (fun j _ => sy - (intOf j).toNat)
        case atStart => exact ⟨0, Nat.zero_le _, rfl, HE3⟩
        case round =>
          clear HE3
          obtain ⟨jn, hj, rfl, HE4⟩ := hrel
          obtain ⟨w4, rfl⟩ : ∃ w4 : World, w4 = wr := ⟨_, rfl⟩
          have z0 := (HZC.out _ HE4.out).2
          have hq := (HZC.out _ HE4.out).1
          by_cases hlj : jn < sy
          · have q3 : decide ((jn : Int) < y) = true := decide_eq_true (by omega)
            have HPJ := Lib.hid (fun w' (he : Ext w w') => show Calls Try.prog 34 #[.pointer (some ⟨bm, 0, none⟩), .int .i64 (a + 2 + (jn : Int))] w' (fun e w'' => e = .returned (.complex .f64 (floatOfInt .f64 (100 * (k : Int) + jn + 1)) 4607182418800017408) ∧ w' = w'') from by
              have h1 := mem_peek ((⟨own, w⟩ : GW).to 0 w') 300 bm (a + 2 + (jn : Int)) m (HMx.out w' he)
              rw [HSL.out jn hlj] at h1
              exact h1)
            go_wp2_with fail
            refine (HPJ.out _ HE4.out).mono ?_
            rintro e wv ⟨rfl, rfl⟩
            go_wp2_with fail
            refine (rref_any (100 * (k : Int) + jn) w4 (by omega) (by omega)).mono ?_
            rintro e w5 ⟨rfl, hE5⟩
            have HE5 := Lib.hid (HE4.out.trans (show Ext w4 w5 from hE5))
            clear hE5
            go_wp2_with fail
            refine (rword_same _ _ w5).mono ?_
            rintro e w6 ⟨rfl, hE6⟩
            have HE6 := Lib.hid (HE5.out.trans (show Ext w5 w6 from hE6))
            clear hE6
            go_wp2_with fail
            go_roundw
            case rel => exact ⟨jn + 1, by omega, by go_num, HE6⟩
            case measure => simp [intOf]; omega
          · have q3 : decide ((jn : Int) < y) = false := decide_eq_false (by omega)
            go_wp2_with fail
            go_roundw
            case rel => exact ⟨k + 1, by omega, by go_num, HE4⟩
            case measure => simp [intOf]; omega
    · obtain rfl : k = zs.length := by omega
      go_wp2_with fail
      go_ret
      exact Gives.bool rfl HE.out
end Go.Proofs.Ytmgkfpmmlibmcaa
