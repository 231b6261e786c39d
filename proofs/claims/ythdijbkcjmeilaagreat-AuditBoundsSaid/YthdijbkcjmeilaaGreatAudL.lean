/-
  AuditBounds: the law's walk.
-/
import Derived.Test.YthdijbkcjmeilaaGreatAudB
namespace Go.Proofs.YthdijbkcjmeilaaGreat
open Go Go.RowKit
set_option linter.unusedVariables false
set_option linter.unnecessarySimpa false
set_option linter.unusedSimpArgs false
set_option maxHeartbeats 1000000
set_option maxRecDepth 100000
theorem two_blk (w : World) (t u : TypeId) (l m : List Value) : ∃ own0, Blk ⟨own0, (w.alloc (.cells l.toArray t)).alloc (.cells m.toArray u)⟩ 9 w.heap.size t l ∧ Blk ⟨own0, (w.alloc (.cells l.toArray t)).alloc (.cells m.toArray u)⟩ 9 (w.heap.size + 1) u m := by
  have k1 := Blk.new ⟨fun _ => 0, w⟩ 9 t l
  have hsz : (w.alloc (.cells l.toArray t)).heap.size = w.heap.size + 1 := World.size_alloc _ _
  refine ⟨_, k1.keep (Mod.ext (T := fun _ => False) (show Ext (w.alloc (.cells l.toArray t)) ((w.alloc (.cells l.toArray t)).alloc (.cells m.toArray u)) from Ext.alloc (Ext.refl _) _) 9) id, ?_⟩
  rw [← hsz]
  exact Blk.new ⟨_, w.alloc (.cells l.toArray t)⟩ 9 u m
theorem bounds_any (c d : Cnf) (w : World) (hc : c.Ok w) (hd : d.Ok w) : Calls Tryz.prog 3 #[c.val, d.val] w (Gives (.bool true) w) := by
  have HF := Lib.hid (fun w => first26_any w)
  have HCC := Lib.hid (fun w' (he : Ext w w') => check_any c w' (hc.ext he))
  have HCD := Lib.hid (fun w' (he : Ext w w') => check_any d w' (hd.ext he))
  have HBC := Lib.hid (fun w' (he : Ext w w') => bound_any c w' (hc.ext he))
  have HBD := Lib.hid (fun w' (he : Ext w w') => bound_any d w' (hd.ext he))
  unfold Cnf.val at HCC HCD HBC HBD ⊢
  obtain ⟨own0, a0, b0⟩ := two_blk w 24 24 [.int .i64 c.frags, .int .i64 c.spine, .int .i64 c.globals, .int .i64 c.threads, .int .i64 c.locals, .int .i64 c.cache, .int .i64 c.stack, .int .i64 c.low, .slice c.A c.shapes.length c.cap] [.int .i64 d.frags, .int .i64 d.spine, .int .i64 d.globals, .int .i64 d.threads, .int .i64 d.locals, .int .i64 d.cache, .int .i64 d.stack, .int .i64 d.low, .slice d.A d.shapes.length d.cap]
  have A0 := Lib.hid a0
  have B0 := Lib.hid b0
  have E0 := Lib.hid (show Ext w ((w.alloc (.cells #[.int .i64 c.frags, .int .i64 c.spine, .int .i64 c.globals, .int .i64 c.threads, .int .i64 c.locals, .int .i64 c.cache, .int .i64 c.stack, .int .i64 c.low, .slice c.A c.shapes.length c.cap] 24)).alloc (.cells #[.int .i64 d.frags, .int .i64 d.spine, .int .i64 d.globals, .int .i64 d.threads, .int .i64 d.locals, .int .i64 d.cache, .int .i64 d.stack, .int .i64 d.low, .slice d.A d.shapes.length d.cap] 24)) by (repeat (first | (with_reducible assumption) | (with_reducible exact Ext.refl _) | (with_reducible exact Ext.more _ _ _ _) | apply Ext.alloc | refine Ext.setCell ?_ (by first | exact Nat.le_refl _ | exact Nat.le_add_right _ _ | assumption) _ | apply Ext.patch | apply Ext.drew | apply Ext.drewN)))
  clear hc hd a0 b0
  go_enter Tryz.func3, Tryz.ntmps3
  go_wp2_with fail
  refine (HF.out _).mono ?_
  rintro e w1 ⟨rfl, hX⟩
  obtain ⟨own1, m1⟩ := Mod.ofExt (show Ext _ w1 from hX) own0
  have A1 := Lib.hid (A0.out.keep m1 id)
  have B1 := Lib.hid (B0.out.keep m1 id)
  have E1 := Lib.hid (E0.out.trans m1.toExt)
  clear m1 hX A0 B0 E0
  have HBC1 := Lib.hid (fun X => HBC.out (w1.patch X) (E1.out.trans ⟨X, rfl⟩))
  have HBD1 := Lib.hid (fun X => HBD.out (w1.patch X) (E1.out.trans ⟨X, rfl⟩))
  have a0 := A1.out.cell (i := 0) rfl
  have a1 := A1.out.cell (i := 1) rfl
  have a2 := A1.out.cell (i := 2) rfl
  have a3 := A1.out.cell (i := 3) rfl
  have a4 := A1.out.cell (i := 4) rfl
  have a5 := A1.out.cell (i := 5) rfl
  have a6 := A1.out.cell (i := 6) rfl
  have a7 := A1.out.cell (i := 7) rfl
  have a8 := A1.out.cell (i := 8) rfl
  have al := A1.out.lt
  (try simp only [GW.to] at a0 a1 a2 a3 a4 a5 a6 a7 a8 al)
  have b0 := B1.out.cell (i := 0) rfl
  have b1 := B1.out.cell (i := 1) rfl
  have b2 := B1.out.cell (i := 2) rfl
  have b3 := B1.out.cell (i := 3) rfl
  have b4 := B1.out.cell (i := 4) rfl
  have b5 := B1.out.cell (i := 5) rfl
  have b6 := B1.out.cell (i := 6) rfl
  have b7 := B1.out.cell (i := 7) rfl
  have b8 := B1.out.cell (i := 8) rfl
  have bl := B1.out.lt
  (try simp only [GW.to] at b0 b1 b2 b3 b4 b5 b6 b7 b8 bl)
  have HV := Lib.hid (show cBound c = if c.check = 0 then cBound c else 0 from by unfold cBound; split <;> rfl)
  have HVD := Lib.hid (show cBound d = if d.check = 0 then cBound d else 0 from by unfold cBound; split <;> rfl)
  go_wp2_with fail
  refine wp_region_mixed [true, true, true, true, true, true] 0 6 (by kernel_rfl) (by kernel_rfl) (by kernel_rfl) ?_ (by decide) (by decide) (by decide) (by kernel_rfl) ?_
  · intro c a d v w h; cases d <;> exact h
  intro X00
  simp only [pickOps]
  repeat (go_big_quiet_step (exact Calls.added (by first | (with_reducible exact HBC1.out _) | (with_reducible exact HBD1.out _))))
  refine wpQuiet_nil (fun X0 => ?_)
  clear X00
  refine wpAnyM_done (by kernel_rfl) (fun X0' => ?_) _
  go_wp2_with fail
  have E1b := E1.out
  refine (HCC.out _ (by (repeat (first | (with_reducible assumption) | (with_reducible exact Ext.refl _) | (with_reducible exact Ext.more _ _ _ _) | apply Ext.alloc | refine Ext.setCell ?_ (by first | exact Nat.le_refl _ | exact Nat.le_add_right _ _ | assumption) _ | apply Ext.patch | apply Ext.drew | apply Ext.drewN)))).mono ?_
  rintro e w3 ⟨rfl, hX⟩
  have e13 : Ext w1 w3 := Ext.trans (by (repeat (first | (with_reducible assumption) | (with_reducible exact Ext.refl _) | (with_reducible exact Ext.more _ _ _ _) | apply Ext.alloc | refine Ext.setCell ?_ (by first | exact Nat.le_refl _ | exact Nat.le_add_right _ _ | assumption) _ | apply Ext.patch | apply Ext.drew | apply Ext.drewN))) (show Ext _ w3 from hX)
  obtain ⟨own3, m3⟩ := Mod.ofExt e13 own1
  have A3 := Lib.hid (A1.out.keep m3 id)
  have B3 := Lib.hid (B1.out.keep m3 id)
  have E3 := Lib.hid (E1.out.trans e13)
  clear m3 e13 hX E1b A1 B1 E1 HBC1 HBD1
  clear a0 a1 a2 a3 a4 a5 a6 a7 a8 al b0 b1 b2 b3 b4 b5 b6 b7 b8 bl
  by_cases hck : c.check = 0
  case neg =>
    have hv : cBound c = 0 := HV.out.trans (if_neg hck)
    have hk1 : (c.check != 0) = true := by simp [hck]
    rw [hv]
    clear hck hv
    go_wp2_with fail
    refine (HF.out _).mono ?_
    rintro e w9 ⟨rfl, hX⟩
    have E9 := Lib.hid (show Ext _ w9 from hX)
    clear hX
    go_wp2_with fail
    go_ret
    exact Gives.bool rfl (E3.out.trans E9.out)
  case pos =>
    have HKC := Lib.hid hck
    obtain ⟨⟨r0, r1⟩, -⟩ := Cnf.ranged (Cnf.check_zero hck).1
    have hq0 : 0 ≤ 40 * c.frags * c.frags := Int.mul_nonneg (by omega) (by omega)
    have hq1 : 40 * c.frags * c.frags ≤ 40960 * 1024 := Int.mul_le_mul (by omega) (by omega) (by omega) (by omega)
    have dlt : decide (cBound c < 40 * c.frags * c.frags) = false := decide_eq_false (by have := cBound_sq hck; omega)
    rw [hck]
    clear hck
    have a0 := A3.out.cell (i := 0) rfl
    have a1 := A3.out.cell (i := 1) rfl
    have a2 := A3.out.cell (i := 2) rfl
    have a3 := A3.out.cell (i := 3) rfl
    have a4 := A3.out.cell (i := 4) rfl
    have a5 := A3.out.cell (i := 5) rfl
    have a6 := A3.out.cell (i := 6) rfl
    have a7 := A3.out.cell (i := 7) rfl
    have a8 := A3.out.cell (i := 8) rfl
    have al := A3.out.lt
    (try simp only [GW.to] at a0 a1 a2 a3 a4 a5 a6 a7 a8 al)
    have b0 := B3.out.cell (i := 0) rfl
    have b1 := B3.out.cell (i := 1) rfl
    have b2 := B3.out.cell (i := 2) rfl
    have b3 := B3.out.cell (i := 3) rfl
    have b4 := B3.out.cell (i := 4) rfl
    have b5 := B3.out.cell (i := 5) rfl
    have b6 := B3.out.cell (i := 6) rfl
    have b7 := B3.out.cell (i := 7) rfl
    have b8 := B3.out.cell (i := 8) rfl
    have bl := B3.out.lt
    (try simp only [GW.to] at b0 b1 b2 b3 b4 b5 b6 b7 b8 bl)
    go_wp2_with fail
    refine (HCD.out _ E3.out).mono ?_
    rintro e w4 ⟨rfl, hX⟩
    obtain ⟨own4, m4⟩ := Mod.ofExt (show Ext w3 w4 from hX) own3
    have A4 := Lib.hid (A3.out.keep m4 id)
    have B4 := Lib.hid (B3.out.keep m4 id)
    have E4 := Lib.hid (E3.out.trans m4.toExt)
    clear m4 hX A3 B3 E3
    clear a0 a1 a2 a3 a4 a5 a6 a7 a8 al b0 b1 b2 b3 b4 b5 b6 b7 b8 bl
    by_cases hdk : d.check = 0
    case neg =>
      have hv : cBound d = 0 := HVD.out.trans (if_neg hdk)
      have hk1 : (d.check != 0) = true := by simp [hdk]
      rw [hv]
      clear hdk hv
      go_wp2_with fail
      refine (HF.out _).mono ?_
      rintro e w9 ⟨rfl, hX⟩
      have E9 := Lib.hid (show Ext _ w9 from hX)
      clear hX
      go_wp2_with fail
      go_ret
      exact Gives.bool rfl (E4.out.trans E9.out)
    case pos =>
      have HLE := Lib.hid (cBound_le HKC.out hdk)
      rw [hdk]
      clear hdk
      have a0 := A4.out.cell (i := 0) rfl
      have a1 := A4.out.cell (i := 1) rfl
      have a2 := A4.out.cell (i := 2) rfl
      have a3 := A4.out.cell (i := 3) rfl
      have a4 := A4.out.cell (i := 4) rfl
      have a5 := A4.out.cell (i := 5) rfl
      have a6 := A4.out.cell (i := 6) rfl
      have a7 := A4.out.cell (i := 7) rfl
      have a8 := A4.out.cell (i := 8) rfl
      have al := A4.out.lt
      (try simp only [GW.to] at a0 a1 a2 a3 a4 a5 a6 a7 a8 al)
      have b0 := B4.out.cell (i := 0) rfl
      have b1 := B4.out.cell (i := 1) rfl
      have b2 := B4.out.cell (i := 2) rfl
      have b3 := B4.out.cell (i := 3) rfl
      have b4 := B4.out.cell (i := 4) rfl
      have b5 := B4.out.cell (i := 5) rfl
      have b6 := B4.out.cell (i := 6) rfl
      have b7 := B4.out.cell (i := 7) rfl
      have b8 := B4.out.cell (i := 8) rfl
      have bl := B4.out.lt
      (try simp only [GW.to] at b0 b1 b2 b3 b4 b5 b6 b7 b8 bl)
      by_cases h0 : c.frags ≤ d.frags
      · have k0 : decide (c.frags ≤ d.frags) = true := decide_eq_true h0
        by_cases h1 : c.spine ≤ d.spine
        · have k1 : decide (c.spine ≤ d.spine) = true := decide_eq_true h1
          by_cases h2 : c.globals ≤ d.globals
          · have k2 : decide (c.globals ≤ d.globals) = true := decide_eq_true h2
            by_cases h3 : c.threads ≤ d.threads
            · have k3 : decide (c.threads ≤ d.threads) = true := decide_eq_true h3
              by_cases h4 : c.locals ≤ d.locals
              · have k4 : decide (c.locals ≤ d.locals) = true := decide_eq_true h4
                have k5 : decide (cBound c ≤ cBound d) = true := decide_eq_true (HLE.out h0 h1 h2 h3 h4)
                clear h0 h1 h2 h3 h4
                go_wp2_with fail
                refine (HF.out _).mono ?_
                rintro e w9 ⟨rfl, hX⟩
                have E9 := Lib.hid (show Ext _ w9 from hX)
                clear hX
                go_wp2_with fail
                go_ret
                exact Gives.bool rfl (E4.out.trans E9.out)
              · have k4 : decide (c.locals ≤ d.locals) = false := decide_eq_false h4
                clear h0 h1 h2 h3 h4
                go_wp2_with fail
                refine (HF.out _).mono ?_
                rintro e w9 ⟨rfl, hX⟩
                have E9 := Lib.hid (show Ext _ w9 from hX)
                clear hX
                go_wp2_with fail
                go_ret
                exact Gives.bool rfl (E4.out.trans E9.out)
            · have k3 : decide (c.threads ≤ d.threads) = false := decide_eq_false h3
              clear h0 h1 h2 h3
              go_wp2_with fail
              refine (HF.out _).mono ?_
              rintro e w9 ⟨rfl, hX⟩
              have E9 := Lib.hid (show Ext _ w9 from hX)
              clear hX
              go_wp2_with fail
              go_ret
              exact Gives.bool rfl (E4.out.trans E9.out)
          · have k2 : decide (c.globals ≤ d.globals) = false := decide_eq_false h2
            clear h0 h1 h2
            go_wp2_with fail
            refine (HF.out _).mono ?_
            rintro e w9 ⟨rfl, hX⟩
            have E9 := Lib.hid (show Ext _ w9 from hX)
            clear hX
            go_wp2_with fail
            go_ret
            exact Gives.bool rfl (E4.out.trans E9.out)
        · have k1 : decide (c.spine ≤ d.spine) = false := decide_eq_false h1
          clear h0 h1
          go_wp2_with fail
          refine (HF.out _).mono ?_
          rintro e w9 ⟨rfl, hX⟩
          have E9 := Lib.hid (show Ext _ w9 from hX)
          clear hX
          go_wp2_with fail
          go_ret
          exact Gives.bool rfl (E4.out.trans E9.out)
      · have k0 : decide (c.frags ≤ d.frags) = false := decide_eq_false h0
        clear h0
        go_wp2_with fail
        refine (HF.out _).mono ?_
        rintro e w9 ⟨rfl, hX⟩
        have E9 := Lib.hid (show Ext _ w9 from hX)
        clear hX
        go_wp2_with fail
        go_ret
        exact Gives.bool rfl (E4.out.trans E9.out)
end Go.Proofs.YthdijbkcjmeilaaGreat
