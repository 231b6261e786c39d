import Derived.Test.YtcpeoflomdhidaaGreatKW06
import Derived.Deep.DeepCutAuto
import Derived.Laws.FloatArith
import Derived.Test.YtcpeoflomdhidaaGreatChecked
import Derived.Laws.Externs
/-
  Packed: Core, Float, Num.
-/
open Go.Ext renaming alloc → zA, patch → zP, drew → zD, drewN → zN, more → zM, refl → zR, setCell → zS
open Nat renaming le_refl → zL, le_add_right → zK
/-
  core: its state; New.
-/
namespace Go
open Go.RowKit
theorem Mod.nothing {T : Nat → Prop} {g g' : GW} (h : Mod T g g') (hn : ∀ k, k < g.w.heap.size → ¬ T (g.own k)) : Mod (fun _ => False) g g' := ⟨h.os, h.tape, h.output, h.size, h.own, fun k hk _ => h.block k hk (hn k hk)⟩
def instC (B : Nat) (x : Nat) : Prop := B ≤ x ∧ x < B + 70
structure CoreS where
  c : Cnf
  mem : MemS
  sp : SpaceS
  hand : HandS
  pile : PileS
  n : Int
end Go
namespace Go.Proofs.YtcpeoflomdhidaaGreat
open Go Go.RowKit
set_option linter.unusedVariables false
set_option linter.unnecessarySimpa false
set_option linter.unusedSimpArgs false
set_option maxHeartbeats 4000000
theorem SpaceAt.keep {g g' : GW} {B b bt : Nat} {S : SpaceS} {T : Nat → Prop} (h : SpaceAt g B b bt S) (m : Mod T g g') (hT : ∀ x, T x → x < B ∨ B + 60 ≤ x) : SpaceAt g' B b bt S := by
  obtain ⟨bp, bk, bl, A, cs, cm, bs, h⟩ := h
  exact ⟨bp, bk, bl, A, cs, cm, bs, h.keep m hT⟩
structure CoreIn (g : GW) (B b : Nat) (K : CoreS) (bm bs bt bp bsp bh : Nat) (cm : Cnf) : Prop where
  blk : Blk g (B + 64) b 92 [.int .i64 cm.frags, .int .i64 cm.spine, .int .i64 cm.globals, .int .i64 cm.threads, .int .i64 cm.locals, .int .i64 cm.cache, .int .i64 cm.stack, .int .i64 cm.low, .slice cm.A cm.shapes.length cm.cap, .pointer (some ⟨bm, 0, none⟩), .pointer (some ⟨bs, 0, none⟩), .pointer (some ⟨bsp, 0, none⟩), .pointer (some ⟨bh, 0, none⟩)]
  mem : MemAt g (B + 62) bm K.mem
  sh : Blk g (B + 60) bs 148 [.pointer (some ⟨bt, 0, none⟩), .pointer (some ⟨bp, 0, none⟩), .int .i64 K.n]
  pile : PileAt g (B + 61) bp K.pile
  sp : SpaceAt g B bsp bt K.sp
  hand : HandAt g (B + 63) bh K.hand
  cnf : CnfAt g (B + 65) cm
  same : cm.Same K.c
def CoreAt (g : GW) (B b : Nat) (K : CoreS) : Prop := ∃ bm bs bt bp bsp bh cm, CoreIn g B b K bm bs bt bp bsp bh cm
theorem CoreIn.keep {g g' : GW} {B b bm bs bt bp bsp bh : Nat} {K : CoreS} {cm : Cnf} {T : Nat → Prop} (h : CoreIn g B b K bm bs bt bp bsp bh cm) (m : Mod T g g') (hT : ∀ x, T x → x < B ∨ B + 70 ≤ x) : CoreIn g' B b K bm bs bt bp bsp bh cm := by
  have q : ∀ k, k < 70 → ¬ T (B + k) := fun k hk ht => by have := hT _ ht; omega
  exact ⟨h.blk.keep m (q 64 (by omega)), h.mem.keep m (q 62 (by omega)), h.sh.keep m (q 60 (by omega)), h.pile.keep m (q 61 (by omega)), h.sp.keep m (fun x hx => by have := hT x hx; omega), h.hand.keep m (q 63 (by omega)), h.cnf.keep m (q 65 (by omega)), h.same⟩
def memLaid (c : Cnf) (k : Nat) : MemS := (List.range k).foldl (fun m j => m.lay (cAtV c 3 (j : Nat)) (0, 4607182418800017408)) ⟨List.replicate (cWords c).toNat (0, 0), 0⟩
theorem memLaid_succ (c : Cnf) (k : Nat) : memLaid c (k + 1) = (memLaid c k).lay (cAtV c 3 (k : Nat)) (0, 4607182418800017408) := by
  unfold memLaid
  rw [List.range_succ, List.foldl_append]
  rfl
def CoreS.fresh (c : Cnf) : CoreS := ⟨c, memLaid c c.globals.toNat, SpaceS.fresh c (TabS.fresh c.frags.toNat), ⟨0, false, List.replicate c.threads.toNat (-1), 0⟩, ⟨[], c.stack, false⟩, 0⟩
def CoreMade (c : Cnf) (B : Nat) (g : GW) (e : Ending) (w' : World) : Prop :=
  if c.check = 0 then ∃ own' b, e = .returned (.tuple #[.pointer (some ⟨b, 0, none⟩), .int .i64 0]) ∧ Mod (fun _ => False) g ⟨own', w'⟩ ∧ CoreAt ⟨own', w'⟩ B b (CoreS.fresh c)
  else e = .returned (.tuple #[.pointer none, .int .i64 c.check]) ∧ Ext g.w w'
set_option maxRecDepth 100000 in
theorem core_new (c : Cnf) (B : Nat) (g : GW) (hc : c.Ok g.w) (hB : 100 ≤ B) (hF : ∀ k, k < g.w.heap.size → g.own k < B ∨ B + 70 ≤ g.own k) : Calls Tryz.prog 86 #[c.val] g.w (CoreMade c B g) := by
  have HCK := Lib.hid (fun w' (he : Ext g.w w') => check_any c w' (hc.ext he))
  have HWD := Lib.hid (fun g' (m : Mod (fun _ => False) g g') => words_any c g'.w (hc.ext m.toExt))
  have HGL := Lib.hid (fun k g' (m : Mod (fun _ => False) g g') => global_any c k g'.w (hc.ext m.toExt))
  have HF := Lib.hid hF
  have HC := Lib.hid hc
  unfold Cnf.val at HCK HWD HGL ⊢
  obtain ⟨own0, m0, b0⟩ : ∃ own0, Mod (fun _ => False) g ⟨own0, g.w.alloc (.cells #[.int .i64 c.frags, .int .i64 c.spine, .int .i64 c.globals, .int .i64 c.threads, .int .i64 c.locals, .int .i64 c.cache, .int .i64 c.stack, .int .i64 c.low, .slice c.A c.shapes.length c.cap] 24)⟩ ∧ Blk ⟨own0, g.w.alloc (.cells #[.int .i64 c.frags, .int .i64 c.spine, .int .i64 c.globals, .int .i64 c.threads, .int .i64 c.locals, .int .i64 c.cache, .int .i64 c.stack, .int .i64 c.low, .slice c.A c.shapes.length c.cap] 24)⟩ 9 g.w.heap.size 24 [.int .i64 c.frags, .int .i64 c.spine, .int .i64 c.globals, .int .i64 c.threads, .int .i64 c.locals, .int .i64 c.cache, .int .i64 c.stack, .int .i64 c.low, .slice c.A c.shapes.length c.cap] := ⟨_, Mod.ext (by (repeat (first | (with_reducible (first | assumption | exact zR _ | exact zM _ _ _ _)) | apply zA | refine zS ?_ (by first | exact zL _ | exact zK _ _ | assumption) _ | apply zP | apply zD | apply zN))) 9, Blk.new g 9 24 [.int .i64 c.frags, .int .i64 c.spine, .int .i64 c.globals, .int .i64 c.threads, .int .i64 c.locals, .int .i64 c.cache, .int .i64 c.stack, .int .i64 c.low, .slice c.A c.shapes.length c.cap]⟩
  have M0 := Lib.hid m0
  have B0 := Lib.hid b0
  clear hc m0 b0 hF
  go_enter Tryz.func86, Tryz.ntmps86
  go_wp2_with fail
  refine (HCK.out _ (by (repeat (first | (with_reducible (first | assumption | exact zR _ | exact zM _ _ _ _)) | apply zA | refine zS ?_ (by first | exact zL _ | exact zK _ _ | assumption) _ | apply zP | apply zD | apply zN)))).mono ?_
  rintro e w1 ⟨rfl, hX⟩
  obtain ⟨own1, m1⟩ := Mod.ofExt (show Ext _ w1 from hX) own0
  have M1 := Lib.hid (M0.out.trans (m1.mono (fun x hx => hx.elim)))
  have B1 := Lib.hid (B0.out.keep m1 id)
  clear m1 hX
  obtain ⟨a0, a1, a2, a3, a4, a5, a6, a7, a8, al⟩ := B1.out.c9
  (try simp only [GW.to] at a0 a1 a2 a3 a4 a5 a6 a7 a8 al)
  by_cases hck : c.check = 0
  case neg =>
    have hk1 : (c.check != 0) = true := by simp [hck]
    have HW := Lib.hid hck
    clear hck
    go_wp2_with fail
    go_ret2
    unfold CoreMade
    rw [if_neg HW.out]
    exact ⟨rfl, M1.out.toExt⟩
  case pos =>
    have hk1 : (c.check != 0) = false := by simp [hck]
    obtain ⟨⟨r0, r1⟩, ⟨r2, r3⟩, ⟨r4, r5⟩, ⟨r6, r7⟩, -, ⟨r8, r9⟩, ⟨r10, r11⟩, -⟩ := Cnf.ranged (Cnf.check_zero hck).1
    have hshp : c.shapes.length ≤ 8 := by
      have := (Cnf.check_zero hck).2.2.1
      simp [within] at this
      omega
    have HCKZ := Lib.hid hck
    have hwd : cWords c = c.frags * 8 + c.spine + c.spine + c.globals := by unfold cWords; rw [if_pos hck]
    have HMN := Lib.hid (fun g' => (show Calls Tryz.prog 159 #[.int .i64 (cWords c)] g'.w (fun e w' => ∃ own' b, e = .returned (.tuple #[.pointer (some ⟨b, 0, none⟩), .int .i64 0]) ∧ Mod (fun _ => False) g' ⟨own', w'⟩ ∧ MemAt ⟨own', w'⟩ (B + 62) b (memLaid c 0)) from (mem_new (cWords c) (B + 62) g').mono fun e w' hh => by
      unfold MemMade at hh
      rw [if_pos ⟨by omega, by omega⟩] at hh
      exact hh))
    have HHN := Lib.hid (fun g' => (show Calls Tryz.prog 162 #[.int .i64 c.threads] g'.w (fun e w' => ∃ own' b, e = .returned (.tuple #[.pointer (some ⟨b, 0, none⟩), .int .i64 0]) ∧ Mod (fun _ => False) g' ⟨own', w'⟩ ∧ HandAt ⟨own', w'⟩ (B + 63) b ⟨0, false, List.replicate c.threads.toNat (-1), 0⟩) from (hand_new c.threads (B + 63) g').mono fun e w' hh => by
      unfold HandMade at hh
      rw [if_pos ⟨by omega, by omega⟩] at hh
      exact hh))
    have HSN := Lib.hid (fun g' => (show Calls Tryz.prog 161 #[.int .i64 c.frags, .int .i64 c.stack] g'.w (fun e w' => ∃ own' b bt bp, e = .returned (.tuple #[.pointer (some ⟨b, 0, none⟩), .int .i64 0]) ∧ Mod (fun _ => False) g' ⟨own', w'⟩ ∧ Blk ⟨own', w'⟩ (B + 60) b 148 [.pointer (some ⟨bt, 0, none⟩), .pointer (some ⟨bp, 0, none⟩), .int .i64 0] ∧ TabAt ⟨own', w'⟩ (B + 50) bt (TabS.fresh c.frags.toNat) ∧ PileAt ⟨own', w'⟩ (B + 61) bp ⟨[], c.stack, false⟩) from by
      have := shade_new c.frags.toNat c.stack (B + 60) (B + 50) (B + 61) g' (by omega) ⟨by omega, by omega⟩
      rw [show ((c.frags.toNat : Nat) : Int) = c.frags by omega] at this
      exact this))
    have HPN := Lib.hid (fun g' bt (m : Mod (fun _ => False) g g') (ht : TabAt g' (B + 50) bt (TabS.fresh c.frags.toNat)) => (show Calls Tryz.prog 9 #[c.val, .pointer (some ⟨bt, 0, none⟩)] g'.w (fun e w' => ∃ own' b, e = .returned (.tuple #[.pointer (some ⟨b, 0, none⟩), .int .i64 0]) ∧ Mod (fun _ => False) g' ⟨own', w'⟩ ∧ SpaceAt ⟨own', w'⟩ B b bt (SpaceS.fresh c (TabS.fresh c.frags.toNat))) from (space_new c (TabS.fresh c.frags.toNat) B bt g' (HC.out.ext m.toExt) ht hB).mono fun e w' hh => by
      unfold SpaceMade at hh
      rw [if_pos ⟨HCKZ.out, by simp [TabS.fresh]; omega⟩] at hh
      exact hh))
    have HCP := Lib.hid (fun g' (m : Mod (fun _ => False) g g') => copy_any c (B + 65) g' (HC.out.ext m.toExt) (by omega))
    unfold Cnf.val at HPN HCP
    clear hck hwd
    go_wp2_with fail
    refine (HWD.out ⟨own1, w1⟩ M1.out).mono ?_
    rintro e w2 ⟨rfl, hX⟩
    obtain ⟨own2, m2⟩ := Mod.ofExt (show Ext w1 w2 from hX) own1
    have M2 := Lib.hid (M1.out.trans (m2.mono (fun x hx => hx.elim)))
    have B2 := Lib.hid (B1.out.keep m2 id)
    clear m2 hX
    clear a0 a1 a2 a3 a4 a5 a6 a7 a8 al
    obtain ⟨a0, a1, a2, a3, a4, a5, a6, a7, a8, al⟩ := B2.out.c9
    (try simp only [GW.to] at a0 a1 a2 a3 a4 a5 a6 a7 a8 al)
    go_wp2_with fail
    refine (HMN.out ⟨own2, w2⟩).mono ?_
    rintro e w3 ⟨own3, bm, rfl, m3, x3⟩
    have M3 := Lib.hid (M2.out.trans (m3.mono (fun x hx => hx.elim)))
    have B3 := Lib.hid (B2.out.keep m3 id)
    have X3 := Lib.hid x3
    clear m3 x3 HMN HWD HCK
    clear a0 a1 a2 a3 a4 a5 a6 a7 a8 al
    obtain ⟨a0, a1, a2, a3, a4, a5, a6, a7, a8, al⟩ := B3.out.c9
    (try simp only [GW.to] at a0 a1 a2 a3 a4 a5 a6 a7 a8 al)
    go_wp2_with fail
    refine (HSN.out ⟨own3, w3⟩).mono ?_
    rintro e w4 ⟨own4, bs, bt, bp, rfl, m4, s4, t4, p4⟩
    have M4 := Lib.hid (M3.out.trans (m4.mono (fun x hx => hx.elim)))
    have B4 := Lib.hid (B3.out.keep m4 id)
    have X4 := Lib.hid (X3.out.keep m4 id)
    have S4 := Lib.hid s4
    have T4 := Lib.hid t4
    have P4 := Lib.hid p4
    clear m4 s4 t4 p4 HSN X3
    clear a0 a1 a2 a3 a4 a5 a6 a7 a8 al
    obtain ⟨a0, a1, a2, a3, a4, a5, a6, a7, a8, al⟩ := B4.out.c9
    (try simp only [GW.to] at a0 a1 a2 a3 a4 a5 a6 a7 a8 al)
    obtain ⟨s0, s1, s2, sl⟩ := S4.out.c3
    (try simp only [GW.to] at s0 s1 s2 sl)
    have HTB := Lib.hid (fun w => shade_table bt w)
    go_wp2_with fail
    go_cut [8, 6] (fun s8 s6 wx => ∃ own5 bsp, s8 = .pointer (some ⟨bsp, 0, none⟩) ∧ s6 = .int .i64 0 ∧ Mod (fun _ => False) ⟨own4, w4⟩ ⟨own5, wx⟩ ∧ SpaceAt ⟨own5, wx⟩ B bsp bt (SpaceS.fresh c (TabS.fresh c.frags.toNat)))
    case first =>
      refine wp_region_mixed [true, true, true, true, true, true, false, false, false, false, false, false] 6 12 (by kernel_rfl) (by kernel_rfl) (by kernel_rfl) ?_ (by decide) (by decide) (by decide) (by kernel_rfl) ?_
      · intro c a d v w h; cases d <;> exact h
      intro X00
      simp only [pickOps]
      repeat (go_big_quiet_step ((go_at_call 91; exact Calls.added (HTB.out _))))
      refine wpQuiet_nil (fun X0 => ?_)
      clear X00
      refine wpAnyM_one 6 _ (by kernel_rfl) rfl rfl (by decide) (fun X1 K Q' hK => ?_)
      go_simp
      refine (HPN.out ((⟨own4, w4⟩ : GW).pt _) bt (Mod.pt M4.out _) (T4.out.pt _)).mono ?_
      rintro e w5 ⟨own5, bsp, rfl, m5, y5⟩
      have M5 := Lib.hid ((Mod.pt (Mod.refl (fun _ => False) (⟨own4, w4⟩ : GW)) _).trans m5)
      have Y5 := Lib.hid y5
      have hE5 : Ext w4 w5 := M5.out.toExt
      have HKK := Lib.hid (show ∀ X, ∃ o, Mod (fun _ => False) ⟨own4, w4⟩ ⟨o, w5.patch X⟩ ∧ SpaceAt ⟨o, w5.patch X⟩ B bsp bt (SpaceS.fresh c (TabS.fresh c.frags.toNat)) from fun X => ⟨_, M5.out.trans (Mod.ext (T := fun _ => False) (g := ⟨own5, w5⟩) ⟨X, rfl⟩ 0), Y5.out.keep (Mod.ext (T := fun _ => False) (g := ⟨own5, w5⟩) ⟨X, rfl⟩ 0) (fun x hx => hx.elim)⟩)
      clear m5 y5
      refine hK _ _ hE5 ?_
      clear hK K Q'
      refine wpAnyM_one 7 _ (by kernel_rfl) rfl rfl (by decide) (fun X1 K Q' hK => ?_)
      go_simp
      refine hK _ _ ?_ ?_
      · (repeat (with_reducible (first | assumption | exact zR _ | exact zM _ _ _ _ | apply zA | apply zP | apply zD | apply zN | refine zS ?_ (by first | assumption | exact zL _ | exact zK _ _) _)))
      clear hK K Q'
      refine wpAnyM_two 8 9 _ _ (by kernel_rfl) rfl rfl rfl rfl (by decide) (by decide) (fun X1 K Q' hK => ?ordA) (fun X1 K Q' hK => ?ordB)
      case' ordA =>
        go_simp
        refine hK _ _ ?_ ?_
        · (repeat (with_reducible (first | assumption | exact zR _ | exact zM _ _ _ _ | apply zA | apply zP | apply zD | apply zN | refine zS ?_ (by first | assumption | exact zL _ | exact zK _ _) _)))
        clear hK K Q'
        refine wpAnyM_two 9 10 _ _ (by kernel_rfl) rfl rfl rfl rfl (by decide) (by decide) (fun X1 K Q' hK => ?ordA1) (fun X1 K Q' hK => ?ordA2)
        case' ordA1 =>
          go_simp
          refine hK _ _ ?_ ?_
          · (repeat (with_reducible (first | assumption | exact zR _ | exact zM _ _ _ _ | apply zA | apply zP | apply zD | apply zN | refine zS ?_ (by first | assumption | exact zL _ | exact zK _ _) _)))
          clear hK K Q'
          refine wpAnyM_one 10 _ (by kernel_rfl) rfl rfl (by decide) (fun X1 K Q' hK => ?_)
          go_simp
          refine hK _ _ ?_ ?_
          · (repeat (with_reducible (first | assumption | exact zR _ | exact zM _ _ _ _ | apply zA | apply zP | apply zD | apply zN | refine zS ?_ (by first | assumption | exact zL _ | exact zK _ _) _)))
          clear hK K Q'
        case' ordA2 =>
          go_simp
          refine hK _ _ ?_ ?_
          · (repeat (with_reducible (first | assumption | exact zR _ | exact zM _ _ _ _ | apply zA | apply zP | apply zD | apply zN | refine zS ?_ (by first | assumption | exact zL _ | exact zK _ _) _)))
          clear hK K Q'
          refine wpAnyM_one 9 _ (by kernel_rfl) rfl rfl (by decide) (fun X1 K Q' hK => ?_)
          go_simp
          refine hK _ _ ?_ ?_
          · (repeat (with_reducible (first | assumption | exact zR _ | exact zM _ _ _ _ | apply zA | apply zP | apply zD | apply zN | refine zS ?_ (by first | assumption | exact zL _ | exact zK _ _) _)))
          clear hK K Q'
      case' ordB =>
        go_simp
        refine hK _ _ ?_ ?_
        · (repeat (with_reducible (first | assumption | exact zR _ | exact zM _ _ _ _ | apply zA | apply zP | apply zD | apply zN | refine zS ?_ (by first | assumption | exact zL _ | exact zK _ _) _)))
        clear hK K Q'
        refine wpAnyM_one 8 _ (by kernel_rfl) rfl rfl (by decide) (fun X1 K Q' hK => ?_)
        go_simp
        refine hK _ _ ?_ ?_
        · (repeat (with_reducible (first | assumption | exact zR _ | exact zM _ _ _ _ | apply zA | apply zP | apply zD | apply zN | refine zS ?_ (by first | assumption | exact zL _ | exact zK _ _) _)))
        clear hK K Q'
        refine wpAnyM_one 10 _ (by kernel_rfl) rfl rfl (by decide) (fun X1 K Q' hK => ?_)
        go_simp
        refine hK _ _ ?_ ?_
        · (repeat (with_reducible (first | assumption | exact zR _ | exact zM _ _ _ _ | apply zA | apply zP | apply zD | apply zN | refine zS ?_ (by first | assumption | exact zL _ | exact zK _ _) _)))
        clear hK K Q'
      all_goals
        refine wpAnyM_one 11 _ (by kernel_rfl) rfl rfl (by decide) (fun X1 K Q' hK => ?_)
        go_simp
        refine hK _ _ ?_ ?_
        · (repeat (with_reducible (first | assumption | exact zR _ | exact zM _ _ _ _ | apply zA | apply zP | apply zD | apply zN | refine zS ?_ (by first | assumption | exact zL _ | exact zK _ _) _)))
        clear hK K Q'
        refine wpAnyM_done (by kernel_rfl) (fun X2 => ?_) _
        go_wp2_with fail
        go_meet
        (try rw [World.patch_patch])
        exact (HKK.out _).elim fun o h => ⟨o, bsp, rfl, rfl, h.1, h.2⟩
    case rest =>
      obtain ⟨own5, bsp, rfl, rfl, m5, y5⟩ := hcut
      obtain ⟨w5, rfl⟩ : ∃ w5 : World, w5 = wc := ⟨_, rfl⟩
      have M5 := Lib.hid (M4.out.trans (m5.mono (fun x hx => hx.elim)))
      have B5 := Lib.hid (B4.out.keep m5 id)
      have X5 := Lib.hid (X4.out.keep m5 id)
      have S5 := Lib.hid (S4.out.keep m5 id)
      have P5 := Lib.hid (P4.out.keep m5 id)
      have Y5 := Lib.hid y5
      clear m5 y5 HPN HTB X4 S4 P4 T4 s0 s1 s2 sl
      clear a0 a1 a2 a3 a4 a5 a6 a7 a8 al
      obtain ⟨a0, a1, a2, a3, a4, a5, a6, a7, a8, al⟩ := B5.out.c9
      (try simp only [GW.to] at a0 a1 a2 a3 a4 a5 a6 a7 a8 al)
      go_wp2_with fail
      refine (HHN.out ⟨own5, w5⟩).mono ?_
      rintro e w6 ⟨own6, bh, rfl, m6, h6⟩
      have M6 := Lib.hid (M5.out.trans (m6.mono (fun x hx => hx.elim)))
      have B6 := Lib.hid (B5.out.keep m6 id)
      have X6 := Lib.hid (X5.out.keep m6 id)
      have S6 := Lib.hid (S5.out.keep m6 id)
      have P6 := Lib.hid (P5.out.keep m6 id)
      have Y6 := Lib.hid (Y5.out.keep m6 (fun x hx => hx.elim))
      have H6 := Lib.hid h6
      clear m6 h6 HHN X5 S5 P5 Y5
      clear a0 a1 a2 a3 a4 a5 a6 a7 a8 al
      obtain ⟨a0, a1, a2, a3, a4, a5, a6, a7, a8, al⟩ := B6.out.c9
      (try simp only [GW.to] at a0 a1 a2 a3 a4 a5 a6 a7 a8 al)
      go_wp2_with fail
      have HGN := Lib.hid (Int.eq_ofNat_of_zero_le r4)
      go_loopw [62] (fun i wr => ∃ (k : Nat) (own : Nat → Nat), (k : Int) ≤ c.globals ∧ i = .int .i64 k ∧ Hid (Mod (fun x => x = B + 62) ⟨own6, w6⟩ ⟨own, wr⟩) ∧ Hid (MemAt ⟨own, wr⟩ (B + 62) bm (memLaid c k))) (fun i _ => c.globals.toNat - (intOf i).toNat)
      case atStart => exact ⟨0, own6, r4, rfl, Lib.hid (Mod.refl _ _), X6⟩
      case round =>
        obtain ⟨k, own7, hk, rfl, N7, X7⟩ := hrel
        obtain ⟨w7, rfl⟩ : ∃ w7 : World, w7 = wr := ⟨_, rfl⟩
        have M7 := Lib.hid (show Mod (fun _ => False) g ⟨own7, w7⟩ from ((M6.out.mono (S := fun x => x = B + 62) (fun x hx => hx.elim)).trans N7.out).nothing (fun j hj e => by have := HF.out j hj; omega))
        have B7 := Lib.hid (B6.out.keep N7.out (by omega))
        clear a0 a1 a2 a3 a4 a5 a6 a7 a8 al
        obtain ⟨a0, a1, a2, a3, a4, a5, a6, a7, a8, al⟩ := B7.out.c9
        (try simp only [GW.to] at a0 a1 a2 a3 a4 a5 a6 a7 a8 al)
        obtain ⟨gc, hgc⟩ := cAtV_eq c 3 (k : Nat)
        have HG7 := Lib.hid (HGL.out k ⟨own7, w7⟩ M7.out)
        rw [hgc] at HG7
        have HSC := Lib.hid (memLaid_succ c k)
        clear hgc
        generalize cAtV c 3 (k : Nat) = at_ at *
        by_cases hlt : (k : Int) < c.globals
        · go_wp2_with fail
          refine HG7.out.mono ?_
          rintro e w8 ⟨rfl, hX⟩
          obtain ⟨own8, m8⟩ := Mod.ofExt (show Ext w7 w8 from hX) own7
          have N8 := Lib.hid (N7.out.trans (m8.mono (fun x hx => hx.elim)))
          have X8 := Lib.hid (X7.out.keep m8 id)
          clear hX m8 HG7
          go_wp2_with fail
          refine (none_any _).mono ?_
          rintro e w9 ⟨rfl, hX⟩
          unfold wNone
          obtain ⟨own9, m9⟩ := Mod.ofExt (show Ext w8 w9 from hX) own8
          have N9 := Lib.hid (N8.out.trans (m9.mono (fun x hx => hx.elim)))
          have X9 := Lib.hid (X8.out.keep m9 id)
          clear hX m9
          go_wp2_with fail
          refine (mem_lay ⟨own9, w9⟩ (B + 62) bm at_ 0 4607182418800017408 _ X9.out).mono ?_
          rintro e w10 ⟨rfl, own10, m10, x10⟩
          have N10 := Lib.hid (N9.out.trans m10)
          have X10 := Lib.hid x10
          clear m10 x10
          go_wp2_with fail
          go_roundw
          case rel => exact ⟨k + 1, own10, by omega, by go_num, N10, by rw [HSC.out]; exact X10⟩
          case measure => simp [intOf]; omega
        · have hkk : (k : Int) = c.globals := by omega
          have HKK := Lib.hid (show k = c.globals.toNat by omega)
          clear hkk HG7
          go_wp2_with fail
          refine (HCP.out ⟨own7, w7⟩ M7.out).mono ?_
          rintro e w8 ⟨c', rfl, hsm, hca, hX⟩
          unfold Cnf.val
          obtain ⟨own8, m8, hca⟩ : ∃ own8, Mod (fun _ => False) ⟨own7, w7⟩ ⟨own8, w8⟩ ∧ CnfAt ⟨own8, w8⟩ (B + 65) c' := ⟨_, Mod.ext (g := ⟨own7, w7⟩) hX (B + 65), hca⟩
          have HSM := Lib.hid hsm
          have HCA := Lib.hid hca
          have M8 := Lib.hid m8
          clear hsm hca m8 hX
          go_wp2_with fail
          go_ret2
          unfold CoreMade
          rw [if_pos HCKZ.out]
          have m9 := Mod.ext (T := fun _ => False) (g := ⟨own8, w8⟩) (show Ext w8 (w8.alloc (.cells #[.int .i64 c'.frags, .int .i64 c'.spine, .int .i64 c'.globals, .int .i64 c'.threads, .int .i64 c'.locals, .int .i64 c'.cache, .int .i64 c'.stack, .int .i64 c'.low, .slice c'.A c'.shapes.length c'.cap, .pointer (some ⟨bm, 0, none⟩), .pointer (some ⟨bs, 0, none⟩), .pointer (some ⟨bsp, 0, none⟩), .pointer (some ⟨bh, 0, none⟩)] 92)) by (repeat (first | (with_reducible (first | assumption | exact zR _ | exact zM _ _ _ _)) | apply zA | refine zS ?_ (by first | exact zL _ | exact zK _ _ | assumption) _ | apply zP | apply zD | apply zN))) (B + 64)
          have mm := (N7.out.trans (M8.out.mono (S := fun x => x = B + 62) (fun x hx => hx.elim))).trans (m9.mono (S := fun x => x = B + 62) (fun x hx => hx.elim))
          have m0 := M8.out.trans m9
          rw [HKK.out] at X7
          exact ⟨_, _, rfl, (M7.out.trans M8.out).trans m9, bm, bs, bt, bp, bsp, bh, c', ⟨Blk.made (World.row_alloc_new _) (Nat.le_refl _), X7.out.keep m0 id, S6.out.keep mm (by omega), P6.out.keep mm (by omega), Y6.out.keep mm (fun x hx => by omega), H6.out.keep mm (by omega), HCA.out.keep m9 id, HSM.out⟩⟩
end Go.Proofs.YtcpeoflomdhidaaGreat

/-
  Whole numbers as floats, and back: up to 2^53 nothing is lost. No program here.
-/
namespace Go
open Ieee
theorem log_bd {m : Nat} (h : 0 < m) : 2 ^ m.log2 ≤ m ∧ m < 2 ^ (m.log2 + 1) := ⟨Nat.log2_self_le (by omega), Nat.lt_log2_self⟩
theorem read_whole (neg : Bool) {m : Nat} (h0 : 0 < m) (h1 : m < 9007199254740992) :
    double.read (double.write (.number neg m 0)) = .number neg (m * 2 ^ (52 - m.log2)) (m.log2 - 52 : Int) ∧ m.log2 ≤ 52 := by
  obtain ⟨hl, hu⟩ := log_bd h0
  have hL : m.log2 ≤ 52 := by
    refine Nat.le_of_not_lt fun h => ?_
    have : 2 ^ 53 ≤ 2 ^ m.log2 := Nat.pow_le_pow_right (by decide) h
    have e : (2 : Nat) ^ 53 = 9007199254740992 := by decide
    omega
  refine ⟨?_, hL⟩
  generalize hg : m.log2 = L at *
  have hk1 : 2 ^ 52 ≤ m * 2 ^ (52 - L) := by
    have : 2 ^ L * 2 ^ (52 - L) ≤ m * 2 ^ (52 - L) := Nat.mul_le_mul_right _ hl
    rw [← Nat.pow_add, show L + (52 - L) = 52 by omega] at this
    exact this
  have hk2 : m * 2 ^ (52 - L) < 2 ^ 53 := by
    have : m * 2 ^ (52 - L) < 2 ^ (L + 1) * 2 ^ (52 - L) := Nat.mul_lt_mul_of_pos_right hu (Nat.pow_pos (by decide))
    rw [← Nat.pow_add, show L + 1 + (52 - L) = 53 by omega] at this
    exact this
  have hlast : max ((0 : Int) + (L : Int) - (52 : Nat)) double.leastPlace = (L : Int) - 52 := by
    have : double.leastPlace = -1074 := by decide
    rw [this]
    omega
  have hw : double.write (.number neg m 0) = double.word neg ((L + 1022) * 2 ^ 52 + m * 2 ^ (52 - L)) := by
    show double.nearest neg m 0 = _
    unfold Format.nearest
    rw [if_neg (by omega)]
    simp only [show double.fractionBits = 52 from rfl, hg, hlast]
    have e1 : ((L : Int) - 52 - double.leastPlace).toNat = L + 1022 := by
      have : double.leastPlace = -1074 := by decide
      rw [this]; omega
    have e2 : ((0 : Int) - ((L : Int) - 52)).toNat = 52 - L := by omega
    have e3 : ((L : Int) - 52 - 0).toNat = 0 := by omega
    rw [e1, e2, e3]
    have e4 : Toward.even.cut neg (m <<< (52 - L)) 0 = m * 2 ^ (52 - L) := by
      unfold Toward.cut
      simp [Nat.shiftLeft_eq, Nat.mod_one]
    rw [e4]
    have e5 : double.binade = 2 ^ 52 := by decide
    have e6 : double.infRung = 2047 * 2 ^ 52 := by decide
    rw [e5, e6, Nat.min_eq_left]
    omega
  rw [hw]
  generalize hK : m * 2 ^ (52 - L) = K at *
  have e5 : double.binade = 4503599627370496 := by decide
  have e6 : double.infRung = 9218868437227405312 := by decide
  have e7 : double.signWeight = 9223372036854775808 := by decide
  have e8 : double.leastPlace = -1074 := by decide
  have p52 : (2 : Nat) ^ 52 = 4503599627370496 := by decide
  have p53 : (2 : Nat) ^ 53 = 9007199254740992 := by decide
  rw [p52] at *
  rw [p53] at hk2
  have hr1 : (L + 1022) * 4503599627370496 + K < 9218868437227405312 := by omega
  have hmod : double.word neg ((L + 1022) * 4503599627370496 + K) % double.signWeight = (L + 1022) * 4503599627370496 + K := by
    unfold Format.word
    rw [e7]
    split <;> omega
  have hneg : (double.word neg ((L + 1022) * 4503599627370496 + K) / double.signWeight % 2 == 1) = neg := by
    unfold Format.word
    rw [e7]
    cases neg
    · rw [if_neg (by simp), show ((L + 1022) * 4503599627370496 + K) / 9223372036854775808 = 0 by omega]; rfl
    · rw [if_pos rfl, show (9223372036854775808 + ((L + 1022) * 4503599627370496 + K)) / 9223372036854775808 = 1 by omega]; rfl
  unfold Format.read
  simp only
  rw [hmod, hneg, e5, e6, e8, if_neg (by omega), if_pos hr1]
  congr 1
  · omega
  · omega
theorem read_zero : double.read (double.write (.number false 0 0)) = .number false 0 (-1074) := by decide +kernel
theorem read_top (neg : Bool) : double.read (double.write (.number neg 9007199254740992 0)) = .number neg 4503599627370496 1 := by cases neg <;> decide +kernel
structure Fits (n : Int) : Prop where
  lo : -9007199254740992 ≤ n
  hi : n ≤ 9007199254740992
theorem signed_shift (neg : Bool) (m a : Nat) : signed neg m a = (if neg then -1 else 1) * ((m * 2 ^ a : Nat) : Int) := by
  unfold signed
  rw [Nat.shiftLeft_eq]
  cases neg <;> simp
theorem zero_nat (a : Nat) : 0 = (0 : Int).natAbs * a := by rw [Int.natAbs_zero, Nat.zero_mul]
theorem read_fits {n : Int} (h : Fits n) : ∃ (k : Nat) (j : Int), double.read (floatOfInt .f64 n) = .number (decide (n < 0)) k j ∧ -1074 ≤ j ∧ j ≤ 1 ∧ k < 2 ^ 53 ∧ ((j ≤ 0 ∧ k = n.natAbs * 2 ^ (-j).toNat) ∨ (j = 1 ∧ k = 4503599627370496 ∧ n.natAbs = 9007199254740992)) := by
  obtain ⟨h1, h2⟩ := h
  show ∃ k j, double.read (double.write (.number (decide (n < 0)) n.natAbs 0)) = _ ∧ _
  by_cases h0 : n = 0
  · subst h0
    exact ⟨0, -1074, read_zero, by omega, by omega, by decide, Or.inl ⟨by decide, zero_nat _⟩⟩
  · by_cases ht : n.natAbs = 9007199254740992
    · rw [ht]
      exact ⟨_, _, read_top _, by omega, by omega, by decide, Or.inr ⟨rfl, rfl, rfl⟩⟩
    · obtain ⟨r1, r2⟩ := read_whole (decide (n < 0)) (m := n.natAbs) (by omega) (by omega)
      have hu := (log_bd (m := n.natAbs) (by omega)).2
      refine ⟨_, _, r1, by omega, by omega, ?_, Or.inl ⟨by omega, ?_⟩⟩
      · have : n.natAbs * 2 ^ (52 - n.natAbs.log2) < 2 ^ (n.natAbs.log2 + 1) * 2 ^ (52 - n.natAbs.log2) := Nat.mul_lt_mul_of_pos_right hu (Nat.pow_pos (by decide))
        rw [← Nat.pow_add, show n.natAbs.log2 + 1 + (52 - n.natAbs.log2) = 53 by omega] at this
        exact this
      · rw [show (-((n.natAbs.log2 : Int) - 52)).toNat = 52 - n.natAbs.log2 by omega]
theorem toInt_fits {n : Int} (h : Fits n) : (double.read (floatOfInt .f64 n)).toInt .zero = some n := by
  obtain ⟨k, j, hr, hj0, hj1, hk, hc⟩ := read_fits h
  rw [hr]
  unfold Datum.toInt Datum.integral
  simp only
  rw [signed_shift]
  rcases hc with ⟨hj, rfl⟩ | ⟨rfl, rfl, hn⟩
  · have e1 : j.toNat = 0 := by omega
    rw [e1, Nat.shiftLeft_zero]
    have e2 : Toward.zero.cut (decide (n < 0)) (n.natAbs * 2 ^ (-j).toNat) (-j).toNat = n.natAbs := by
      unfold Toward.cut
      simp only [Bool.toNat_false, Nat.add_zero, Nat.shiftLeft_eq, Nat.one_mul]
      by_cases h0 : n.natAbs = 0
      · rw [h0]; simp
      · have hlog : (-j).toNat ≤ (n.natAbs * 2 ^ (-j).toNat).log2 := by
          refine (Nat.le_log2 (by have := Nat.pow_pos (n := (-j).toNat) (show 0 < 2 by decide); exact Nat.ne_of_gt (Nat.mul_pos (by omega) this))).2 ?_
          exact Nat.le_mul_of_pos_left _ (by omega)
        rw [Nat.min_eq_left (by omega)]
        exact Nat.mul_div_cancel _ (Nat.pow_pos (by decide))
    rw [e2]
    by_cases hs : n < 0
    · rw [decide_eq_true hs]; simp; omega
    · rw [decide_eq_false hs]; simp; omega
  · have e2 : Toward.zero.cut (decide (n < 0)) (4503599627370496 <<< (1 : Int).toNat) (-(1 : Int)).toNat = 9007199254740992 := by
      cases (decide (n < 0)) <;> decide +kernel
    rw [e2]
    by_cases hs : n < 0
    · rw [decide_eq_true hs]; simp; omega
    · rw [decide_eq_false hs]; simp; omega
theorem floatToInt_fits {n : Int} (h : Fits n) : floatToIntVal .f64 (floatOfInt .f64 n) .i64 = some n := by
  unfold floatToIntVal
  rw [show (FloatKind.decode .f64 (floatOfInt .f64 n)).toInt .zero = some n from toInt_fits h]
  simp only
  rw [if_pos]
  have e1 : IntKind.min .i64 = -9223372036854775808 := by decide
  have e2 : IntKind.max .i64 = 9223372036854775807 := by decide
  have := h.lo
  have := h.hi
  rw [e1, e2]
  omega
theorem scaled {n : Int} {k : Nat} {j base : Int} (hb : base ≤ j) (hb0 : base ≤ 0) (hc : (j ≤ 0 ∧ k = n.natAbs * 2 ^ (-j).toNat) ∨ (j = 1 ∧ k = 4503599627370496 ∧ n.natAbs = 9007199254740992)) :
    signed (decide (n < 0)) k (j - base).toNat = n * ((2 ^ (-base).toNat : Nat) : Int) := by
  have hk : k * 2 ^ (j - base).toNat = n.natAbs * 2 ^ (-base).toNat := by
    rcases hc with ⟨hj, rfl⟩ | ⟨rfl, rfl, hn⟩
    · rw [Nat.mul_assoc, ← Nat.pow_add, show (-j).toNat + (j - base).toNat = (-base).toNat by omega]
    · rw [hn, show (1 - base).toNat = (-base).toNat + 1 by omega, Nat.pow_succ]
      omega
  rw [signed_shift, hk, Int.natCast_mul, ← Int.mul_assoc]
  congr 1
  by_cases hs : n < 0
  · rw [decide_eq_true hs, if_pos rfl]; omega
  · rw [decide_eq_false hs, if_neg (by simp)]; omega
theorem cmp_lt {a b : Int} (h : a < b) : compare a b = .lt := by
  show compareOfLessAndEq a b = _
  unfold compareOfLessAndEq
  rw [if_pos h]
theorem cmp_eq {a b : Int} (h : a = b) : compare a b = .eq := by
  show compareOfLessAndEq a b = _
  unfold compareOfLessAndEq
  rw [if_neg (by omega), if_pos h]
theorem cmp_gt {a b : Int} (h : b < a) : compare a b = .gt := by
  show compareOfLessAndEq a b = _
  unfold compareOfLessAndEq
  rw [if_neg (by omega), if_neg (by omega)]
theorem compare_scale (a b : Int) {c : Nat} (hc : 0 < c) : compare (a * (c : Int)) (b * (c : Int)) = compare a b := by
  have hc' : (0 : Int) < c := by omega
  rcases Int.lt_trichotomy a b with h | h | h
  · rw [cmp_lt h, cmp_lt (Int.mul_lt_mul_of_pos_right h hc')]
  · subst h
    rw [cmp_eq rfl, cmp_eq rfl]
  · rw [cmp_gt h, cmp_gt (Int.mul_lt_mul_of_pos_right h hc')]
theorem order_fits {a b : Int} (ha : Fits a) (hb : Fits b) : double.order (floatOfInt .f64 a) (floatOfInt .f64 b) = some (compare a b) := by
  obtain ⟨k1, j1, hr1, l1, u1, -, c1⟩ := read_fits ha
  obtain ⟨k2, j2, hr2, l2, u2, -, c2⟩ := read_fits hb
  unfold Format.order
  rw [hr1, hr2]
  show some (compare (signed (decide (a < 0)) k1 (j1 - min j1 j2).toNat) (signed (decide (b < 0)) k2 (j2 - min j1 j2).toNat)) = _
  by_cases ht : j1 = 1 ∧ j2 = 1
  · obtain ⟨rfl, rfl⟩ := ht
    rcases c1 with ⟨h, -⟩ | ⟨-, rfl, h1⟩
    · omega
    rcases c2 with ⟨h, -⟩ | ⟨-, rfl, h2⟩
    · omega
    rw [signed_shift, signed_shift]
    have e : ((1 : Int) - min 1 1).toNat = 0 := by decide
    rw [e]
    by_cases s1 : a < 0 <;> by_cases s2 : b < 0
    · rw [decide_eq_true s1, decide_eq_true s2, show a = b by omega]
      rw [cmp_eq rfl, cmp_eq rfl]
    · rw [decide_eq_true s1, decide_eq_false s2, cmp_lt (show a < b by omega)]
      decide
    · rw [decide_eq_false s1, decide_eq_true s2, cmp_gt (show b < a by omega)]
      decide
    · rw [decide_eq_false s1, decide_eq_false s2, show a = b by omega]
      rw [cmp_eq rfl, cmp_eq rfl]
  · rw [scaled (Int.min_le_left _ _) (by omega) c1, scaled (Int.min_le_right _ _) (by omega) c2, compare_scale _ _ (Nat.pow_pos (by decide))]
theorem order_self {a : Int} (ha : Fits a) : (FloatKind.format .f64).order (floatOfInt .f64 a) (floatOfInt .f64 a) = some .eq := (order_fits ha ha).trans (by rw [cmp_eq rfl])
theorem order_low {a : Int} (ha : Fits a) : ((FloatKind.format .f64).order (floatOfInt .f64 a) 14069245235905429504 == some .gt || (FloatKind.format .f64).order (floatOfInt .f64 a) 14069245235905429504 == some .eq) = true := by
  have e : (14069245235905429504 : Nat) = floatOfInt .f64 (-9007199254740992) := by decide +kernel
  have h := order_fits ha (b := -9007199254740992) ⟨by omega, by omega⟩
  rw [e, show (FloatKind.format .f64) = double from rfl, h]
  have := ha.lo
  rcases Int.lt_or_eq_of_le this with hl | hl
  · rw [cmp_gt hl]; rfl
  · rw [cmp_eq hl.symm]; rfl
theorem order_high {a : Int} (ha : Fits a) : ((FloatKind.format .f64).order (floatOfInt .f64 a) 4845873199050653696 == some .lt || (FloatKind.format .f64).order (floatOfInt .f64 a) 4845873199050653696 == some .eq) = true := by
  have e : (4845873199050653696 : Nat) = floatOfInt .f64 9007199254740992 := by decide +kernel
  have h := order_fits ha (b := 9007199254740992) ⟨by omega, by omega⟩
  rw [e, show (FloatKind.format .f64) = double from rfl, h]
  have := ha.hi
  rcases Int.lt_or_eq_of_le this with hl | hl
  · rw [cmp_lt hl]; rfl
  · rw [cmp_eq hl]; rfl
end Go

/-
  Merged: XNum, XNumG.
-/
/-
  num.part, Bits, Same, Int; word.Index, Tell, Is.
-/
namespace Go.Proofs.YtcpeoflomdhidaaGreat
open Go Go.RowKit
set_option linter.unusedVariables false
set_option linter.unusedSimpArgs false
theorem f64bitsN (b : Nat) (w : World) : (callFunc 318 #[.float .f64 b]).run Tryz.prog w = .ok (.value (.int .u64 b)) w :=
  run_callFunc_extern (e := Extern.MathFloatBits.float64bits) Tryz.func318 (by kernel_rfl) (by kernel_rfl) (by kernel_rfl) (by kernel_rfl) _ _
def partF (b : Nat) : Int := if (FloatKind.format .f64).order b b = some .eq then b else 9221120237041090560
set_option maxRecDepth 100000 in
theorem npart_any (b : Nat) (w : World) : Calls Tryz.prog 309 #[.float .f64 b] w fun e w' => e = .returned (.int .u64 (partF b)) ∧ w = w' := by
  have hf := f64bitsN
  by_cases h : (FloatKind.format .f64).order b b = some .eq
  · have HV := Lib.hid (show partF b = b from if_pos h)
    have hb : ((FloatKind.format .f64).order b b != some .eq) = false := by simp [h]
    clear h
    go_enter Tryz.func309, Tryz.ntmps309
    go_wp2
    go_ret
    exact ⟨by rw [HV.out]; rfl, rfl⟩
  · have HV := Lib.hid (show partF b = 9221120237041090560 from if_neg h)
    have hb : ((FloatKind.format .f64).order b b != some .eq) = true := by simp [h]
    clear h
    go_enter Tryz.func309, Tryz.ntmps309
    go_wp2
    go_ret
    exact ⟨by rw [HV.out]; rfl, rfl⟩
theorem nbits_any (x y : Nat) (w : World) : Calls Tryz.prog 292 #[.complex .f64 x y] w fun e w' => e = .returned (.tuple #[.int .u64 (partF x), .int .u64 (partF y)]) ∧ w = w' := by
  have H := Lib.hid (fun b w => npart_any b w)
  go_enter Tryz.func292, Tryz.ntmps292
  go_wp2_with fail
  refine (H.out _ _).mono ?_
  rintro e w1 ⟨rfl, rfl⟩
  go_wp2_with fail
  refine (H.out _ _).mono ?_
  rintro e w1 ⟨rfl, rfl⟩
  go_wp2_with fail
  go_ret2
  exact ⟨rfl, rfl⟩
def sameF (p q : Nat × Nat) : Bool := partF p.1 == partF q.1 && partF p.2 == partF q.2
theorem sameF_self (p : Nat × Nat) : sameF p p = true := by simp [sameF]
theorem nsame_any (p q : Nat × Nat) (w : World) : Calls Tryz.prog 252 #[.complex .f64 p.1 p.2, .complex .f64 q.1 q.2] w fun e w' => e = .returned (.bool (sameF p q)) ∧ w = w' := by
  have H := Lib.hid (fun x y w => nbits_any x y w)
  have HV := Lib.hid (show sameF p q = (partF p.1 == partF q.1 && partF p.2 == partF q.2) from rfl)
  obtain ⟨p1, p2⟩ := p
  obtain ⟨q1, q2⟩ := q
  simp only at HV ⊢
  have H1 := Lib.hid (H.out p1 p2)
  have H2 := Lib.hid (H.out q1 q2)
  clear H
  generalize partF p1 = x1 at *
  generalize partF p2 = x2 at *
  generalize partF q1 = y1 at *
  generalize partF q2 = y2 at *
  cases hb : (x1 == y1)
  · have HV2 := Lib.hid (show sameF (p1, p2) (q1, q2) = false by rw [HV.out, hb]; rfl)
    go_enter Tryz.func252, Tryz.ntmps252
    go_wp2_with fail
    refine (H1.out _).mono ?_
    rintro e w1 ⟨rfl, rfl⟩
    go_wp2_with fail
    refine (H2.out _).mono ?_
    rintro e w1 ⟨rfl, rfl⟩
    go_wp2_with fail
    go_ret
    exact ⟨by rw [HV2.out]; rfl, rfl⟩
  · have HV2 := Lib.hid (show sameF (p1, p2) (q1, q2) = (x2 == y2) by rw [HV.out, hb]; rfl)
    go_enter Tryz.func252, Tryz.ntmps252
    go_wp2_with fail
    refine (H1.out _).mono ?_
    rintro e w1 ⟨rfl, rfl⟩
    go_wp2_with fail
    refine (H2.out _).mono ?_
    rintro e w1 ⟨rfl, rfl⟩
    go_wp2_with fail
    go_ret
    exact ⟨by rw [HV2.out]; rfl, rfl⟩
theorem nsame_self (a b : Nat) (w : World) : Calls Tryz.prog 252 #[.complex .f64 a b, .complex .f64 a b] w (Gives (.bool true) w) :=
  (nsame_any (a, b) (a, b) w).mono fun e w' ⟨h1, h2⟩ => ⟨by rw [h1, sameF_self], by rw [← h2]; exact Ext.refl _⟩
theorem wWhole_fits {n : Int} (hn : Fits n) : wWhole n = .complex .f64 (floatOfInt .f64 n) 0 := by
  have := hn.lo
  have := hn.hi
  unfold wWhole
  rw [if_neg (by omega)]
set_option maxRecDepth 100000 in
theorem nint_fits (n : Int) (hn : Fits n) (w : World) : Calls Tryz.prog 242 #[.complex .f64 (floatOfInt .f64 n) 0] w (Gives (.tuple #[.int .i64 n, .bool true]) w) := by
  have hcv : ∀ w, (convert 257 3 (.float .f64 (floatOfInt .f64 n))).run Tryz.prog w = .ok (.int .i64 n) w := fun w => run_convert_float_int w _ _ _ _ _ n (by kernel_rfl) (by kernel_rfl) (floatToInt_fits hn)
  have hlo := order_low hn
  have hhi := order_high hn
  have HWH := Lib.hid (fun w => wWhole_fits hn ▸ whole_any n w)
  generalize floatOfInt .f64 n = b at *
  have HSM := Lib.hid (fun w => nsame_self b 0 w)
  generalize hq : (FloatKind.format .f64).order b 14069245235905429504 = q1 at hlo
  generalize hr : (FloatKind.format .f64).order b 4845873199050653696 = q2 at hhi
  have hlo' : (q1 == some .gt) = true ∨ (q1 == some .eq) = true := by simpa using hlo
  have hhi' : (q2 == some .lt) = true ∨ (q2 == some .eq) = true := by simpa using hhi
  obtain ⟨o1, rfl⟩ : ∃ o : Ordering, q1 = some o := by
    cases q1 with
    | none => exact absurd hlo (by decide)
    | some o => exact ⟨o, rfl⟩
  obtain ⟨o2, rfl⟩ : ∃ o : Ordering, q2 = some o := by
    cases q2 with
    | none => exact absurd hhi (by decide)
    | some o => exact ⟨o, rfl⟩
  clear hlo' hhi'
  cases o1 <;> first | exact absurd hlo (by decide) | skip
  all_goals
    cases o2 <;> first | exact absurd hhi (by decide) | skip
    all_goals
      clear hlo hhi
      go_enter Tryz.func242, Tryz.ntmps242
      go_wp2_with fail
      refine (HWH.out _).mono ?_
      rintro e w1 ⟨rfl, X1, rfl⟩
      go_wp2_with fail
      refine (HSM.out _).mono ?_
      rintro e w1 ⟨rfl, X2, rfl⟩
      go_wp2_with fail
      go_ret2
      exact Gives.mk rfl (by (repeat (first | (with_reducible (first | assumption | exact zR _ | exact zM _ _ _ _)) | apply zA | refine zS ?_ (by first | exact zL _ | exact zK _ _ | assumption) _ | apply zP | apply zD | apply zN)))
end Go.Proofs.YtcpeoflomdhidaaGreat
/-
  num.Int, word.Index, Is, Tell of any word.
-/
namespace Go
open Ieee
theorem cut_zero (neg : Bool) (n d : Nat) : Toward.zero.cut neg n d = n / 2 ^ d := by
  unfold Toward.cut
  simp only [Bool.toNat_false, Nat.add_zero, Nat.shiftLeft_eq, Nat.one_mul]
  by_cases h : d ≤ n.log2 + 2
  · rw [Nat.min_eq_left h]
  · have h2 : n < 2 ^ (n.log2 + 1) := Nat.lt_log2_self
    rw [Nat.min_eq_right (by omega), Nat.div_eq_of_lt, Nat.div_eq_of_lt]
    · exact Nat.lt_of_lt_of_le h2 (Nat.pow_le_pow_right (by decide) (by omega))
    · exact Nat.lt_of_lt_of_le h2 (Nat.pow_le_pow_right (by decide) (by omega))
theorem signed_fits {s : Bool} {N : Nat} (h : N ≤ 9007199254740992) : Fits (signed s N 0) := by
  rw [signed_shift]
  rw [Nat.pow_zero, Nat.mul_one]
  cases s
  · exact ⟨by rw [if_neg (by decide)]; omega, by rw [if_neg (by decide)]; omega⟩
  · exact ⟨by rw [if_pos rfl]; omega, by rw [if_pos rfl]; omega⟩
theorem range_int {x : Nat} (h1 : ((FloatKind.format .f64).order x 14069245235905429504 == some .gt || (FloatKind.format .f64).order x 14069245235905429504 == some .eq) = true) (h2 : ((FloatKind.format .f64).order x 4845873199050653696 == some .lt || (FloatKind.format .f64).order x 4845873199050653696 == some .eq) = true) : ∃ n, Fits n ∧ floatToIntVal .f64 x .i64 = some n := by
  have e1 : double.read 14069245235905429504 = .number true 4503599627370496 1 := by decide +kernel
  have e2 : double.read 4845873199050653696 = .number false 4503599627370496 1 := by decide +kernel
  rw [show (FloatKind.format .f64) = double from rfl] at h1 h2
  unfold Format.order at h1 h2
  rw [e1] at h1
  rw [e2] at h2
  have key : ∃ n, Fits n ∧ (double.read x).toInt .zero = some n := by
    generalize double.read x = d at *
    cases d with
    | nan s t => simp [Datum.order] at h1
    | infinity s => cases s <;> simp [Datum.order] at h1 h2
    | number s m i =>
      have q1 : signed true 4503599627370496 (1 - min i 1).toNat ≤ signed s m (i - min i 1).toNat := by
        refine Int.not_lt.1 fun hlt => ?_
        have h3 := cmp_lt hlt
        simp only [Datum.order] at h1
        rw [h3] at h1
        exact absurd h1 (by decide)
      have q2 : signed s m (i - min i 1).toNat ≤ signed false 4503599627370496 (1 - min i 1).toNat := by
        refine Int.not_lt.1 fun hlt => ?_
        have h3 := cmp_gt hlt
        simp only [Datum.order] at h2
        rw [h3] at h2
        exact absurd h2 (by decide)
      rw [signed_shift, signed_shift] at q1 q2
      have hA : m * 2 ^ (i - min i 1).toNat ≤ 4503599627370496 * 2 ^ (1 - min i 1).toNat := by
        generalize m * 2 ^ (i - min i 1).toNat = A at *
        generalize 4503599627370496 * 2 ^ (1 - min i 1).toNat = B at *
        cases s
        · simp at q2; omega
        · simp at q1; omega
      clear q1 q2 h1 h2 e1 e2
      refine ⟨signed s ((m <<< i.toNat) / 2 ^ (-i).toNat) 0, signed_fits ?_, by unfold Datum.toInt Datum.integral; simp only; rw [cut_zero]⟩
      rw [Nat.shiftLeft_eq]
      by_cases hi : i ≤ 0
      · rw [Int.min_eq_left (by omega), show (i - i).toNat = 0 by omega, show (1 - i).toNat = (-i).toNat + 1 by omega, Nat.pow_zero, Nat.mul_one, Nat.pow_succ] at hA
        rw [show i.toNat = 0 by omega, Nat.pow_zero, Nat.mul_one]
        refine Nat.div_le_of_le_mul ?_
        rw [Nat.mul_comm]
        omega
      · rw [Int.min_eq_right (by omega), show ((1 : Int) - 1).toNat = 0 by decide, Nat.pow_zero, Nat.mul_one] at hA
        rw [show (-i).toNat = 0 by omega, Nat.pow_zero, Nat.div_one, show i.toNat = (i - 1).toNat + 1 by omega, Nat.pow_succ, ← Nat.mul_assoc]
        omega
  obtain ⟨n, hn, hk⟩ := key
  refine ⟨n, hn, ?_⟩
  unfold floatToIntVal
  rw [show (FloatKind.decode .f64 x).toInt .zero = some n from hk]
  simp only
  rw [if_pos]
  have e1 : IntKind.min .i64 = -9223372036854775808 := by decide
  have e2 : IntKind.max .i64 = 9223372036854775807 := by decide
  have := hn.lo
  have := hn.hi
  rw [e1, e2]
  omega
def wInt (p : Nat × Nat) : Option Int := match floatToIntVal .f64 p.1 .i64 with
  | some n => if -9007199254740992 ≤ n ∧ n ≤ 9007199254740992 ∧ p.1 = floatOfInt .f64 n ∧ p.2 = 0 then some n else none
  | none => none
theorem wInt_fits {n : Int} (hn : Fits n) : wInt (floatOfInt .f64 n, 0) = some n := by
  unfold wInt
  rw [floatToInt_fits hn]
  simp only
  rw [if_pos ⟨hn.lo, hn.hi, trivial, trivial⟩]
theorem wInt_some {p : Nat × Nat} {n : Int} (h : wInt p = some n) : Fits n ∧ p = (floatOfInt .f64 n, 0) := by
  unfold wInt at h
  split at h
  · split at h
    · rename_i hc
      injection h with h
      subst h
      exact ⟨⟨hc.1, hc.2.1⟩, Prod.ext hc.2.2.1 hc.2.2.2⟩
    · cases h
  · cases h
theorem wInt_none {p : Nat × Nat} (h : wInt p = none) {n : Int} (hn : Fits n) : p ≠ (floatOfInt .f64 n, 0) := fun e => by
  rw [e, wInt_fits hn] at h
  cases h
def wIndex (p : Nat × Nat) : Option Int := match wInt (p.1, 0) with
  | some n => if 1 ≤ n ∧ n ≤ 1099511627777 ∧ p.2 = 4607182418800017408 then some (n - 1) else none
  | none => none
def wIs (p : Nat × Nat) : Bool := (wIndex p).isSome || decide (p = (0, 4607182418800017408))
def wTell (p : Nat × Nat) : Option (Int × Int) := match wInt (p.1, 0), wInt (p.2, 0) with
  | some k, some m => if 0 ≤ k ∧ k ≤ 1099511627776 ∧ 0 ≤ m ∧ m ≤ 1099511627776 then some (k, m) else none
  | _, _ => none
def optV (o : Option Int) : Value := .tuple #[.int .i64 (o.getD 0), .bool o.isSome]
def tellV (o : Option (Int × Int)) : Value := .tuple #[.int .i64 ((o.map Prod.fst).getD 0), .int .i64 ((o.map Prod.snd).getD 0), .bool o.isSome]
end Go
namespace Go.Proofs.YtcpeoflomdhidaaGreat
open Go Go.RowKit
set_option linter.unusedVariables false
set_option linter.unusedSimpArgs false
set_option maxRecDepth 100000
set_option maxHeartbeats 1000000
theorem partF_fits {n : Int} (h : Fits n) : partF (floatOfInt .f64 n) = floatOfInt .f64 n := if_pos (order_self h)
theorem partF_nan_ne {n : Int} (h : Fits n) : floatOfInt .f64 n ≠ 9221120237041090560 := fun e => by
  have h1 := order_self h
  rw [e] at h1
  exact absurd h1 (by decide +kernel)
theorem partF_eq {x : Nat} {n : Int} (h : Fits n) : (partF x == partF (floatOfInt .f64 n)) = decide (x = floatOfInt .f64 n) := by
  rw [partF_fits h, Bool.eq_iff_iff, beq_iff_eq, decide_eq_true_iff]
  unfold partF
  split
  · omega
  · rename_i hx
    constructor
    · intro e
      exact absurd (show floatOfInt .f64 n = 9221120237041090560 by omega) (partF_nan_ne h)
    · intro e
      exact absurd (by rw [e]; exact order_self h) hx
theorem sameF_fits {p : Nat × Nat} {a b : Int} (ha : Fits a) (hb : Fits b) : sameF p (floatOfInt .f64 a, floatOfInt .f64 b) = decide (p = (floatOfInt .f64 a, floatOfInt .f64 b)) := by
  unfold sameF
  rw [partF_eq ha, partF_eq hb, Bool.eq_iff_iff, Bool.and_eq_true, decide_eq_true_iff, decide_eq_true_iff, decide_eq_true_iff]
  exact ⟨fun h => Prod.ext h.1 h.2, fun h => ⟨congrArg Prod.fst h, congrArg Prod.snd h⟩⟩
theorem nint_any (p : Nat × Nat) (w : World) : Calls Tryz.prog 242 #[.complex .f64 p.1 p.2] w (Gives (optV (wInt p)) w) := by
  cases h : wInt p with
  | some n =>
    obtain ⟨hn, rfl⟩ := wInt_some h
    exact nint_fits n hn w
  | none =>
    have HV := Lib.hid (show optV none = .tuple #[.int .i64 0, .bool false] from rfl)
    have hcv : ((FloatKind.format .f64).order p.1 14069245235905429504 == some .gt || (FloatKind.format .f64).order p.1 14069245235905429504 == some .eq) = true → ((FloatKind.format .f64).order p.1 4845873199050653696 == some .lt || (FloatKind.format .f64).order p.1 4845873199050653696 == some .eq) = true →
        ∃ n, (∀ w, (convert 257 3 (.float .f64 p.1)).run Tryz.prog w = .ok (.int .i64 n) w) ∧ (∀ w, Calls Tryz.prog 243 #[.int .i64 n] w (Gives (.complex .f64 (floatOfInt .f64 n) 0) w)) ∧ ∀ w, Calls Tryz.prog 252 #[.complex .f64 p.1 p.2, .complex .f64 (floatOfInt .f64 n) 0] w (fun e w' => e = .returned (.bool false) ∧ w = w') := fun h1 h2 => by
      obtain ⟨n, hn, hk⟩ := range_int h1 h2
      refine ⟨n, fun w => run_convert_float_int w _ _ _ _ _ n (by kernel_rfl) (by kernel_rfl) hk, fun w => wWhole_fits hn ▸ whole_any n w, fun w => ?_⟩
      have h3 := nsame_any p (floatOfInt .f64 n, 0) w
      have h4 : sameF p (floatOfInt .f64 n, 0) = false := by
        have h5 := sameF_fits (p := p) hn (b := 0) ⟨by omega, by omega⟩
        rw [floatOf_zero] at h5
        rw [h5]
        exact decide_eq_false (wInt_none h hn)
      rw [h4] at h3
      exact h3
    have HCV := Lib.hid hcv
    obtain ⟨x, y⟩ := p
    simp only at HCV ⊢
    clear hcv h
    generalize hq : (FloatKind.format .f64).order x 14069245235905429504 = q1 at HCV
    generalize hr : (FloatKind.format .f64).order x 4845873199050653696 = q2 at HCV
    rcases q1 with _ | (_ | _ | _)
    all_goals
      rcases q2 with _ | (_ | _ | _)
      all_goals
        first
          | (obtain ⟨n, h1, h2, h3⟩ := HCV.out (by decide) (by decide)
             have H2 := Lib.hid h2
             have H3 := Lib.hid h3
             clear h2 h3 HCV
             go_enter Tryz.func242, Tryz.ntmps242
             go_wp2_with fail
             refine (H2.out _).mono ?_
             rintro e w1 ⟨rfl, X1, rfl⟩
             go_wp2_with fail
             refine (H3.out _).mono ?_
             rintro e w1 ⟨rfl, rfl⟩
             go_wp2_with fail
             go_ret2
             exact Gives.mk rfl (by (repeat (first | (with_reducible (first | assumption | exact zR _ | exact zM _ _ _ _)) | apply zA | refine zS ?_ (by first | exact zL _ | exact zK _ _ | assumption) _ | apply zP | apply zD | apply zN))))
          | (clear HCV
             go_enter Tryz.func242, Tryz.ntmps242
             go_wp2_with fail
             go_ret2
             exact Gives.mk rfl (by (repeat (first | (with_reducible (first | assumption | exact zR _ | exact zM _ _ _ _)) | apply zA | refine zS ?_ (by first | exact zL _ | exact zK _ _ | assumption) _ | apply zP | apply zD | apply zN))))
theorem index_any_w (p : Nat × Nat) (w : World) : Calls Tryz.prog 184 #[.complex .f64 p.1 p.2] w (Gives (optV (wIndex p)) w) := by
  have HI := Lib.hid (fun w => nint_any (p.1, 0) w)
  cases h : wInt (p.1, 0) with
  | none =>
    have HV := Lib.hid (show wIndex p = none by unfold wIndex; rw [h])
    rw [h] at HI
    rw [HV.out]
    unfold optV at HI ⊢
    obtain ⟨x, y⟩ := p
    clear h HV
    go_enter Tryz.func184, Tryz.ntmps184
    go_wp2_with fail
    refine (HI.out _).mono ?_
    rintro e w1 ⟨rfl, X1, rfl⟩
    go_wp2_with fail
    go_ret2
    exact Gives.mk rfl (by (repeat (first | (with_reducible (first | assumption | exact zR _ | exact zM _ _ _ _)) | apply zA | refine zS ?_ (by first | exact zL _ | exact zK _ _ | assumption) _ | apply zP | apply zD | apply zN)))
  | some n =>
    rw [h] at HI
    unfold optV at HI
    by_cases h1 : 1 ≤ n
    · by_cases h2 : n ≤ 1099511627777
      · have hp : p.1 = floatOfInt .f64 n := congrArg Prod.fst (wInt_some h).2
        have HR := Lib.hid (fun w => (show Calls Tryz.prog 240 #[.int .i64 (n - 1)] w (Gives (.complex .f64 p.1 4607182418800017408) w) from (show wRef (n - 1) = Value.complex .f64 p.1 4607182418800017408 by unfold wRef; rw [if_neg (by omega), Int.sub_add_cancel, hp]) ▸ ref_any (n - 1) w))
        have HS := Lib.hid (fun w => nsame_any p (p.1, 4607182418800017408) w)
        have hsf : sameF p (p.1, 4607182418800017408) = decide (p.2 = 4607182418800017408) := by
          have h5 := sameF_fits (p := p) (wInt_some h).1 (b := 1) ⟨by omega, by omega⟩
          rw [floatOf_one, ← hp] at h5
          rw [h5, Bool.eq_iff_iff, decide_eq_true_iff, decide_eq_true_iff]
          exact ⟨fun e => congrArg Prod.snd e, fun e => Prod.ext rfl e⟩
        rw [hsf] at HS
        by_cases h3 : p.2 = 4607182418800017408
        · have HV := Lib.hid (show optV (wIndex p) = .tuple #[.int .i64 (n - 1), .bool true] by unfold wIndex; rw [h]; simp only; rw [if_pos ⟨h1, h2, h3⟩]; rfl)
          rw [decide_eq_true h3] at HS
          rw [HV.out]
          obtain ⟨x, y⟩ := p
          have e1 := IntWalk.i64_in (n - 1) (by omega)
          simp only at HR HS HI ⊢
          clear h h3 hp hsf HV
          go_enter Tryz.func184, Tryz.ntmps184
          go_wp2_with fail
          refine (HI.out _).mono ?_
          rintro e w1 ⟨rfl, X1, rfl⟩
          go_wp2_with fail
          refine (HR.out _).mono ?_
          rintro e w1 ⟨rfl, X2, rfl⟩
          go_wp2_with fail
          refine (HS.out _).mono ?_
          rintro e w1 ⟨rfl, rfl⟩
          go_wp2_with fail
          go_ret2
          exact Gives.mk rfl (by (repeat (first | (with_reducible (first | assumption | exact zR _ | exact zM _ _ _ _)) | apply zA | refine zS ?_ (by first | exact zL _ | exact zK _ _ | assumption) _ | apply zP | apply zD | apply zN)))
        · have HV := Lib.hid (show optV (wIndex p) = .tuple #[.int .i64 0, .bool false] by unfold wIndex; rw [h]; simp only; rw [if_neg (fun hc => h3 hc.2.2)]; rfl)
          rw [decide_eq_false h3] at HS
          rw [HV.out]
          obtain ⟨x, y⟩ := p
          have e1 := IntWalk.i64_in (n - 1) (by omega)
          simp only at HR HS HI ⊢
          clear h h3 hp hsf HV
          go_enter Tryz.func184, Tryz.ntmps184
          go_wp2_with fail
          refine (HI.out _).mono ?_
          rintro e w1 ⟨rfl, X1, rfl⟩
          go_wp2_with fail
          refine (HR.out _).mono ?_
          rintro e w1 ⟨rfl, X2, rfl⟩
          go_wp2_with fail
          refine (HS.out _).mono ?_
          rintro e w1 ⟨rfl, rfl⟩
          go_wp2_with fail
          go_ret2
          exact Gives.mk rfl (by (repeat (first | (with_reducible (first | assumption | exact zR _ | exact zM _ _ _ _)) | apply zA | refine zS ?_ (by first | exact zL _ | exact zK _ _ | assumption) _ | apply zP | apply zD | apply zN)))
      · have HV := Lib.hid (show optV (wIndex p) = .tuple #[.int .i64 0, .bool false] by unfold wIndex; rw [h]; simp only; rw [if_neg (fun hc => h2 hc.2.1)]; rfl)
        rw [HV.out]
        obtain ⟨x, y⟩ := p
        have h4 : 1099511627777 < n := by omega
        clear h HV h2
        go_enter Tryz.func184, Tryz.ntmps184
        go_wp2_with fail
        refine (HI.out _).mono ?_
        rintro e w1 ⟨rfl, X1, rfl⟩
        go_wp2_with fail
        go_ret2
        exact Gives.mk rfl (by (repeat (first | (with_reducible (first | assumption | exact zR _ | exact zM _ _ _ _)) | apply zA | refine zS ?_ (by first | exact zL _ | exact zK _ _ | assumption) _ | apply zP | apply zD | apply zN)))
    · have HV := Lib.hid (show optV (wIndex p) = .tuple #[.int .i64 0, .bool false] by unfold wIndex; rw [h]; simp only; rw [if_neg (fun hc => h1 hc.1)]; rfl)
      rw [HV.out]
      obtain ⟨x, y⟩ := p
      have h4 : n < 1 := by omega
      clear h HV h1
      go_enter Tryz.func184, Tryz.ntmps184
      go_wp2_with fail
      refine (HI.out _).mono ?_
      rintro e w1 ⟨rfl, X1, rfl⟩
      go_wp2_with fail
      go_ret2
      exact Gives.mk rfl (by (repeat (first | (with_reducible (first | assumption | exact zR _ | exact zM _ _ _ _)) | apply zA | refine zS ?_ (by first | exact zL _ | exact zK _ _ | assumption) _ | apply zP | apply zD | apply zN)))
end Go.Proofs.YtcpeoflomdhidaaGreat

