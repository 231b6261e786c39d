/-
  core: its state; New.
-/
import Derived.Test.YthdijbkcjmeilaaGreatShade
import Derived.Test.YthdijbkcjmeilaaGreatSpaceD
import Derived.Test.YthdijbkcjmeilaaGreatArea2
import Derived.Test.YthdijbkcjmeilaaGreatShape2
import Derived.Test.YthdijbkcjmeilaaGreatMemO
import Derived.Deep.DeepCutAuto
namespace Go
open Go.RowKit
theorem Mod.nothing {T : Nat → Prop} {g g' : GW} (h : Mod T g g') (hn : ∀ k, k < g.w.heap.size → ¬ T (g.own k)) : Mod (fun _ => False) g g' := ⟨h.os, h.tape, h.output, h.size, h.own, fun k hk _ => h.block k hk (hn k hk)⟩
def instC (B : Nat) (x : Nat) : Prop := B ≤ x ∧ x < B + 70
structure CoreS where
  c : Cnf
  mem : MemS
  sp : SpaceS
  hand : HandS
  pile : PileS
  n : Int
end Go
namespace Go.Proofs.YthdijbkcjmeilaaGreat
open Go Go.RowKit
set_option linter.unusedVariables false
set_option linter.unnecessarySimpa false
set_option linter.unusedSimpArgs false
set_option maxHeartbeats 4000000
theorem SpaceAt.keep {g g' : GW} {B b bt : Nat} {S : SpaceS} {T : Nat → Prop} (h : SpaceAt g B b bt S) (m : Mod T g g') (hT : ∀ x, T x → x < B ∨ B + 60 ≤ x) : SpaceAt g' B b bt S := by
  obtain ⟨bp, bk, bl, A, cs, cm, bs, h⟩ := h
  exact ⟨bp, bk, bl, A, cs, cm, bs, h.keep m hT⟩
structure CoreIn (g : GW) (B b : Nat) (K : CoreS) (bm bs bt bp bsp bh : Nat) (cm : Cnf) : Prop where
  blk : Blk g (B + 64) b 209 [.int .i64 cm.frags, .int .i64 cm.spine, .int .i64 cm.globals, .int .i64 cm.threads, .int .i64 cm.locals, .int .i64 cm.cache, .int .i64 cm.stack, .int .i64 cm.low, .slice cm.A cm.shapes.length cm.cap, .pointer (some ⟨bm, 0, none⟩), .pointer (some ⟨bs, 0, none⟩), .pointer (some ⟨bsp, 0, none⟩), .pointer (some ⟨bh, 0, none⟩)]
  mem : MemAt g (B + 62) bm K.mem
  sh : Blk g (B + 60) bs 199 [.pointer (some ⟨bt, 0, none⟩), .pointer (some ⟨bp, 0, none⟩), .int .i64 K.n]
  pile : PileAt g (B + 61) bp K.pile
  sp : SpaceAt g B bsp bt K.sp
  hand : HandAt g (B + 63) bh K.hand
  cnf : CnfAt g (B + 65) cm
  same : cm.Same K.c
def CoreAt (g : GW) (B b : Nat) (K : CoreS) : Prop := ∃ bm bs bt bp bsp bh cm, CoreIn g B b K bm bs bt bp bsp bh cm
theorem CoreIn.keep {g g' : GW} {B b bm bs bt bp bsp bh : Nat} {K : CoreS} {cm : Cnf} {T : Nat → Prop} (h : CoreIn g B b K bm bs bt bp bsp bh cm) (m : Mod T g g') (hT : ∀ x, T x → x < B ∨ B + 70 ≤ x) : CoreIn g' B b K bm bs bt bp bsp bh cm := by
  have q : ∀ k, k < 70 → ¬ T (B + k) := fun k hk ht => by have := hT _ ht; omega
  exact ⟨h.blk.keep m (q 64 (by omega)), h.mem.keep m (q 62 (by omega)), h.sh.keep m (q 60 (by omega)), h.pile.keep m (q 61 (by omega)), h.sp.keep m (fun x hx => by have := hT x hx; omega), h.hand.keep m (q 63 (by omega)), h.cnf.keep m (q 65 (by omega)), h.same⟩
/-- The memory, the first k globals laid. -/
def memLaid (c : Cnf) (k : Nat) : MemS := (List.range k).foldl (fun m j => m.lay (cAtV c 3 (j : Nat)) (0, 4607182418800017408)) ⟨List.replicate (cWords c).toNat (0, 0), 0⟩
theorem memLaid_succ (c : Cnf) (k : Nat) : memLaid c (k + 1) = (memLaid c k).lay (cAtV c 3 (k : Nat)) (0, 4607182418800017408) := by
  unfold memLaid
  rw [List.range_succ, List.foldl_append]
  rfl
def CoreS.fresh (c : Cnf) : CoreS := ⟨c, memLaid c c.globals.toNat, SpaceS.fresh c (TabS.fresh c.frags.toNat), ⟨0, false, List.replicate c.threads.toNat (-1), 0⟩, ⟨[], c.stack, false⟩, 0⟩
def CoreMade (c : Cnf) (B : Nat) (g : GW) (e : Ending) (w' : World) : Prop :=
  if c.check = 0 then ∃ own' b, e = .returned (.tuple #[.pointer (some ⟨b, 0, none⟩), .int .i64 0]) ∧ Mod (fun _ => False) g ⟨own', w'⟩ ∧ CoreAt ⟨own', w'⟩ B b (CoreS.fresh c)
  else e = .returned (.tuple #[.pointer none, .int .i64 c.check]) ∧ Ext g.w w'
set_option maxRecDepth 100000 in
theorem core_new (c : Cnf) (B : Nat) (g : GW) (hc : c.Ok g.w) (hB : 100 ≤ B) (hF : ∀ k, k < g.w.heap.size → g.own k < B ∨ B + 70 ≤ g.own k) : Calls Tryz.prog 86 #[c.val] g.w (CoreMade c B g) := by
  have HCK := Lib.hid (fun w' (he : Ext g.w w') => check_any c w' (hc.ext he))
  have HWD := Lib.hid (fun g' (m : Mod (fun _ => False) g g') => words_any c g'.w (hc.ext m.toExt))
  have HGL := Lib.hid (fun k g' (m : Mod (fun _ => False) g g') => global_any c k g'.w (hc.ext m.toExt))
  have HF := Lib.hid hF
  have HC := Lib.hid hc
  unfold Cnf.val at HCK HWD HGL ⊢
  obtain ⟨own0, m0, b0⟩ : ∃ own0, Mod (fun _ => False) g ⟨own0, g.w.alloc (.cells #[.int .i64 c.frags, .int .i64 c.spine, .int .i64 c.globals, .int .i64 c.threads, .int .i64 c.locals, .int .i64 c.cache, .int .i64 c.stack, .int .i64 c.low, .slice c.A c.shapes.length c.cap] 24)⟩ ∧ Blk ⟨own0, g.w.alloc (.cells #[.int .i64 c.frags, .int .i64 c.spine, .int .i64 c.globals, .int .i64 c.threads, .int .i64 c.locals, .int .i64 c.cache, .int .i64 c.stack, .int .i64 c.low, .slice c.A c.shapes.length c.cap] 24)⟩ 9 g.w.heap.size 24 [.int .i64 c.frags, .int .i64 c.spine, .int .i64 c.globals, .int .i64 c.threads, .int .i64 c.locals, .int .i64 c.cache, .int .i64 c.stack, .int .i64 c.low, .slice c.A c.shapes.length c.cap] := ⟨_, Mod.ext (by (repeat (first | (with_reducible assumption) | (with_reducible exact Ext.refl _) | (with_reducible exact Ext.more _ _ _ _) | apply Ext.alloc | refine Ext.setCell ?_ (by first | exact Nat.le_refl _ | exact Nat.le_add_right _ _ | assumption) _ | apply Ext.patch | apply Ext.drew | apply Ext.drewN))) 9, Blk.new g 9 24 [.int .i64 c.frags, .int .i64 c.spine, .int .i64 c.globals, .int .i64 c.threads, .int .i64 c.locals, .int .i64 c.cache, .int .i64 c.stack, .int .i64 c.low, .slice c.A c.shapes.length c.cap]⟩
  have M0 := Lib.hid m0
  have B0 := Lib.hid b0
  clear hc m0 b0 hF
  go_enter Tryz.func86, Tryz.ntmps86
  go_wp2_with fail
  refine (HCK.out _ (by (repeat (first | (with_reducible assumption) | (with_reducible exact Ext.refl _) | (with_reducible exact Ext.more _ _ _ _) | apply Ext.alloc | refine Ext.setCell ?_ (by first | exact Nat.le_refl _ | exact Nat.le_add_right _ _ | assumption) _ | apply Ext.patch | apply Ext.drew | apply Ext.drewN)))).mono ?_
  rintro e w1 ⟨rfl, hX⟩
  obtain ⟨own1, m1⟩ := Mod.ofExt (show Ext _ w1 from hX) own0
  have M1 := Lib.hid (M0.out.trans (m1.mono (fun x hx => hx.elim)))
  have B1 := Lib.hid (B0.out.keep m1 id)
  clear m1 hX
  have a0 := B1.out.cell (i := 0) rfl
  have a1 := B1.out.cell (i := 1) rfl
  have a2 := B1.out.cell (i := 2) rfl
  have a3 := B1.out.cell (i := 3) rfl
  have a4 := B1.out.cell (i := 4) rfl
  have a5 := B1.out.cell (i := 5) rfl
  have a6 := B1.out.cell (i := 6) rfl
  have a7 := B1.out.cell (i := 7) rfl
  have a8 := B1.out.cell (i := 8) rfl
  have al := B1.out.lt
  (try simp only [GW.to] at a0 a1 a2 a3 a4 a5 a6 a7 a8 al)
  by_cases hck : c.check = 0
  case neg =>
    have hk1 : (c.check != 0) = true := by simp [hck]
    have HW := Lib.hid hck
    clear hck
    go_wp2_with fail
    go_ret2
    unfold CoreMade
    rw [if_neg HW.out]
    exact ⟨rfl, M1.out.toExt⟩
  case pos =>
    have hk1 : (c.check != 0) = false := by simp [hck]
    obtain ⟨⟨r0, r1⟩, ⟨r2, r3⟩, ⟨r4, r5⟩, ⟨r6, r7⟩, -, ⟨r8, r9⟩, ⟨r10, r11⟩, -⟩ := Cnf.ranged (Cnf.check_zero hck).1
    have hshp : c.shapes.length ≤ 8 := by
      have := (Cnf.check_zero hck).2.2.1
      simp [within] at this
      omega
    have HCKZ := Lib.hid hck
    have hwd : cWords c = c.frags * 8 + c.spine + c.spine + c.globals := by unfold cWords; rw [if_pos hck]
    have HMN := Lib.hid (fun g' => (show Calls Tryz.prog 147 #[.int .i64 (cWords c)] g'.w (fun e w' => ∃ own' b, e = .returned (.tuple #[.pointer (some ⟨b, 0, none⟩), .int .i64 0]) ∧ Mod (fun _ => False) g' ⟨own', w'⟩ ∧ MemAt ⟨own', w'⟩ (B + 62) b (memLaid c 0)) from (mem_new (cWords c) (B + 62) g').mono fun e w' hh => by
      unfold MemMade at hh
      rw [if_pos ⟨by omega, by omega⟩] at hh
      exact hh))
    have HHN := Lib.hid (fun g' => (show Calls Tryz.prog 151 #[.int .i64 c.threads] g'.w (fun e w' => ∃ own' b, e = .returned (.tuple #[.pointer (some ⟨b, 0, none⟩), .int .i64 0]) ∧ Mod (fun _ => False) g' ⟨own', w'⟩ ∧ HandAt ⟨own', w'⟩ (B + 63) b ⟨0, false, List.replicate c.threads.toNat (-1), 0⟩) from (hand_new c.threads (B + 63) g').mono fun e w' hh => by
      unfold HandMade at hh
      rw [if_pos ⟨by omega, by omega⟩] at hh
      exact hh))
    have HSN := Lib.hid (fun g' => (show Calls Tryz.prog 149 #[.int .i64 c.frags, .int .i64 c.stack] g'.w (fun e w' => ∃ own' b bt bp, e = .returned (.tuple #[.pointer (some ⟨b, 0, none⟩), .int .i64 0]) ∧ Mod (fun _ => False) g' ⟨own', w'⟩ ∧ Blk ⟨own', w'⟩ (B + 60) b 199 [.pointer (some ⟨bt, 0, none⟩), .pointer (some ⟨bp, 0, none⟩), .int .i64 0] ∧ TabAt ⟨own', w'⟩ (B + 50) bt (TabS.fresh c.frags.toNat) ∧ PileAt ⟨own', w'⟩ (B + 61) bp ⟨[], c.stack, false⟩) from by
      have := shade_new c.frags.toNat c.stack (B + 60) (B + 50) (B + 61) g' (by omega) ⟨by omega, by omega⟩
      rw [show ((c.frags.toNat : Nat) : Int) = c.frags by omega] at this
      exact this))
    have HPN := Lib.hid (fun g' bt (m : Mod (fun _ => False) g g') (ht : TabAt g' (B + 50) bt (TabS.fresh c.frags.toNat)) => (show Calls Tryz.prog 12 #[c.val, .pointer (some ⟨bt, 0, none⟩)] g'.w (fun e w' => ∃ own' b, e = .returned (.tuple #[.pointer (some ⟨b, 0, none⟩), .int .i64 0]) ∧ Mod (fun _ => False) g' ⟨own', w'⟩ ∧ SpaceAt ⟨own', w'⟩ B b bt (SpaceS.fresh c (TabS.fresh c.frags.toNat))) from (space_new c (TabS.fresh c.frags.toNat) B bt g' (HC.out.ext m.toExt) ht hB).mono fun e w' hh => by
      unfold SpaceMade at hh
      rw [if_pos ⟨HCKZ.out, by simp [TabS.fresh]; omega⟩] at hh
      exact hh))
    have HCP := Lib.hid (fun g' (m : Mod (fun _ => False) g g') => copy_any c (B + 65) g' (HC.out.ext m.toExt) (by omega))
    unfold Cnf.val at HPN HCP
    clear hck hwd
    go_wp2_with fail
    refine (HWD.out ⟨own1, w1⟩ M1.out).mono ?_
    rintro e w2 ⟨rfl, hX⟩
    obtain ⟨own2, m2⟩ := Mod.ofExt (show Ext w1 w2 from hX) own1
    have M2 := Lib.hid (M1.out.trans (m2.mono (fun x hx => hx.elim)))
    have B2 := Lib.hid (B1.out.keep m2 id)
    clear m2 hX
    clear a0 a1 a2 a3 a4 a5 a6 a7 a8 al
    have a0 := B2.out.cell (i := 0) rfl
    have a1 := B2.out.cell (i := 1) rfl
    have a2 := B2.out.cell (i := 2) rfl
    have a3 := B2.out.cell (i := 3) rfl
    have a4 := B2.out.cell (i := 4) rfl
    have a5 := B2.out.cell (i := 5) rfl
    have a6 := B2.out.cell (i := 6) rfl
    have a7 := B2.out.cell (i := 7) rfl
    have a8 := B2.out.cell (i := 8) rfl
    have al := B2.out.lt
    (try simp only [GW.to] at a0 a1 a2 a3 a4 a5 a6 a7 a8 al)
    go_wp2_with fail
    refine (HMN.out ⟨own2, w2⟩).mono ?_
    rintro e w3 ⟨own3, bm, rfl, m3, x3⟩
    have M3 := Lib.hid (M2.out.trans (m3.mono (fun x hx => hx.elim)))
    have B3 := Lib.hid (B2.out.keep m3 id)
    have X3 := Lib.hid x3
    clear m3 x3 HMN HWD HCK
    clear a0 a1 a2 a3 a4 a5 a6 a7 a8 al
    have a0 := B3.out.cell (i := 0) rfl
    have a1 := B3.out.cell (i := 1) rfl
    have a2 := B3.out.cell (i := 2) rfl
    have a3 := B3.out.cell (i := 3) rfl
    have a4 := B3.out.cell (i := 4) rfl
    have a5 := B3.out.cell (i := 5) rfl
    have a6 := B3.out.cell (i := 6) rfl
    have a7 := B3.out.cell (i := 7) rfl
    have a8 := B3.out.cell (i := 8) rfl
    have al := B3.out.lt
    (try simp only [GW.to] at a0 a1 a2 a3 a4 a5 a6 a7 a8 al)
    go_wp2_with fail
    refine (HSN.out ⟨own3, w3⟩).mono ?_
    rintro e w4 ⟨own4, bs, bt, bp, rfl, m4, s4, t4, p4⟩
    have M4 := Lib.hid (M3.out.trans (m4.mono (fun x hx => hx.elim)))
    have B4 := Lib.hid (B3.out.keep m4 id)
    have X4 := Lib.hid (X3.out.keep m4 id)
    have S4 := Lib.hid s4
    have T4 := Lib.hid t4
    have P4 := Lib.hid p4
    clear m4 s4 t4 p4 HSN X3
    clear a0 a1 a2 a3 a4 a5 a6 a7 a8 al
    have a0 := B4.out.cell (i := 0) rfl
    have a1 := B4.out.cell (i := 1) rfl
    have a2 := B4.out.cell (i := 2) rfl
    have a3 := B4.out.cell (i := 3) rfl
    have a4 := B4.out.cell (i := 4) rfl
    have a5 := B4.out.cell (i := 5) rfl
    have a6 := B4.out.cell (i := 6) rfl
    have a7 := B4.out.cell (i := 7) rfl
    have a8 := B4.out.cell (i := 8) rfl
    have al := B4.out.lt
    (try simp only [GW.to] at a0 a1 a2 a3 a4 a5 a6 a7 a8 al)
    have s0 := S4.out.cell (i := 0) rfl
    have s1 := S4.out.cell (i := 1) rfl
    have s2 := S4.out.cell (i := 2) rfl
    have sl := S4.out.lt
    (try simp only [GW.to] at s0 s1 s2 sl)
    have HTB := Lib.hid (fun w => shade_table bt w)
    go_wp2_with fail
    go_cut [8, 6] (fun s8 s6 wx => ∃ own5 bsp, s8 = .pointer (some ⟨bsp, 0, none⟩) ∧ s6 = .int .i64 0 ∧ Mod (fun _ => False) ⟨own4, w4⟩ ⟨own5, wx⟩ ∧ SpaceAt ⟨own5, wx⟩ B bsp bt (SpaceS.fresh c (TabS.fresh c.frags.toNat)))
    case first =>
      refine wp_region_mixed [true, true, true, true, true, true, false, false, false, false, false, false] 6 12 (by kernel_rfl) (by kernel_rfl) (by kernel_rfl) ?_ (by decide) (by decide) (by decide) (by kernel_rfl) ?_
      · intro c a d v w h; cases d <;> exact h
      intro X00
      simp only [pickOps]
      repeat (go_big_quiet_step ((go_at_call 150; exact Calls.added (HTB.out _))))
      refine wpQuiet_nil (fun X0 => ?_)
      clear X00
      refine wpAnyM_one 6 _ (by kernel_rfl) rfl rfl (by decide) (fun X1 K Q' hK => ?_)
      go_simp
      refine (HPN.out ((⟨own4, w4⟩ : GW).pt _) bt (Mod.pt M4.out _) (T4.out.pt _)).mono ?_
      rintro e w5 ⟨own5, bsp, rfl, m5, y5⟩
      have M5 := Lib.hid ((Mod.pt (Mod.refl (fun _ => False) (⟨own4, w4⟩ : GW)) _).trans m5)
      have Y5 := Lib.hid y5
      have hE5 : Ext w4 w5 := M5.out.toExt
      have HKK := Lib.hid (show ∀ X, ∃ o, Mod (fun _ => False) ⟨own4, w4⟩ ⟨o, w5.patch X⟩ ∧ SpaceAt ⟨o, w5.patch X⟩ B bsp bt (SpaceS.fresh c (TabS.fresh c.frags.toNat)) from fun X => ⟨_, M5.out.trans (Mod.ext (T := fun _ => False) (g := ⟨own5, w5⟩) ⟨X, rfl⟩ 0), Y5.out.keep (Mod.ext (T := fun _ => False) (g := ⟨own5, w5⟩) ⟨X, rfl⟩ 0) (fun x hx => hx.elim)⟩)
      clear m5 y5
      refine hK _ _ hE5 ?_
      clear hK K Q'
      refine wpAnyM_one 7 _ (by kernel_rfl) rfl rfl (by decide) (fun X1 K Q' hK => ?_)
      go_simp
      refine hK _ _ ?_ ?_
      · (repeat (first | (with_reducible assumption) | (with_reducible exact Ext.refl _) | (with_reducible exact Ext.more _ _ _ _) | (with_reducible apply Ext.alloc) | (with_reducible apply Ext.patch) | (with_reducible apply Ext.drew) | (with_reducible apply Ext.drewN) | (with_reducible refine Ext.setCell ?_ (by first | assumption | exact Nat.le_refl _ | exact Nat.le_add_right _ _) _)))
      clear hK K Q'
      refine wpAnyM_two 8 9 _ _ (by kernel_rfl) rfl rfl rfl rfl (by decide) (by decide) (fun X1 K Q' hK => ?ordA) (fun X1 K Q' hK => ?ordB)
      case' ordA =>
        go_simp
        refine hK _ _ ?_ ?_
        · (repeat (first | (with_reducible assumption) | (with_reducible exact Ext.refl _) | (with_reducible exact Ext.more _ _ _ _) | (with_reducible apply Ext.alloc) | (with_reducible apply Ext.patch) | (with_reducible apply Ext.drew) | (with_reducible apply Ext.drewN) | (with_reducible refine Ext.setCell ?_ (by first | assumption | exact Nat.le_refl _ | exact Nat.le_add_right _ _) _)))
        clear hK K Q'
        refine wpAnyM_two 9 10 _ _ (by kernel_rfl) rfl rfl rfl rfl (by decide) (by decide) (fun X1 K Q' hK => ?ordA1) (fun X1 K Q' hK => ?ordA2)
        case' ordA1 =>
          go_simp
          refine hK _ _ ?_ ?_
          · (repeat (first | (with_reducible assumption) | (with_reducible exact Ext.refl _) | (with_reducible exact Ext.more _ _ _ _) | (with_reducible apply Ext.alloc) | (with_reducible apply Ext.patch) | (with_reducible apply Ext.drew) | (with_reducible apply Ext.drewN) | (with_reducible refine Ext.setCell ?_ (by first | assumption | exact Nat.le_refl _ | exact Nat.le_add_right _ _) _)))
          clear hK K Q'
          refine wpAnyM_one 10 _ (by kernel_rfl) rfl rfl (by decide) (fun X1 K Q' hK => ?_)
          go_simp
          refine hK _ _ ?_ ?_
          · (repeat (first | (with_reducible assumption) | (with_reducible exact Ext.refl _) | (with_reducible exact Ext.more _ _ _ _) | (with_reducible apply Ext.alloc) | (with_reducible apply Ext.patch) | (with_reducible apply Ext.drew) | (with_reducible apply Ext.drewN) | (with_reducible refine Ext.setCell ?_ (by first | assumption | exact Nat.le_refl _ | exact Nat.le_add_right _ _) _)))
          clear hK K Q'
        case' ordA2 =>
          go_simp
          refine hK _ _ ?_ ?_
          · (repeat (first | (with_reducible assumption) | (with_reducible exact Ext.refl _) | (with_reducible exact Ext.more _ _ _ _) | (with_reducible apply Ext.alloc) | (with_reducible apply Ext.patch) | (with_reducible apply Ext.drew) | (with_reducible apply Ext.drewN) | (with_reducible refine Ext.setCell ?_ (by first | assumption | exact Nat.le_refl _ | exact Nat.le_add_right _ _) _)))
          clear hK K Q'
          refine wpAnyM_one 9 _ (by kernel_rfl) rfl rfl (by decide) (fun X1 K Q' hK => ?_)
          go_simp
          refine hK _ _ ?_ ?_
          · (repeat (first | (with_reducible assumption) | (with_reducible exact Ext.refl _) | (with_reducible exact Ext.more _ _ _ _) | (with_reducible apply Ext.alloc) | (with_reducible apply Ext.patch) | (with_reducible apply Ext.drew) | (with_reducible apply Ext.drewN) | (with_reducible refine Ext.setCell ?_ (by first | assumption | exact Nat.le_refl _ | exact Nat.le_add_right _ _) _)))
          clear hK K Q'
      case' ordB =>
        go_simp
        refine hK _ _ ?_ ?_
        · (repeat (first | (with_reducible assumption) | (with_reducible exact Ext.refl _) | (with_reducible exact Ext.more _ _ _ _) | (with_reducible apply Ext.alloc) | (with_reducible apply Ext.patch) | (with_reducible apply Ext.drew) | (with_reducible apply Ext.drewN) | (with_reducible refine Ext.setCell ?_ (by first | assumption | exact Nat.le_refl _ | exact Nat.le_add_right _ _) _)))
        clear hK K Q'
        refine wpAnyM_one 8 _ (by kernel_rfl) rfl rfl (by decide) (fun X1 K Q' hK => ?_)
        go_simp
        refine hK _ _ ?_ ?_
        · (repeat (first | (with_reducible assumption) | (with_reducible exact Ext.refl _) | (with_reducible exact Ext.more _ _ _ _) | (with_reducible apply Ext.alloc) | (with_reducible apply Ext.patch) | (with_reducible apply Ext.drew) | (with_reducible apply Ext.drewN) | (with_reducible refine Ext.setCell ?_ (by first | assumption | exact Nat.le_refl _ | exact Nat.le_add_right _ _) _)))
        clear hK K Q'
        refine wpAnyM_one 10 _ (by kernel_rfl) rfl rfl (by decide) (fun X1 K Q' hK => ?_)
        go_simp
        refine hK _ _ ?_ ?_
        · (repeat (first | (with_reducible assumption) | (with_reducible exact Ext.refl _) | (with_reducible exact Ext.more _ _ _ _) | (with_reducible apply Ext.alloc) | (with_reducible apply Ext.patch) | (with_reducible apply Ext.drew) | (with_reducible apply Ext.drewN) | (with_reducible refine Ext.setCell ?_ (by first | assumption | exact Nat.le_refl _ | exact Nat.le_add_right _ _) _)))
        clear hK K Q'
      all_goals
        refine wpAnyM_one 11 _ (by kernel_rfl) rfl rfl (by decide) (fun X1 K Q' hK => ?_)
        go_simp
        refine hK _ _ ?_ ?_
        · (repeat (first | (with_reducible assumption) | (with_reducible exact Ext.refl _) | (with_reducible exact Ext.more _ _ _ _) | (with_reducible apply Ext.alloc) | (with_reducible apply Ext.patch) | (with_reducible apply Ext.drew) | (with_reducible apply Ext.drewN) | (with_reducible refine Ext.setCell ?_ (by first | assumption | exact Nat.le_refl _ | exact Nat.le_add_right _ _) _)))
        clear hK K Q'
        refine wpAnyM_done (by kernel_rfl) (fun X2 => ?_) _
        go_wp2_with fail
        go_meet
        (try rw [World.patch_patch])
        exact (HKK.out _).elim fun o h => ⟨o, bsp, rfl, rfl, h.1, h.2⟩
    case rest =>
      obtain ⟨own5, bsp, rfl, rfl, m5, y5⟩ := hcut
      obtain ⟨w5, rfl⟩ : ∃ w5 : World, w5 = wc := ⟨_, rfl⟩
      have M5 := Lib.hid (M4.out.trans (m5.mono (fun x hx => hx.elim)))
      have B5 := Lib.hid (B4.out.keep m5 id)
      have X5 := Lib.hid (X4.out.keep m5 id)
      have S5 := Lib.hid (S4.out.keep m5 id)
      have P5 := Lib.hid (P4.out.keep m5 id)
      have Y5 := Lib.hid y5
      clear m5 y5 HPN HTB X4 S4 P4 T4 s0 s1 s2 sl
      clear a0 a1 a2 a3 a4 a5 a6 a7 a8 al
      have a0 := B5.out.cell (i := 0) rfl
      have a1 := B5.out.cell (i := 1) rfl
      have a2 := B5.out.cell (i := 2) rfl
      have a3 := B5.out.cell (i := 3) rfl
      have a4 := B5.out.cell (i := 4) rfl
      have a5 := B5.out.cell (i := 5) rfl
      have a6 := B5.out.cell (i := 6) rfl
      have a7 := B5.out.cell (i := 7) rfl
      have a8 := B5.out.cell (i := 8) rfl
      have al := B5.out.lt
      (try simp only [GW.to] at a0 a1 a2 a3 a4 a5 a6 a7 a8 al)
      go_wp2_with fail
      refine (HHN.out ⟨own5, w5⟩).mono ?_
      rintro e w6 ⟨own6, bh, rfl, m6, h6⟩
      have M6 := Lib.hid (M5.out.trans (m6.mono (fun x hx => hx.elim)))
      have B6 := Lib.hid (B5.out.keep m6 id)
      have X6 := Lib.hid (X5.out.keep m6 id)
      have S6 := Lib.hid (S5.out.keep m6 id)
      have P6 := Lib.hid (P5.out.keep m6 id)
      have Y6 := Lib.hid (Y5.out.keep m6 (fun x hx => hx.elim))
      have H6 := Lib.hid h6
      clear m6 h6 HHN X5 S5 P5 Y5
      clear a0 a1 a2 a3 a4 a5 a6 a7 a8 al
      have a0 := B6.out.cell (i := 0) rfl
      have a1 := B6.out.cell (i := 1) rfl
      have a2 := B6.out.cell (i := 2) rfl
      have a3 := B6.out.cell (i := 3) rfl
      have a4 := B6.out.cell (i := 4) rfl
      have a5 := B6.out.cell (i := 5) rfl
      have a6 := B6.out.cell (i := 6) rfl
      have a7 := B6.out.cell (i := 7) rfl
      have a8 := B6.out.cell (i := 8) rfl
      have al := B6.out.lt
      (try simp only [GW.to] at a0 a1 a2 a3 a4 a5 a6 a7 a8 al)
      go_wp2_with fail
      have HGN := Lib.hid (Int.eq_ofNat_of_zero_le r4)
      go_loopw [62] (fun i wr => ∃ (k : Nat) (own : Nat → Nat), (k : Int) ≤ c.globals ∧ i = .int .i64 k ∧ Hid (Mod (fun x => x = B + 62) ⟨own6, w6⟩ ⟨own, wr⟩) ∧ Hid (MemAt ⟨own, wr⟩ (B + 62) bm (memLaid c k))) (fun i _ => c.globals.toNat - (intOf i).toNat)
      case atStart => exact ⟨0, own6, r4, rfl, Lib.hid (Mod.refl _ _), X6⟩
      case round =>
        obtain ⟨k, own7, hk, rfl, N7, X7⟩ := hrel
        obtain ⟨w7, rfl⟩ : ∃ w7 : World, w7 = wr := ⟨_, rfl⟩
        have M7 := Lib.hid (show Mod (fun _ => False) g ⟨own7, w7⟩ from ((M6.out.mono (S := fun x => x = B + 62) (fun x hx => hx.elim)).trans N7.out).nothing (fun j hj e => by have := HF.out j hj; omega))
        have B7 := Lib.hid (B6.out.keep N7.out (by omega))
        clear a0 a1 a2 a3 a4 a5 a6 a7 a8 al
        have a0 := B7.out.cell (i := 0) rfl
        have a1 := B7.out.cell (i := 1) rfl
        have a2 := B7.out.cell (i := 2) rfl
        have a3 := B7.out.cell (i := 3) rfl
        have a4 := B7.out.cell (i := 4) rfl
        have a5 := B7.out.cell (i := 5) rfl
        have a6 := B7.out.cell (i := 6) rfl
        have a7 := B7.out.cell (i := 7) rfl
        have a8 := B7.out.cell (i := 8) rfl
        have al := B7.out.lt
        (try simp only [GW.to] at a0 a1 a2 a3 a4 a5 a6 a7 a8 al)
        obtain ⟨gc, hgc⟩ := cAtV_eq c 3 (k : Nat)
        have HG7 := Lib.hid (HGL.out k ⟨own7, w7⟩ M7.out)
        rw [hgc] at HG7
        have HSC := Lib.hid (memLaid_succ c k)
        clear hgc
        generalize cAtV c 3 (k : Nat) = at_ at *
        by_cases hlt : (k : Int) < c.globals
        · go_wp2_with fail
          refine HG7.out.mono ?_
          rintro e w8 ⟨rfl, hX⟩
          obtain ⟨own8, m8⟩ := Mod.ofExt (show Ext w7 w8 from hX) own7
          have N8 := Lib.hid (N7.out.trans (m8.mono (fun x hx => hx.elim)))
          have X8 := Lib.hid (X7.out.keep m8 id)
          clear hX m8 HG7
          go_wp2_with fail
          refine (none_any _).mono ?_
          rintro e w9 ⟨rfl, hX⟩
          unfold wNone
          obtain ⟨own9, m9⟩ := Mod.ofExt (show Ext w8 w9 from hX) own8
          have N9 := Lib.hid (N8.out.trans (m9.mono (fun x hx => hx.elim)))
          have X9 := Lib.hid (X8.out.keep m9 id)
          clear hX m9
          go_wp2_with fail
          refine (mem_lay ⟨own9, w9⟩ (B + 62) bm at_ 0 4607182418800017408 _ X9.out).mono ?_
          rintro e w10 ⟨rfl, own10, m10, x10⟩
          have N10 := Lib.hid (N9.out.trans m10)
          have X10 := Lib.hid x10
          clear m10 x10
          go_wp2_with fail
          go_roundw
          case rel => exact ⟨k + 1, own10, by omega, by go_num, N10, by rw [HSC.out]; exact X10⟩
          case measure => simp [intOf]; omega
        · have hkk : (k : Int) = c.globals := by omega
          have HKK := Lib.hid (show k = c.globals.toNat by omega)
          clear hkk HG7
          go_wp2_with fail
          refine (HCP.out ⟨own7, w7⟩ M7.out).mono ?_
          rintro e w8 ⟨c', rfl, hsm, hca, hX⟩
          unfold Cnf.val
          obtain ⟨own8, m8, hca⟩ : ∃ own8, Mod (fun _ => False) ⟨own7, w7⟩ ⟨own8, w8⟩ ∧ CnfAt ⟨own8, w8⟩ (B + 65) c' := ⟨_, Mod.ext (g := ⟨own7, w7⟩) hX (B + 65), hca⟩
          have HSM := Lib.hid hsm
          have HCA := Lib.hid hca
          have M8 := Lib.hid m8
          clear hsm hca m8 hX
          go_wp2_with fail
          go_ret2
          unfold CoreMade
          rw [if_pos HCKZ.out]
          have m9 := Mod.ext (T := fun _ => False) (g := ⟨own8, w8⟩) (show Ext w8 (w8.alloc (.cells #[.int .i64 c'.frags, .int .i64 c'.spine, .int .i64 c'.globals, .int .i64 c'.threads, .int .i64 c'.locals, .int .i64 c'.cache, .int .i64 c'.stack, .int .i64 c'.low, .slice c'.A c'.shapes.length c'.cap, .pointer (some ⟨bm, 0, none⟩), .pointer (some ⟨bs, 0, none⟩), .pointer (some ⟨bsp, 0, none⟩), .pointer (some ⟨bh, 0, none⟩)] 209)) by (repeat (first | (with_reducible assumption) | (with_reducible exact Ext.refl _) | (with_reducible exact Ext.more _ _ _ _) | apply Ext.alloc | refine Ext.setCell ?_ (by first | exact Nat.le_refl _ | exact Nat.le_add_right _ _ | assumption) _ | apply Ext.patch | apply Ext.drew | apply Ext.drewN))) (B + 64)
          have mm := (N7.out.trans (M8.out.mono (S := fun x => x = B + 62) (fun x hx => hx.elim))).trans (m9.mono (S := fun x => x = B + 62) (fun x hx => hx.elim))
          have m0 := M8.out.trans m9
          rw [HKK.out] at X7
          exact ⟨_, _, rfl, (M7.out.trans M8.out).trans m9, bm, bs, bt, bp, bsp, bh, c', ⟨Blk.made (World.row_alloc_new _) (Nat.le_refl _), X7.out.keep m0 id, S6.out.keep mm (by omega), P6.out.keep mm (by omega), Y6.out.keep mm (fun x hx => by omega), H6.out.keep mm (by omega), HCA.out.keep m9 id, HSM.out⟩⟩
end Go.Proofs.YthdijbkcjmeilaaGreat
