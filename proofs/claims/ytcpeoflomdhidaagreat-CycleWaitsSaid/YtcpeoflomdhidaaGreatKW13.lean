import Derived.Test.YtcpeoflomdhidaaGreatKW12
/-
  Packed: CyD.
-/
open Go.Ext renaming alloc → zA, patch → zP, drew → zD, drewN → zN, more → zM, refl → zR, setCell → zS
open Nat renaming le_refl → zL, le_add_right → zK
/-
  cycle: roots, marks, hauls where there is nothing to do.
-/
namespace Go.Proofs.YtcpeoflomdhidaaGreat
open Go Go.RowKit
set_option linter.unusedVariables false
set_option linter.unnecessarySimpa false
set_option linter.unusedSimpArgs false
set_option maxHeartbeats 4000000
set_option maxRecDepth 100000
namespace CyW
def rootsV (W : CyW) : CyW := if W.y.at_ = 0 then { W with y := { W.y with at_ := 1, i := 0 } } else W
def rootsPoll (W : CyW) : CyW := if W.rootsV.pollsB then W.rootsV.polls.ent 5 else W.rootsV.polls
def rootsNone (W : CyW) : CyW := { W with y := { W.y with head := 0, at_ := 0, i := W.y.i + 1 }, K := { W.K with mem := W.K.mem.tick } }
def marksEmpty (W : CyW) : CyW := { W with y := { W.y with head := W.K.pile.top, at_ := 5, rescan := false }, K := { W.K with pile := W.K.pile.pop, n := W.K.n + 1 } }
def marksFound (W : CyW) : CyW := CyW.ent { W with K := { W.K with pile := W.K.pile.found, n := W.K.n + 1 } } 6
def hauled (W : CyW) : HaulS := { HaulS.fresh W.K.c (1 - W.K.sp.coil.cur) 0 W.y.sense with pc := 11, steps := 1 }
def haulsNone (W : CyW) : CyW := { W with h := some W.hauled, y := { W.y with e := 0, at_ := 2 } }
def haulsPost (W : CyW) : CyW := (W.posts 0 false).ent 8
end CyW
theorem haul_step_none (g : GW) (t b bm bs bk : Nat) (S : HaulS) (h : HaulAt g t b S) (hpc : S.pc = 0) (hfin : S.fin = 0) (hs : 0 ≤ S.steps ∧ S.steps ≤ 1099511627776) (hck : S.c.check = 0) (hfr : S.frm = 0 ∨ S.frm = 1) :
    Calls Tryz.prog 193 #[.pointer (some ⟨b, 0, none⟩), .pointer (some ⟨bm, 0, none⟩), .pointer (some ⟨bs, 0, none⟩), .pointer (some ⟨bk, 0, none⟩)] g.w (Does (.bool true) g (fun x => x = t) (fun g'' => HaulAt g'' t b { S with steps := S.steps + 1, pc := 11 } ∧ True)) := by
  obtain ⟨⟨_, _⟩, ⟨h1, _⟩, -⟩ := Cnf.ranged (Cnf.check_zero hck).1
  have := haul_step g t b bm bs bk S { S with steps := S.steps + 1, pc := 11 } (fun x => x = t) (fun _ => True) h (by omega) hs rfl (fun g' m h' =>
    haul_does g' t b bm bs bk { S with steps := S.steps + 1 } (fun x => x = t) _ h' hck hfr ⟨by show 0 ≤ S.fin; omega, by show S.fin ≤ S.c.spine; omega⟩ (fun _ g2 m2 h2 => (looks_none g2 t b bm bs { S with steps := S.steps + 1 } h2 hpc hfin).mono (fun e w' hd => by
      obtain ⟨h3, own', h4, h5⟩ := hd
      exact ⟨h3, own', h4, h5, trivial⟩)) (fun h4 => by have h5 : (4 : Int) ≤ S.pc := h4; omega))
  exact this
section
variable {P : Program} {a : Act} {w : World} {Q : Exit → Act → World → Prop}
theorem wp_scope_via3 {c r0 r1 r2 : Code} (l0 l1 l2 : Nat) (h0 : findLabel c l0 = some r0) (h1 : findLabel c l1 = some r1) (h2 : findLabel c l2 = some r2) (first : c.wp P (Exit.via P Q [(l0, r0), (l1, r1), (l2, r2)]) a w) : (Code.scope c).wp P Q a w :=
  wp_scope_via [(l0, r0), (l1, r1), (l2, r2)] (by
    intro p hp
    simp only [List.mem_cons, List.not_mem_nil, or_false] at hp
    rcases hp with rfl | rfl | rfl
    · exact h0
    · exact h1
    · exact h2) first
end
section
variable {g : GW} {t B b k : Nat} {W : CyW}
theorem cy_roots_poll (A : CyApart t B) (hd : W.Bd) (h3 : W.y.at_ ≠ 3) (hp : W.K.c.globals ≤ W.y.i ∨ W.y.at_ = 1) (H : CyWAt g t B b k W) : Calls Tryz.prog 99 #[.pointer (some ⟨b, 0, none⟩), .pointer (some ⟨k, 0, none⟩)] g.w (Does (.tuple #[]) g (cyT t B) (fun g' => CyWAt g' t B b k W.rootsPoll)) := by
  obtain ⟨tp, hp0, bm, bs, bt, bp, bsp, bh, cm, H⟩ := H
  have HH := Lib.hid H
  have HD := Lib.hid hd
  have hz3 : (W.y.at_ == 3) = false := beq_eq_false_iff_ne.2 h3
  rw [← H.c.same.globals] at hp
  obtain ⟨a0, a1, a2, a3, a4, a5, a6, a7, a8, a9, a10, a11, a12, a13, al⟩ := H.y.blk.c14
  have af1 := H.y.blk.live 1
  (try simp only [GW.to] at a0 a1 a2 a3 a4 a5 a6 a7 a8 a9 a10 a11 a12 a13 af1 al)
  obtain ⟨c0, c1, c2, c3, c4, c5, c6, c7, c8, c9, c10, c11, c12, cl⟩ := H.c.blk.c13
  (try simp only [GW.to] at c0 c1 c2 c3 c4 c5 c6 c7 c8 c9 c10 c11 c12 cl)
  clear H hd h3
  go_enter Tryz.func99, Tryz.ntmps99
  go_wp2_with fail
  refine wp_scope_via2 0 1 rfl rfl ?_
  go_wp2_with fail
  by_cases hg : cm.globals ≤ W.y.i
  · have d1 : decide (cm.globals ≤ W.y.i) = true := decide_eq_true hg
    clear hp hg
    refine wp_region_mixed [true, true, true, true, true, true, true, true, true, true, true, true, true, true, true, true, true] 0 17 (by kernel_rfl) (by kernel_rfl) (by kernel_rfl) ?_ (by decide) (by decide) (by decide) (by kernel_rfl) ?_
    · intro c a d v w h; cases d <;> exact h
    intro X00
    simp only [pickOps]
    repeat (go_big_quiet_step (fail))
    refine wpQuiet_nil (fun X0 => ?_)
    clear X00
    refine wpAnyM_done (by kernel_rfl) (fun X0' => ?_) _
    (try go_simp)
    go_wp2_with fail
    go_step3
    refine via_next (via_here ?_)
    obtain ⟨own1, m1⟩ : ∃ own1, Mod (fun _ => False) g ⟨own1, g.w.patch ⟨X0.blocks ++ X0'.blocks, X0'.drawn⟩⟩ := ⟨_, Mod.pt (Mod.refl _ _) _⟩
    generalize g.w.patch ⟨X0.blocks ++ X0'.blocks, X0'.drawn⟩ = w1 at *
    have H1 := Lib.hid (HH.out.keep m1 (fun _ => False.elim) (fun _ => False.elim))
    have M1 := Lib.hid (m1.mono (S := cyT t B) (fun _ => False.elim))
    clear a0 a1 a2 a3 a4 a5 a6 a7 a8 a9 a10 a11 a12 a13 af1 al c0 c1 c2 c3 c4 c5 c6 c7 c8 c9 c10 c11 c12 cl
    clear m1
    by_cases h0 : W.y.at_ = 0
    · have hz : (W.y.at_ == 0) = true := beq_iff_eq.2 h0
      have HV := Lib.hid (show W.rootsV = { W with y := { W.y with at_ := 1, i := 0 } } from if_pos h0)
      have H2 := Lib.hid (show CyIn ⟨own1, (w1.setCell ⟨b, 1, none⟩ (.int .i64 1)).setCell ⟨b, 2, none⟩ (.int .i64 0)⟩ t B b k W.rootsV tp hp0 bm bs bt bp bsp bh cm from by rw [HV.out]; exact (H1.out.set A 1 (.int .i64 1) { W.y with at_ := 1 } rfl).set A 2 (.int .i64 0) { W.y with at_ := 1, i := 0 } rfl)
      have M2 := Lib.hid (show Mod (cyT t B) g ⟨own1, (w1.setCell ⟨b, 1, none⟩ (.int .i64 1)).setCell ⟨b, 2, none⟩ (.int .i64 0)⟩ from Mod.st (Mod.st M1.out H1.out.modY) H1.out.modY)
      have HDV := Lib.hid (show W.rootsV.Bd from by rw [HV.out]; exact ⟨⟨Int.le_refl _, by show (0 : Int) ≤ 1099511627776; decide⟩, HD.out.started, HD.out.finished, HD.out.freed, HD.out.moved, HD.out.steps, HD.out.hand, HD.out.sp, HD.out.mem, HD.out.n⟩)
      clear h0
      obtain ⟨a0, a1, a2, a3, a4, a5, a6, a7, a8, a9, a10, a11, a12, a13, al⟩ := H1.out.y.blk.c14
      have af1 := H1.out.y.blk.live 1
      have af2 := H1.out.y.blk.live 2
      (try simp only [GW.to] at a0 a1 a2 a3 a4 a5 a6 a7 a8 a9 a10 a11 a12 a13 af1 af2 al)
      go_wp2_with fail
      refine (cy_polls A HDV.out H2.out).mono ?_
      rintro e w3 ⟨rfl, own3, m3, h3⟩
      have M3 := Lib.hid (M2.out.trans m3)
      have H3 := Lib.hid h3
      clear m3 h3
      cases hpp : W.rootsV.pollsB
      · have HW := Lib.hid (show W.rootsPoll = W.rootsV.polls by unfold CyW.rootsPoll; rw [hpp]; rfl)
        go_wp2_with fail
        (try rw [Exit.via_normal])
        exact bodyPost_end (results_none rfl _ _ _) rfl (Does.of ⟨own3, w3⟩ rfl rfl M3.out (by rw [HW.out]; exact H3.out.at_))
      · have HW := Lib.hid (show W.rootsPoll = W.rootsV.polls.ent 5 by unfold CyW.rootsPoll; rw [hpp]; rfl)
        go_wp2_with fail
        refine (cy_enters A 5 H3.out).mono ?_
        rintro e w4 ⟨rfl, own4, m4, h4⟩
        have M4 := Lib.hid (M3.out.trans m4)
        have H4 := Lib.hid h4
        clear m4 h4
        go_wp2_with fail
        (try rw [Exit.via_normal])
        exact bodyPost_end (results_none rfl _ _ _) rfl (Does.of ⟨own4, w4⟩ rfl rfl M4.out (by rw [HW.out]; exact H4.out.at_))
    · have hz : (W.y.at_ == 0) = false := beq_eq_false_iff_ne.2 h0
      have HV := Lib.hid (show W.rootsV = W from if_neg h0)
      have HDV := Lib.hid (show W.rootsV.Bd from by rw [HV.out]; exact HD.out)
      have H2 := Lib.hid (show CyIn ⟨own1, w1⟩ t B b k W.rootsV tp hp0 bm bs bt bp bsp bh cm from by rw [HV.out]; exact H1.out)
      clear h0
      obtain ⟨a0, a1, a2, a3, a4, a5, a6, a7, a8, a9, a10, a11, a12, a13, al⟩ := H1.out.y.blk.c14
      have af1 := H1.out.y.blk.live 1
      have af2 := H1.out.y.blk.live 2
      (try simp only [GW.to] at a0 a1 a2 a3 a4 a5 a6 a7 a8 a9 a10 a11 a12 a13 af1 af2 al)
      go_wp2_with fail
      refine (cy_polls A HDV.out H2.out).mono ?_
      rintro e w3 ⟨rfl, own3, m3, h3⟩
      have M3 := Lib.hid (M1.out.trans m3)
      have H3 := Lib.hid h3
      clear m3 h3
      cases hpp : W.rootsV.pollsB
      · have HW := Lib.hid (show W.rootsPoll = W.rootsV.polls by unfold CyW.rootsPoll; rw [hpp]; rfl)
        go_wp2_with fail
        (try rw [Exit.via_normal])
        exact bodyPost_end (results_none rfl _ _ _) rfl (Does.of ⟨own3, w3⟩ rfl rfl M3.out (by rw [HW.out]; exact H3.out.at_))
      · have HW := Lib.hid (show W.rootsPoll = W.rootsV.polls.ent 5 by unfold CyW.rootsPoll; rw [hpp]; rfl)
        go_wp2_with fail
        refine (cy_enters A 5 H3.out).mono ?_
        rintro e w4 ⟨rfl, own4, m4, h4⟩
        have M4 := Lib.hid (M3.out.trans m4)
        have H4 := Lib.hid h4
        clear m4 h4
        go_wp2_with fail
        (try rw [Exit.via_normal])
        exact bodyPost_end (results_none rfl _ _ _) rfl (Does.of ⟨own4, w4⟩ rfl rfl M4.out (by rw [HW.out]; exact H4.out.at_))
  · have d1 : decide (cm.globals ≤ W.y.i) = false := decide_eq_false hg
    have h1 : (W.y.at_ == 1) = true := beq_iff_eq.2 (hp.resolve_left hg)
    clear hp hg
    refine wp_region_mixed [true, true, true, true, true, true, true, true, true, true, true, true, true, true, true, true, true] 0 17 (by kernel_rfl) (by kernel_rfl) (by kernel_rfl) ?_ (by decide) (by decide) (by decide) (by kernel_rfl) ?_
    · intro c a d v w h; cases d <;> exact h
    intro X00
    simp only [pickOps]
    repeat (go_big_quiet_step (fail))
    refine wpQuiet_nil (fun X0 => ?_)
    clear X00
    refine wpAnyM_done (by kernel_rfl) (fun X0' => ?_) _
    (try go_simp)
    go_wp2_with fail
    go_step3
    refine via_next (via_here ?_)
    obtain ⟨own1, m1⟩ : ∃ own1, Mod (fun _ => False) g ⟨own1, g.w.patch ⟨X0.blocks ++ X0'.blocks, X0'.drawn⟩⟩ := ⟨_, Mod.pt (Mod.refl _ _) _⟩
    generalize g.w.patch ⟨X0.blocks ++ X0'.blocks, X0'.drawn⟩ = w1 at *
    have H1 := Lib.hid (HH.out.keep m1 (fun _ => False.elim) (fun _ => False.elim))
    have M1 := Lib.hid (m1.mono (S := cyT t B) (fun _ => False.elim))
    clear a0 a1 a2 a3 a4 a5 a6 a7 a8 a9 a10 a11 a12 a13 af1 al c0 c1 c2 c3 c4 c5 c6 c7 c8 c9 c10 c11 c12 cl
    clear m1
    by_cases h0 : W.y.at_ = 0
    · have hz : (W.y.at_ == 0) = true := beq_iff_eq.2 h0
      have HV := Lib.hid (show W.rootsV = { W with y := { W.y with at_ := 1, i := 0 } } from if_pos h0)
      have H2 := Lib.hid (show CyIn ⟨own1, (w1.setCell ⟨b, 1, none⟩ (.int .i64 1)).setCell ⟨b, 2, none⟩ (.int .i64 0)⟩ t B b k W.rootsV tp hp0 bm bs bt bp bsp bh cm from by rw [HV.out]; exact (H1.out.set A 1 (.int .i64 1) { W.y with at_ := 1 } rfl).set A 2 (.int .i64 0) { W.y with at_ := 1, i := 0 } rfl)
      have M2 := Lib.hid (show Mod (cyT t B) g ⟨own1, (w1.setCell ⟨b, 1, none⟩ (.int .i64 1)).setCell ⟨b, 2, none⟩ (.int .i64 0)⟩ from Mod.st (Mod.st M1.out H1.out.modY) H1.out.modY)
      have HDV := Lib.hid (show W.rootsV.Bd from by rw [HV.out]; exact ⟨⟨Int.le_refl _, by show (0 : Int) ≤ 1099511627776; decide⟩, HD.out.started, HD.out.finished, HD.out.freed, HD.out.moved, HD.out.steps, HD.out.hand, HD.out.sp, HD.out.mem, HD.out.n⟩)
      clear h0
      obtain ⟨a0, a1, a2, a3, a4, a5, a6, a7, a8, a9, a10, a11, a12, a13, al⟩ := H1.out.y.blk.c14
      have af1 := H1.out.y.blk.live 1
      have af2 := H1.out.y.blk.live 2
      (try simp only [GW.to] at a0 a1 a2 a3 a4 a5 a6 a7 a8 a9 a10 a11 a12 a13 af1 af2 al)
      go_wp2_with fail
      refine (cy_polls A HDV.out H2.out).mono ?_
      rintro e w3 ⟨rfl, own3, m3, h3⟩
      have M3 := Lib.hid (M2.out.trans m3)
      have H3 := Lib.hid h3
      clear m3 h3
      cases hpp : W.rootsV.pollsB
      · have HW := Lib.hid (show W.rootsPoll = W.rootsV.polls by unfold CyW.rootsPoll; rw [hpp]; rfl)
        go_wp2_with fail
        (try rw [Exit.via_normal])
        exact bodyPost_end (results_none rfl _ _ _) rfl (Does.of ⟨own3, w3⟩ rfl rfl M3.out (by rw [HW.out]; exact H3.out.at_))
      · have HW := Lib.hid (show W.rootsPoll = W.rootsV.polls.ent 5 by unfold CyW.rootsPoll; rw [hpp]; rfl)
        go_wp2_with fail
        refine (cy_enters A 5 H3.out).mono ?_
        rintro e w4 ⟨rfl, own4, m4, h4⟩
        have M4 := Lib.hid (M3.out.trans m4)
        have H4 := Lib.hid h4
        clear m4 h4
        go_wp2_with fail
        (try rw [Exit.via_normal])
        exact bodyPost_end (results_none rfl _ _ _) rfl (Does.of ⟨own4, w4⟩ rfl rfl M4.out (by rw [HW.out]; exact H4.out.at_))
    · have hz : (W.y.at_ == 0) = false := beq_eq_false_iff_ne.2 h0
      have HV := Lib.hid (show W.rootsV = W from if_neg h0)
      have HDV := Lib.hid (show W.rootsV.Bd from by rw [HV.out]; exact HD.out)
      have H2 := Lib.hid (show CyIn ⟨own1, w1⟩ t B b k W.rootsV tp hp0 bm bs bt bp bsp bh cm from by rw [HV.out]; exact H1.out)
      clear h0
      obtain ⟨a0, a1, a2, a3, a4, a5, a6, a7, a8, a9, a10, a11, a12, a13, al⟩ := H1.out.y.blk.c14
      have af1 := H1.out.y.blk.live 1
      have af2 := H1.out.y.blk.live 2
      (try simp only [GW.to] at a0 a1 a2 a3 a4 a5 a6 a7 a8 a9 a10 a11 a12 a13 af1 af2 al)
      go_wp2_with fail
      refine (cy_polls A HDV.out H2.out).mono ?_
      rintro e w3 ⟨rfl, own3, m3, h3⟩
      have M3 := Lib.hid (M1.out.trans m3)
      have H3 := Lib.hid h3
      clear m3 h3
      cases hpp : W.rootsV.pollsB
      · have HW := Lib.hid (show W.rootsPoll = W.rootsV.polls by unfold CyW.rootsPoll; rw [hpp]; rfl)
        go_wp2_with fail
        (try rw [Exit.via_normal])
        exact bodyPost_end (results_none rfl _ _ _) rfl (Does.of ⟨own3, w3⟩ rfl rfl M3.out (by rw [HW.out]; exact H3.out.at_))
      · have HW := Lib.hid (show W.rootsPoll = W.rootsV.polls.ent 5 by unfold CyW.rootsPoll; rw [hpp]; rfl)
        go_wp2_with fail
        refine (cy_enters A 5 H3.out).mono ?_
        rintro e w4 ⟨rfl, own4, m4, h4⟩
        have M4 := Lib.hid (M3.out.trans m4)
        have H4 := Lib.hid h4
        clear m4 h4
        go_wp2_with fail
        (try rw [Exit.via_normal])
        exact bodyPost_end (results_none rfl _ _ _) rfl (Does.of ⟨own4, w4⟩ rfl rfl M4.out (by rw [HW.out]; exact H4.out.at_))
theorem same_trans {a b c : Cnf} (h : a.Same b) (h' : b.Same c) : a.Same c := ⟨h.frags.trans h'.frags, h.spine.trans h'.spine, h.globals.trans h'.globals, h.threads.trans h'.threads, h.locals.trans h'.locals, h.cache.trans h'.cache, h.stack.trans h'.stack, h.low.trans h'.low, h.shapes.trans h'.shapes⟩
theorem CyIn.putH {tp hp : Option Addr} {bm bs bt bp bsp bh bx : Nat} {cm ch : Cnf} {S : HaulS} (H : CyIn g t B b k W tp hp bm bs bt bp bsp bh cm) (A : CyApart t B) (hS : HaulAt g (t + 3) bx { S with c := ch }) (hs : ch.Same S.c) : CyIn ⟨g.own, g.w.setCell ⟨b, 6, none⟩ (.pointer (some ⟨bx, 0, none⟩))⟩ t B b k { W with h := some S } tp (some ⟨bx, 0, none⟩) bm bs bt bp bsp bh cm := by
  have m : Mod (fun x => x = t) g ⟨g.own, g.w.setCell ⟨b, 6, none⟩ (.pointer (some ⟨bx, 0, none⟩))⟩ := Mod.set H.y.blk.own
  refine ⟨⟨H.y.blk.set 6 _, fun S hS => ?_, (fun h => by cases h), fun S' hS' => ?_⟩, H.c.keep m (fun x (hx : x = _) => by have := A.apart; omega)⟩
  · obtain ⟨bt, cm, h1, h2, h3⟩ := H.y.tr S hS
    exact ⟨bt, cm, h1, h2, h3.keep m (by omega) (by omega)⟩
  · injection hS' with hS'
    subst hS'
    exact ⟨bx, ch, rfl, hs, hS.keep m (by omega) (by omega)⟩
theorem CyIn.turnH {g' : GW} {tp : Option Addr} {bm bs bt bp bsp bh bx : Nat} {cm ch : Cnf} {S S' : HaulS} (H : CyIn g t B b k { W with h := some S } tp (some ⟨bx, 0, none⟩) bm bs bt bp bsp bh cm) (A : CyApart t B) (m : Mod (fun x => x = t + 3) g g') (hS : HaulAt g' (t + 3) bx { S' with c := ch }) (hs : ch.Same S'.c) : CyIn g' t B b k { W with h := some S' } tp (some ⟨bx, 0, none⟩) bm bs bt bp bsp bh cm := by
  refine ⟨⟨H.y.blk.keep m (by omega), fun S hS => ?_, (fun h => by cases h), fun S2 hS2 => ?_⟩, H.c.keep m (fun x (hx : x = _) => by have := A.apart; omega)⟩
  · obtain ⟨bt, cm, h1, h2, h3⟩ := H.y.tr S hS
    exact ⟨bt, cm, h1, h2, h3.keep m (by omega) (by omega)⟩
  · injection hS2 with hS2
    subst hS2
    exact ⟨bx, ch, rfl, hs, hS⟩
theorem cAt_global {c : Cnf} (hck : c.check = 0) {i : Int} (hi : 0 ≤ i ∧ i < c.globals) : cAt c 3 i = .tuple #[.int .i64 (i + cAhead c 3), .int .i64 0] := by
  unfold cAt
  rw [if_pos ⟨hi.1, by unfold cSize; rw [if_pos hck]; exact hi.2⟩]
theorem cy_roots_none (A : CyApart t B) (hd : W.Bd) (h0 : W.y.at_ = 0) (hi : 0 ≤ W.y.i ∧ W.y.i < W.K.c.globals) (hck : W.K.c.check = 0) (hin : inB (W.y.i + cAhead W.K.c 3) W.K.mem.l.length = true) (hw : wIndex (W.K.mem.peek (W.y.i + cAhead W.K.c 3)) = none) (H : CyWAt g t B b k W) : Calls Tryz.prog 99 #[.pointer (some ⟨b, 0, none⟩), .pointer (some ⟨k, 0, none⟩)] g.w (Does (.tuple #[]) g (cyT t B) (fun g' => CyWAt g' t B b k W.rootsNone)) := by
  obtain ⟨tp, hp0, bm, bs, bt, bp, bsp, bh, cm, H⟩ := H
  have HH := Lib.hid H
  have HD := Lib.hid hd
  have hckm : cm.check = 0 := by rw [H.c.same.check]; exact hck
  have hah : cAhead cm 3 = cAhead W.K.c 3 := by
    unfold cAhead
    rw [hckm, hck, H.c.same.frags, H.c.same.spine, H.c.same.globals]
  have HGL := Lib.hid (fun (g' : GW) (hc : CnfAt g' (B + 65) cm) => show Calls Tryz.prog 163 #[cm.val, .int .i64 W.y.i] g'.w (Gives (.tuple #[.int .i64 (W.y.i + cAhead W.K.c 3), .int .i64 0]) g'.w) from by
    have h1 := global_any cm W.y.i g'.w hc.ok
    rw [cAt_global hckm (by rw [H.c.same.globals]; exact hi), hah] at h1
    exact h1)
  unfold Cnf.val at HGL
  have d1 : decide (cm.globals ≤ W.y.i) = false := decide_eq_false (by rw [H.c.same.globals]; omega)
  obtain ⟨hi0, hi1⟩ := hd.i
  have HIN := Lib.hid hin
  have HW := Lib.hid hw
  obtain ⟨a0, a1, a2, a3, a4, a5, a6, a7, a8, a9, a10, a11, a12, a13, al⟩ := H.y.blk.c14
  have af1 := H.y.blk.live 1
  (try simp only [GW.to] at a0 a1 a2 a3 a4 a5 a6 a7 a8 a9 a10 a11 a12 a13 af1 al)
  obtain ⟨c0, c1, c2, c3, c4, c5, c6, c7, c8, c9, c10, c11, c12, cl⟩ := H.c.blk.c13
  (try simp only [GW.to] at c0 c1 c2 c3 c4 c5 c6 c7 c8 c9 c10 c11 c12 cl)
  rw [h0] at a1
  clear H hd h0 hi hck hckm hah hin hw
  generalize W.y.i + cAhead W.K.c 3 = ad at *
  go_enter Tryz.func99, Tryz.ntmps99
  go_wp2_with fail
  refine wp_scope_via2 0 1 rfl rfl ?_
  go_wp2_with fail
  refine wp_region_mixed [true, true, true, true, true, true, true, true, true, true, true, true, true, true, true, true, true] 0 17 (by kernel_rfl) (by kernel_rfl) (by kernel_rfl) ?_ (by decide) (by decide) (by decide) (by kernel_rfl) ?_
  · intro c a d v w h; cases d <;> exact h
  intro X00
  simp only [pickOps]
  repeat (go_big_quiet_step (fail))
  refine wpQuiet_nil (fun X0 => ?_)
  clear X00
  refine wpAnyM_done (by kernel_rfl) (fun X0' => ?_) _
  (try go_simp)
  obtain ⟨own1, m1⟩ : ∃ own1, Mod (fun _ => False) g ⟨own1, g.w.patch ⟨X0.blocks ++ X0'.blocks, X0'.drawn⟩⟩ := ⟨_, Mod.pt (Mod.refl _ _) _⟩
  generalize g.w.patch ⟨X0.blocks ++ X0'.blocks, X0'.drawn⟩ = w1 at *
  have H1 := Lib.hid (HH.out.keep m1 (fun _ => False.elim) (fun _ => False.elim))
  have M1 := Lib.hid (m1.mono (S := cyT t B) (fun _ => False.elim))
  clear a0 a1 a2 a3 a4 a5 a6 a7 a8 a9 a10 a11 a12 a13 af1 al c0 c1 c2 c3 c4 c5 c6 c7 c8 c9 c10 c11 c12 cl
  clear m1
  have HG2 := Lib.hid (fun X => HGL.out (GW.pt ⟨own1, w1⟩ X) (H1.out.pt X).c.cnf)
  obtain ⟨a0, a1, a2, a3, a4, a5, a6, a7, a8, a9, a10, a11, a12, a13, al⟩ := H1.out.y.blk.c14
  have af3 := H1.out.y.blk.live 3
  (try simp only [GW.to] at a0 a1 a2 a3 a4 a5 a6 a7 a8 a9 a10 a11 a12 a13 af3 al)
  obtain ⟨c0, c1, c2, c3, c4, c5, c6, c7, c8, c9, c10, c11, c12, cl⟩ := H1.out.c.blk.c13
  (try simp only [GW.to] at c0 c1 c2 c3 c4 c5 c6 c7 c8 c9 c10 c11 c12 cl)
  go_wp2_with fail
  refine wp_region_split_any [0] [false, true, true, true, true, true, true, true, true] 9 ?sp_o 7 ?sp1 ?sp2 ?spE ?sp3 ?sp4 ?sp5 ?sp6 ?sp7 ?sp8 ?sp9 ?sp10 ?sp11 ?sp12
  case sp10 => exact rfl
  case sp1 => kernel_rfl
  case sp2 => kernel_rfl
  case spE => kernel_rfl
  case sp3 => kernel_rfl
  case sp4 => (intro c a d v w h; cases d <;> exact h)
  case sp5 => decide
  case sp6 => decide
  case sp7 => decide
  case sp8 => kernel_rfl
  case sp9 => kernel_rfl
  case sp11 => exact rfl
  intro X00
  simp only [pickOps, movesAct, moveOf, List.getElem?_toArray, List.getElem?_cons_zero, List.getElem?_cons_succ]
  (try go_simp)
  repeat (go_big_quiet_step (fail))
  refine wpQuiet_nil (fun X0 K Q' hK => ?_)
  clear X00
  (try go_simp)
  refine (HG2.out _).mono ?_
  rintro e w2 ⟨rfl, hE2⟩
  obtain ⟨own2, m2⟩ : ∃ own2, Mod (fun _ => False) ⟨own1, w1⟩ ⟨own2, w2⟩ := ⟨_, Mod.ext (g := ⟨own1, w1⟩) (show Ext w1 w2 from (show Ext w1 (w1.patch X0) from ⟨X0, rfl⟩).trans hE2) 0⟩
  have H2 := Lib.hid (H1.out.keep m2 (fun _ => False.elim) (fun _ => False.elim))
  have M2 := Lib.hid (M1.out.trans (m2.mono (S := cyT t B) (fun _ => False.elim)))
  clear m2 hE2 a0 a1 a2 a3 a4 a5 a6 a7 a8 a9 a10 a11 a12 a13 af3 al c0 c1 c2 c3 c4 c5 c6 c7 c8 c9 c10 c11 c12 cl H1 M1 HGL HG2
  obtain ⟨a0, a1, a2, a3, a4, a5, a6, a7, a8, a9, a10, a11, a12, a13, al⟩ := H2.out.y.blk.c14
  have af3 := H2.out.y.blk.live 3
  (try simp only [GW.to] at a0 a1 a2 a3 a4 a5 a6 a7 a8 a9 a10 a11 a12 a13 af3 al)
  (try go_simp)
  refine hK _ _ ?_
  clear hK K Q'
  refine wpAny_pure_step (v := .tuple #[.int .i64 ad, .int .i64 0]) 10 _ rfl ?sp2 ?sp3 ?sp4 ?sp5 rfl (fun w => rfl) ?_
  case sp2 => kernel_rfl
  case sp3 => kernel_rfl
  case sp4 => kernel_rfl
  case sp5 => (intro c a d v w h; cases d <;> exact h)
  (try go_simp)
  refine wpAny_pure_step (v := .int .i64 ad) 11 _ rfl ?sp2 ?sp3 ?sp4 ?sp5 rfl (fun w => rfl) ?_
  case sp2 => kernel_rfl
  case sp3 => kernel_rfl
  case sp4 => kernel_rfl
  case sp5 => (intro c a d v w h; cases d <;> exact h)
  (try go_simp)
  refine wpAny_pure_step (v := .int .i64 0) 12 _ rfl ?sp2 ?sp3 ?sp4 ?sp5 rfl (fun w => rfl) ?_
  case sp2 => kernel_rfl
  case sp3 => kernel_rfl
  case sp4 => kernel_rfl
  case sp5 => (intro c a d v w h; cases d <;> exact h)
  (try go_simp)
  refine wpAny_pure_step (v := .pointer (some ⟨b, 0, none⟩)) 13 _ rfl ?sp2 ?sp3 ?sp4 ?sp5 rfl (fun w => rfl) ?_
  case sp2 => kernel_rfl
  case sp3 => kernel_rfl
  case sp4 => kernel_rfl
  case sp5 => (intro c a d v w h; cases d <;> exact h)
  (try go_simp)
  refine wpAny_pure_step (v := .pointer (some ⟨b, 3, none⟩)) 14 _ rfl ?sp2 ?sp3 ?sp4 ?sp5 rfl (fun w => rfl) ?_
  case sp2 => kernel_rfl
  case sp3 => kernel_rfl
  case sp4 => kernel_rfl
  case sp5 => (intro c a d v w h; cases d <;> exact h)
  (try go_simp)
  refine wpAny_loud_step 15 _ (by kernel_rfl) rfl rfl (fun K Q' hK => ?_)
  (try go_simp)
  refine hK _ _ ?_
  clear hK K Q'
  refine wpAny_pure_step (v := .int .i64 0) 16 _ rfl ?sp2 ?sp3 ?sp4 ?sp5 rfl (fun w => rfl) ?_
  case sp2 => kernel_rfl
  case sp3 => kernel_rfl
  case sp4 => kernel_rfl
  case sp5 => (intro c a d v w h; cases d <;> exact h)
  (try go_simp)
  refine wpAny_done (by kernel_rfl) ?_ _
  have H3 := Lib.hid (H2.out.set A 3 (.int .i64 ad) { W.y with head := ad } rfl)
  have M3 := Lib.hid (show Mod (cyT t B) g ⟨own2, w2.setCell ⟨b, 3, none⟩ (.int .i64 ad)⟩ from Mod.st M2.out H2.out.modY)
  generalize w2.setCell ⟨b, 3, none⟩ (.int .i64 ad) = w3 at *
  clear a0 a1 a2 a3 a4 a5 a6 a7 a8 a9 a10 a11 a12 a13 af3 al H2 M2
  have HRD := Lib.hid (fun X => mem_read (GW.pt ⟨own2, w3⟩ X) (B + 62) bm ad W.K.mem (H3.out.pt X).c.mem HD.out.mem)
  rw [HIN.out] at HRD
  obtain ⟨a0, a1, a2, a3, a4, a5, a6, a7, a8, a9, a10, a11, a12, a13, al⟩ := H3.out.y.blk.c14
  (try simp only [GW.to] at a0 a1 a2 a3 a4 a5 a6 a7 a8 a9 a10 a11 a12 a13 al)
  obtain ⟨c0, c1, c2, c3, c4, c5, c6, c7, c8, c9, c10, c11, c12, cl⟩ := H3.out.c.blk.c13
  (try simp only [GW.to] at c0 c1 c2 c3 c4 c5 c6 c7 c8 c9 c10 c11 c12 cl)
  go_wp2_with fail
  refine wp_region_split [true, true, true, true, true, true, true, true] 8 ?sp_ox1 [false, false, false, false, false, false, false, false, false, true, true, true, true, true] ?sp1x1 ?sp2x1 ?sp3x1 ?sp4x1 ?sp5x1 ?sp6x1 ?sp7x1 ?sp8x1 ?sp9x1 ?sp10x1 ?sp11x1 ?sp12x1 ?sp13x1 ?sp14x1 ?sp15x1
  case sp11x1 => exact rfl
  case sp1x1 => kernel_rfl
  case sp2x1 => kernel_rfl
  case sp3x1 => kernel_rfl
  case sp4x1 => (intro c a d v w h; cases d <;> exact h)
  case sp5x1 => decide
  case sp6x1 => decide
  case sp7x1 => decide
  case sp8x1 => decide
  case sp9x1 => kernel_rfl
  case sp10x1 => kernel_rfl
  case sp12x1 => exact rfl
  case sp13x1 => kernel_rfl
  case sp14x1 => kernel_rfl
  intro X00
  simp only [pickOps]
  repeat (go_big_quiet_step (fail))
  refine wpQuiet_nil ?_
  intro X0 K Q' hK
  clear X00
  (try go_simp)
  refine (HRD.out _).mono ?_
  rintro e w4 ⟨rfl, own4, m4, r4⟩
  have P4 := (Mod.pt (Mod.refl (fun x => x = B + 62) ⟨own2, w3⟩) _).trans m4
  have H4 := Lib.hid (show CyIn ⟨own4, w4⟩ t B b k { W with y := { W.y with head := ad }, K := { W.K with mem := W.K.mem.tick } } tp hp0 bm bs bt bp bsp bh cm from ⟨H3.out.y.keep P4 (fun x (hx : x = _) => by have := A.apart; omega), H3.out.c.putMem P4 r4⟩)
  have M4 := Lib.hid (M3.out.trans (P4.mono (S := cyT t B) (fun x (hx : x = B + 62) => Or.inr (by omega))))
  clear P4 m4 r4 a0 a1 a2 a3 a4 a5 a6 a7 a8 a9 a10 a11 a12 a13 al c0 c1 c2 c3 c4 c5 c6 c7 c8 c9 c10 c11 c12 cl H3 M3
  (try go_simp)
  refine hK _ _ (fun X00 => ?_)
  clear hK K Q'
  (try simp only [pickOps])
  repeat (go_big_quiet_step (fail))
  refine wpQuiet_nil (fun X2 => ?_)
  clear X00
  obtain ⟨own5, m5⟩ : ∃ own5, Mod (fun _ => False) ⟨own4, w4⟩ ⟨own5, w4.patch X2⟩ := ⟨_, Mod.pt (Mod.refl _ _) X2⟩
  have H5 := Lib.hid (H4.out.keep m5 (fun _ => False.elim) (fun _ => False.elim))
  have M5 := Lib.hid (M4.out.trans (m5.mono (S := cyT t B) (fun _ => False.elim)))
  generalize w4.patch X2 = w5 at *
  clear m5 H4 M4
  have HIX := Lib.hid (fun w' => index_any_w (W.K.mem.peek ad) w')
  rw [HW.out] at HIX
  generalize W.K.mem.peek ad = pq at *
  obtain ⟨p, q⟩ := pq
  (try simp only)
  go_wp2_with fail
  refine (HIX.out _).mono ?_
  rintro e w6 ⟨rfl, hE6⟩
  obtain ⟨own6, m6⟩ : ∃ own6, Mod (fun _ => False) ⟨own5, w5⟩ ⟨own6, w6⟩ := ⟨_, Mod.ext (g := ⟨own5, w5⟩) (show Ext w5 w6 from hE6) 0⟩
  have H6 := Lib.hid (H5.out.keep m6 (fun _ => False.elim) (fun _ => False.elim))
  have M6 := Lib.hid (M5.out.trans (m6.mono (S := cyT t B) (fun _ => False.elim)))
  clear m6 hE6 H5 M5
  unfold optV
  have H7 := Lib.hid (((H6.out.set A 3 (.int .i64 0) { W.y with head := 0 } rfl).set A 1 (.int .i64 0) { W.y with head := 0, at_ := 0 } rfl).set A 2 (.int .i64 (W.y.i + 1)) { W.y with head := 0, at_ := 0, i := W.y.i + 1 } rfl)
  have M7 := Lib.hid (show Mod (cyT t B) g ⟨own6, ((w6.setCell ⟨b, 3, none⟩ (.int .i64 0)).setCell ⟨b, 1, none⟩ (.int .i64 0)).setCell ⟨b, 2, none⟩ (.int .i64 (W.y.i + 1))⟩ from Mod.st (Mod.st (Mod.st M6.out H6.out.modY) H6.out.modY) H6.out.modY)
  obtain ⟨a0, a1, a2, a3, a4, a5, a6, a7, a8, a9, a10, a11, a12, a13, al⟩ := H6.out.y.blk.c14
  have af1 := H6.out.y.blk.live 1
  have af2 := H6.out.y.blk.live 2
  have af3 := H6.out.y.blk.live 3
  (try simp only [GW.to] at a0 a1 a2 a3 a4 a5 a6 a7 a8 a9 a10 a11 a12 a13 af1 af2 af3 al)
  obtain ⟨hi0, hi1⟩ := HD.out.i
  go_wp2_with fail
  go_step3
  go_wp2_with fail
  rw [Exit.via_ret]
  exact bodyPost_ret (results_none rfl _ _ _) rfl (Does.of ⟨own6, ((w6.setCell ⟨b, 3, none⟩ (.int .i64 0)).setCell ⟨b, 1, none⟩ (.int .i64 0)).setCell ⟨b, 2, none⟩ (.int .i64 (W.y.i + 1))⟩ rfl rfl M7.out H7.out.at_)
theorem cy_marks_empty (A : CyApart t B) (hd : W.Bd) (h0 : W.y.at_ = 0) (hp : W.K.pile.some_ = false) (H : CyWAt g t B b k W) : Calls Tryz.prog 100 #[.pointer (some ⟨b, 0, none⟩), .pointer (some ⟨k, 0, none⟩)] g.w (Does (.tuple #[]) g (cyT t B) (fun g' => CyWAt g' t B b k W.marksEmpty)) := by
  obtain ⟨tp, hp0, bm, bs, bt, bp, bsp, bh, cm, H⟩ := H
  have HH := Lib.hid H
  have HN := Lib.hid (shade_next g (B + 60) bs bt (B + 50) bp (B + 61) W.K.sp.tab W.K.pile W.K.n H.c.shd hd.n (by omega) (by omega) (by omega))
  rw [hp] at HN
  obtain ⟨a0, a1, a2, a3, a4, a5, a6, a7, a8, a9, a10, a11, a12, a13, al⟩ := H.y.blk.c14
  have af1 := H.y.blk.live 1
  (try simp only [GW.to] at a0 a1 a2 a3 a4 a5 a6 a7 a8 a9 a10 a11 a12 a13 af1 al)
  obtain ⟨c0, c1, c2, c3, c4, c5, c6, c7, c8, c9, c10, c11, c12, cl⟩ := H.c.blk.c13
  (try simp only [GW.to] at c0 c1 c2 c3 c4 c5 c6 c7 c8 c9 c10 c11 c12 cl)
  rw [h0] at a1
  clear H hd h0 hp
  go_enter Tryz.func100, Tryz.ntmps100
  go_wp2_with fail
  go_step3
  go_wp2_with fail
  refine HN.out.mono ?_
  rintro e w1 ⟨rfl, own1, m1, h1⟩
  have M1 := Lib.hid (m1.mono (S := cyT t B) (fun x hx => Or.inr (by omega)))
  have H1 := Lib.hid (show CyIn ⟨own1, w1⟩ t B b k { W with K := { W.K with pile := W.K.pile.pop, n := W.K.n + 1 } } tp hp0 bm bs bt bp bsp bh cm from ⟨HH.out.y.keep m1 (fun x hx => by have := A.apart; omega), HH.out.c.putShd (m1.mono (fun x hx => by omega)) h1⟩)
  clear a0 a1 a2 a3 a4 a5 a6 a7 a8 a9 a10 a11 a12 a13 af1 al c0 c1 c2 c3 c4 c5 c6 c7 c8 c9 c10 c11 c12 cl
  clear m1 h1 HN
  have H2 := Lib.hid (((H1.out.set A 3 (.int .i64 W.K.pile.top) { W.y with head := W.K.pile.top } rfl).set A 1 (.int .i64 5) { W.y with head := W.K.pile.top, at_ := 5 } rfl).set A 4 (.bool false) { W.y with head := W.K.pile.top, at_ := 5, rescan := false } rfl)
  obtain ⟨a0, a1, a2, a3, a4, a5, a6, a7, a8, a9, a10, a11, a12, a13, al⟩ := H1.out.y.blk.c14
  have af1 := H1.out.y.blk.live 1
  have af3 := H1.out.y.blk.live 3
  have af4 := H1.out.y.blk.live 4
  (try simp only [GW.to] at a0 a1 a2 a3 a4 a5 a6 a7 a8 a9 a10 a11 a12 a13 af1 af3 af4 al)
  go_wp2_with fail
  rw [Exit.noGoto_ret]
  exact bodyPost_ret (results_none rfl _ _ _) rfl (Does.of ⟨own1, ((w1.setCell ⟨b, 3, none⟩ (.int .i64 W.K.pile.top)).setCell ⟨b, 1, none⟩ (.int .i64 5)).setCell ⟨b, 4, none⟩ (.bool false)⟩ rfl rfl (Mod.st (Mod.st (Mod.st M1.out H1.out.modY) H1.out.modY) H1.out.modY) H2.out.at_)
theorem cy_marks_found (A : CyApart t B) (hd : W.Bd) (h5 : W.y.at_ = 5) (hp : W.K.pile.lost = false) (H : CyWAt g t B b k W) : Calls Tryz.prog 100 #[.pointer (some ⟨b, 0, none⟩), .pointer (some ⟨k, 0, none⟩)] g.w (Does (.tuple #[]) g (cyT t B) (fun g' => CyWAt g' t B b k W.marksFound)) := by
  obtain ⟨tp, hp0, bm, bs, bt, bp, bsp, bh, cm, H⟩ := H
  have HH := Lib.hid H
  have HN := Lib.hid (shade_lost g (B + 60) bs bt (B + 50) bp (B + 61) W.K.sp.tab W.K.pile W.K.n H.c.shd hd.n (by omega) (by omega) (by omega))
  rw [hp] at HN
  obtain ⟨a0, a1, a2, a3, a4, a5, a6, a7, a8, a9, a10, a11, a12, a13, al⟩ := H.y.blk.c14
  have af1 := H.y.blk.live 1
  (try simp only [GW.to] at a0 a1 a2 a3 a4 a5 a6 a7 a8 a9 a10 a11 a12 a13 af1 al)
  obtain ⟨c0, c1, c2, c3, c4, c5, c6, c7, c8, c9, c10, c11, c12, cl⟩ := H.c.blk.c13
  (try simp only [GW.to] at c0 c1 c2 c3 c4 c5 c6 c7 c8 c9 c10 c11 c12 cl)
  rw [h5] at a1
  clear H hd h5 hp
  go_enter Tryz.func100, Tryz.ntmps100
  go_wp2_with fail
  refine wp_scope_via3 0 1 2 rfl rfl rfl ?_
  go_wp2_with fail
  go_step3
  refine via_next (via_here ?_)
  go_wp2_with fail
  refine HN.out.mono ?_
  rintro e w1 ⟨rfl, own1, m1, h1⟩
  have M1 := Lib.hid (m1.mono (S := cyT t B) (fun x hx => Or.inr (by omega)))
  have H1 := Lib.hid (show CyIn ⟨own1, w1⟩ t B b k { W with K := { W.K with pile := W.K.pile.found, n := W.K.n + 1 } } tp hp0 bm bs bt bp bsp bh cm from ⟨HH.out.y.keep m1 (fun x hx => by have := A.apart; omega), HH.out.c.putShd (m1.mono (fun x hx => by omega)) h1⟩)
  clear a0 a1 a2 a3 a4 a5 a6 a7 a8 a9 a10 a11 a12 a13 af1 al c0 c1 c2 c3 c4 c5 c6 c7 c8 c9 c10 c11 c12 cl
  clear m1 h1 HN
  go_wp2_with fail
  refine (cy_enters A 6 H1.out).mono ?_
  rintro e w2 ⟨rfl, own2, m2, h2⟩
  have M2 := Lib.hid (M1.out.trans m2)
  have H2 := Lib.hid h2
  clear m2 h2
  go_wp2_with fail
  rw [Exit.via_ret]
  exact bodyPost_ret (results_none rfl _ _ _) rfl (Does.of ⟨own2, w2⟩ rfl rfl M2.out H2.out.at_)
theorem cy_hauls_none (A : CyApart t B) (hd : W.Bd) (h0 : W.y.at_ = 0) (hh : W.h = none) (hck : W.K.c.check = 0) (hu : W.K.sp.coil.used (1 - W.K.sp.coil.cur) = 0) (H : CyWAt g t B b k W) : Calls Tryz.prog 102 #[.pointer (some ⟨b, 0, none⟩), .pointer (some ⟨k, 0, none⟩)] g.w (Does (.tuple #[]) g (cyT t B) (fun g' => CyWAt g' t B b k W.haulsNone)) := by
  obtain ⟨tp, hp, bm, bs, bt, bp, bsp, bh, cm, H⟩ := H
  obtain rfl := H.y.hn hh
  have HH := Lib.hid H
  have HD := Lib.hid hd
  have hckm : cm.check = 0 := by rw [H.c.same.check]; exact hck
  have hcmx : cm.shapes.length ≤ 1000000 := by
    have h9 := (Cnf.check_zero hckm).2.2.1
    unfold within at h9
    simp only [decide_eq_true_eq] at h9
    omega
  obtain ⟨bpp, bk, bl, A1, cs, cms, bss, hsp⟩ := H.c.sp
  have HSP := Lib.hid hsp
  have hcur : W.K.sp.coil.cur < 2 := hsp.coil.ok.cur
  obtain ⟨lf, hlf⟩ : ∃ lf : Nat, (1 : Int) - W.K.sp.coil.cur = lf ∧ lf < 2 ∧ 1 - W.K.sp.coil.cur = lf := ⟨1 - W.K.sp.coil.cur, by omega, by omega, rfl⟩
  obtain ⟨hl1, hl2, hl3⟩ := hlf
  rw [hl3] at hu
  have HLF := Lib.hid hl1
  have HSC := Lib.hid (fun w' => sh_coil w' cms bpp bk bl)
  have HCC := Lib.hid (fun X => coil_current (g.pt X) (B + 2) bk W.K.sp.coil (hsp.coil.pt X))
  have HCU := Lib.hid (fun X => (coil_used (g.pt X) (B + 2) bk lf W.K.sp.coil (hsp.coil.pt X) hl2).mono (show ∀ e w', _ → Gives (.int .i64 0) (g.pt X).w e w' from fun e w' h => by
    obtain ⟨rfl, rfl⟩ := h
    rw [hu]
    exact Gives.mk rfl (Ext.refl _)))
  have HU := Lib.hid hu
  have HMX := Lib.hid hcmx
  have HCKM := Lib.hid hckm
  obtain ⟨a0, a1, a2, a3, a4, a5, a6, a7, a8, a9, a10, a11, a12, a13, al⟩ := H.y.blk.c14
  have af1 := H.y.blk.live 1
  (try simp only [GW.to] at a0 a1 a2 a3 a4 a5 a6 a7 a8 a9 a10 a11 a12 a13 af1 al)
  obtain ⟨c0, c1, c2, c3, c4, c5, c6, c7, c8, c9, c10, c11, c12, cl⟩ := H.c.blk.c13
  (try simp only [GW.to] at c0 c1 c2 c3 c4 c5 c6 c7 c8 c9 c10 c11 c12 cl)
  rw [h0] at a1
  obtain ⟨s0, s1, s2, s3, s4, s5, s6, s7, s8, s9, s10, s11, s12, s13, s14, s15, sl⟩ := hsp.blk.c16
  (try simp only [GW.to] at s0 s1 s2 s3 s4 s5 s6 s7 s8 s9 s10 s11 s12 s13 s14 s15 sl)
  clear H hd h0 hck hh hsp hu hcmx hckm
  unfold shelves at HSC
  go_enter Tryz.func102, Tryz.ntmps102
  go_wp2_with fail
  refine (HSC.out _).mono ?_
  rintro e w1 ⟨rfl, X1, rfl⟩
  go_wp2_with fail
  refine (HCC.out X1).mono ?_
  rintro e w1 ⟨rfl, rfl⟩
  simp only [GW.pt, GW.to]
  go_wp2_with fail
  clear hl1 hl3
  obtain ⟨own1, m1⟩ : ∃ own1, Mod (fun _ => False) g ⟨own1, g.w.patch X1⟩ := ⟨_, Mod.pt (Mod.refl _ _) X1⟩
  have HSP1 := Lib.hid (HSP.out.keep m1 (fun _ => False.elim))
  have H1 := Lib.hid (HH.out.keep m1 (fun _ => False.elim) (fun _ => False.elim))
  have M1 := Lib.hid (m1.mono (S := cyT t B) (fun _ => False.elim))
  generalize g.w.patch X1 = w1 at *
  clear m1 HCC HCU HSP
  clear a0 a1 a2 a3 a4 a5 a6 a7 a8 a9 a10 a11 a12 a13 af1 al c0 c1 c2 c3 c4 c5 c6 c7 c8 c9 c10 c11 c12 cl
  clear s0 s1 s2 s3 s4 s5 s6 s7 s8 s9 s10 s11 s12 s13 s14 s15 sl
  have HCU1 := Lib.hid (fun X => (coil_used (GW.pt ⟨own1, w1⟩ X) (B + 2) bk lf W.K.sp.coil (HSP1.out.coil.pt X) hl2).mono (show ∀ e w', _ → Gives (.int .i64 0) (GW.pt ⟨own1, w1⟩ X).w e w' from fun e w' h => by
    obtain ⟨rfl, rfl⟩ := h
    rw [HU.out]
    exact Gives.mk rfl (Ext.refl _)))
  have HNW := Lib.hid (fun X => haul_new cm lf 0 W.y.sense (t + 3) (GW.pt ⟨own1, w1⟩ X) (H1.out.pt X).c.cnf.ok HMX.out)
  unfold Cnf.val at HNW
  obtain ⟨a0, a1, a2, a3, a4, a5, a6, a7, a8, a9, a10, a11, a12, a13, al⟩ := H1.out.y.blk.c14
  have af6 := H1.out.y.blk.live 6
  (try simp only [GW.to] at a0 a1 a2 a3 a4 a5 a6 a7 a8 a9 a10 a11 a12 a13 af6 al)
  obtain ⟨c0, c1, c2, c3, c4, c5, c6, c7, c8, c9, c10, c11, c12, cl⟩ := H1.out.c.blk.c13
  (try simp only [GW.to] at c0 c1 c2 c3 c4 c5 c6 c7 c8 c9 c10 c11 c12 cl)
  obtain ⟨s0, s1, s2, s3, s4, s5, s6, s7, s8, s9, s10, s11, s12, s13, s14, s15, sl⟩ := HSP1.out.blk.c16
  (try simp only [GW.to] at s0 s1 s2 s3 s4 s5 s6 s7 s8 s9 s10 s11 s12 s13 s14 s15 sl)
  refine wp_region_split_any [0] [false, true, true, true, true, true, true, true, true, true, true, true, true, true, true, true, true, true, true, true] 20 ?sp_ox2 3 ?sp1x2 ?sp2x2 ?spEx2 ?sp3x2 ?sp4x2 ?sp5x2 ?sp6x2 ?sp7x2 ?sp8x2 ?sp9x2 ?sp10x2 ?sp11x2 ?sp12x2
  case sp10x2 => exact rfl
  case sp1x2 => kernel_rfl
  case sp2x2 => kernel_rfl
  case spEx2 => kernel_rfl
  case sp3x2 => kernel_rfl
  case sp4x2 => (intro c a d v w h; cases d <;> exact h)
  case sp5x2 => decide
  case sp6x2 => decide
  case sp7x2 => decide
  case sp8x2 => kernel_rfl
  case sp9x2 => kernel_rfl
  case sp11x2 => exact rfl
  intro X00
  simp only [pickOps, movesAct, moveOf, List.getElem?_toArray, List.getElem?_cons_zero, List.getElem?_cons_succ]
  (try go_simp)
  repeat (go_big_quiet_step (first | (go_at_call 11; exact Calls.added (HSC.out _)) | (go_at_call 192; exact Calls.added (HCU1.out _))))
  refine wpQuiet_nil (fun X0 K Q' hK => ?_)
  clear X00
  (try go_simp)
  refine (HNW.out _).mono ?_
  rintro e w2 ⟨own2, bh2, cmh, rfl, m2, ha2, hsm2⟩
  have P2 := (Mod.pt (Mod.refl (fun _ => False) ⟨own1, w1⟩) _).trans m2
  have H2 := Lib.hid (H1.out.keep P2 (fun _ => False.elim) (fun _ => False.elim))
  have HSP2 := Lib.hid (HSP1.out.keep P2 (fun _ => False.elim))
  have M2 := Lib.hid (M1.out.trans (P2.mono (S := cyT t B) (fun _ => False.elim)))
  have HA2 := Lib.hid ha2
  have HSM := Lib.hid hsm2
  clear P2 m2 ha2 hsm2 a0 a1 a2 a3 a4 a5 a6 a7 a8 a9 a10 a11 a12 a13 af6 al c0 c1 c2 c3 c4 c5 c6 c7 c8 c9 c10 c11 c12 cl s0 s1 s2 s3 s4 s5 s6 s7 s8 s9 s10 s11 s12 s13 s14 s15 sl H1 HSP1 M1 HCU1 HNW
  obtain ⟨a0, a1, a2, a3, a4, a5, a6, a7, a8, a9, a10, a11, a12, a13, al⟩ := H2.out.y.blk.c14
  have af6 := H2.out.y.blk.live 6
  (try simp only [GW.to] at a0 a1 a2 a3 a4 a5 a6 a7 a8 a9 a10 a11 a12 a13 af6 al)
  (try go_simp)
  refine hK _ _ ?_
  clear hK K Q'
  refine wpAny_pure_step (v := .pointer (some ⟨b, 0, none⟩)) 21 _ rfl ?sp2 ?sp3 ?sp4 ?sp5 rfl (fun w => rfl) ?_
  case sp2 => kernel_rfl
  case sp3 => kernel_rfl
  case sp4 => kernel_rfl
  case sp5 => (intro c a d v w h; cases d <;> exact h)
  (try go_simp)
  refine wpAny_pure_step (v := .pointer (some ⟨b, 6, none⟩)) 22 _ rfl ?sp2 ?sp3 ?sp4 ?sp5 rfl (fun w => rfl) ?_
  case sp2 => kernel_rfl
  case sp3 => kernel_rfl
  case sp4 => kernel_rfl
  case sp5 => (intro c a d v w h; cases d <;> exact h)
  (try go_simp)
  refine wpAny_loud_step 23 _ (by kernel_rfl) rfl rfl (fun K Q' hK => ?_)
  (try go_simp)
  refine hK _ _ ?_
  clear hK K Q'
  refine wpAny_done (by kernel_rfl) ?_ _
  have HSX := Lib.hid (same_trans HSM.out H2.out.c.same)
  have H3 := Lib.hid (show CyIn ⟨own2, w2.setCell ⟨b, 6, none⟩ (.pointer (some ⟨bh2, 0, none⟩))⟩ t B b k { W with h := some (HaulS.fresh W.K.c lf 0 W.y.sense) } tp (some ⟨bh2, 0, none⟩) bm bs bt bp bsp bh cm from H2.out.putH A HA2.out HSX.out)
  have HA3 := Lib.hid (HA2.out.keep (Mod.set (T := fun x => x = t) (g := ⟨own2, w2⟩) (b := b) (i := 6) (v := .pointer (some ⟨bh2, 0, none⟩)) H2.out.y.blk.own) (by omega) (by omega))
  have HSP3 := Lib.hid (HSP2.out.keep (Mod.set (T := fun x => x = t) (g := ⟨own2, w2⟩) (b := b) (i := 6) (v := .pointer (some ⟨bh2, 0, none⟩)) H2.out.y.blk.own) (fun x (hx : x = _) => by have := A.apart; omega))
  have M3 := Lib.hid (show Mod (cyT t B) g ⟨own2, w2.setCell ⟨b, 6, none⟩ (.pointer (some ⟨bh2, 0, none⟩))⟩ from Mod.st M2.out H2.out.modY)
  generalize w2.setCell ⟨b, 6, none⟩ (.pointer (some ⟨bh2, 0, none⟩)) = w3 at *
  clear a0 a1 a2 a3 a4 a5 a6 a7 a8 a9 a10 a11 a12 a13 af6 al H2 HSP2 M2 HA2
  have HCKH := Lib.hid (show cmh.check = 0 from by rw [HSM.out.check]; exact HCKM.out)
  have HST := Lib.hid (fun X => haul_step_none (GW.pt ⟨own2, w3⟩ X) (t + 3) bh2 bm bs bk (HaulS.fresh cmh lf 0 W.y.sense) (HA3.out.keep (Mod.pt (Mod.refl (fun _ => False) _) X) id id) rfl rfl ⟨Int.le_refl _, by show (0 : Int) ≤ 1099511627776; decide⟩ HCKH.out (by show (lf : Int) = 0 ∨ (lf : Int) = 1; omega))
  obtain ⟨a0, a1, a2, a3, a4, a5, a6, a7, a8, a9, a10, a11, a12, a13, al⟩ := H3.out.y.blk.c14
  (try simp only [GW.to] at a0 a1 a2 a3 a4 a5 a6 a7 a8 a9 a10 a11 a12 a13 al)
  obtain ⟨c0, c1, c2, c3, c4, c5, c6, c7, c8, c9, c10, c11, c12, cl⟩ := H3.out.c.blk.c13
  (try simp only [GW.to] at c0 c1 c2 c3 c4 c5 c6 c7 c8 c9 c10 c11 c12 cl)
  obtain ⟨s0, s1, s2, s3, s4, s5, s6, s7, s8, s9, s10, s11, s12, s13, s14, s15, sl⟩ := HSP3.out.blk.c16
  (try simp only [GW.to] at s0 s1 s2 s3 s4 s5 s6 s7 s8 s9 s10 s11 s12 s13 s14 s15 sl)
  go_wp2_with fail
  refine wp_region_mixed [true, true, true, true, true, true, true, true, true, true, true, true, true, true, true, true, true, true, true, true, false] 1 20 (by kernel_rfl) (by kernel_rfl) (by kernel_rfl) ?_ (by decide) (by decide) (by decide) (by kernel_rfl) ?_
  · intro c a d v w h; cases d <;> exact h
  intro X00
  simp only [pickOps]
  repeat (go_big_quiet_step ((go_at_call 11; exact Calls.added (HSC.out _))))
  refine wpQuiet_nil (fun X0 => ?_)
  clear X00
  refine wpAnyM_tailL rfl (by kernel_rfl) (fun X2 => ?_)
  simp only [List.drop_succ_cons, List.drop_zero]
  go_wp2_with fail
  refine (HST.out _).mono ?_
  rintro e w4 ⟨rfl, own4, m4, h4, -⟩
  have P4 := (Mod.pt (Mod.refl (fun x => x = t + 3) ⟨own2, w3⟩) _).trans m4
  have H4 := Lib.hid (show CyIn ⟨own4, w4⟩ t B b k { W with h := some { HaulS.fresh W.K.c lf 0 W.y.sense with steps := 0 + 1, pc := 11 } } tp (some ⟨bh2, 0, none⟩) bm bs bt bp bsp bh cm from H3.out.turnH A P4 h4 HSX.out)
  have HA4 := Lib.hid h4
  have M4 := Lib.hid (M3.out.trans (P4.mono (S := cyT t B) (fun x (hx : x = t + 3) => Or.inl (by omega))))
  clear P4 m4 h4 a0 a1 a2 a3 a4 a5 a6 a7 a8 a9 a10 a11 a12 a13 al c0 c1 c2 c3 c4 c5 c6 c7 c8 c9 c10 c11 c12 cl s0 s1 s2 s3 s4 s5 s6 s7 s8 s9 s10 s11 s12 s13 s14 s15 sl H3 HSP3 M3 HA3 HST HSC
  have H5 := Lib.hid (H4.out.set A 13 (.int .i64 0) { W.y with e := 0 } rfl)
  have HA5 := Lib.hid (HA4.out.keep (Mod.set (T := fun x => x = t) (g := ⟨own4, w4⟩) (b := b) (i := 13) (v := .int .i64 0) H4.out.y.blk.own) (by omega) (by omega))
  have M5 := Lib.hid (show Mod (cyT t B) g ⟨own4, w4.setCell ⟨b, 13, none⟩ (.int .i64 0)⟩ from Mod.st M4.out H4.out.modY)
  obtain ⟨a0, a1, a2, a3, a4, a5, a6, a7, a8, a9, a10, a11, a12, a13, al⟩ := H4.out.y.blk.c14
  have af13 := H4.out.y.blk.live 13
  (try simp only [GW.to] at a0 a1 a2 a3 a4 a5 a6 a7 a8 a9 a10 a11 a12 a13 af13 al)
  go_wp2_with fail
  refine (haul_errno ⟨own4, w4⟩ (t + 3) bh2 _ HA4.out).mono ?_
  rintro e w4' ⟨rfl, rfl⟩
  (try simp only [HaulS.fresh])
  go_upto_region 8 with fail
  generalize w4.setCell ⟨b, 13, none⟩ (.int .i64 0) = w5 at *
  clear a0 a1 a2 a3 a4 a5 a6 a7 a8 a9 a10 a11 a12 a13 af13 al H4 M4 HA4
  have HMV := Lib.hid (fun X => (haul_moved (GW.pt ⟨own4, w5⟩ X) (t + 3) bh2 _ (HA5.out.keep (Mod.pt (Mod.refl (fun _ => False) _) X) id id)).mono (show ∀ e w', _ → Gives (.int .i64 0) (GW.pt ⟨own4, w5⟩ X).w e w' from fun e w' h => by
    obtain ⟨rfl, rfl⟩ := h
    exact Gives.mk rfl (Ext.refl _)))
  obtain ⟨hm0, hm1⟩ := HD.out.moved
  have e0 : IntKind.i64.wrap (W.y.moved + 0) = W.y.moved := by rw [IntWalk.i64_in _ (by omega)]; omega
  obtain ⟨a0, a1, a2, a3, a4, a5, a6, a7, a8, a9, a10, a11, a12, a13, al⟩ := H5.out.y.blk.c14
  have af11 := H5.out.y.blk.live 11
  (try simp only [GW.to] at a0 a1 a2 a3 a4 a5 a6 a7 a8 a9 a10 a11 a12 a13 af11 al)
  refine wp_region_mixed [true, true, true, true, true, true, true, true, true, true, true, true, false] 1 12 (by kernel_rfl) (by kernel_rfl) (by kernel_rfl) ?_ (by decide) (by decide) (by decide) (by kernel_rfl) ?_
  · intro c a d v w h; cases d <;> exact h
  intro X00
  simp only [pickOps]
  repeat (go_big_quiet_step ((go_at_call 195; exact Calls.added (HMV.out _))))
  refine wpQuiet_nil (fun X0 => ?_)
  clear X00
  refine wpAnyM_last 12 _ (by kernel_rfl) (by kernel_rfl) rfl rfl (fun X1 K Q' hK => ?_)
  go_simp
  refine hK _ _ (fun X2 => ?_)
  clear hK K Q'
  (try go_simp)
  obtain ⟨own6, m6⟩ : ∃ own6, Mod (fun _ => False) ⟨own4, w5.setCell ⟨b, 11, none⟩ (.int .i64 W.y.moved)⟩ ⟨own6, (w5.setCell ⟨b, 11, none⟩ (.int .i64 W.y.moved)).patch ⟨X0.blocks ++ (X1.blocks ++ X2.blocks), X2.drawn⟩⟩ := ⟨_, Mod.pt (Mod.refl _ _) _⟩
  generalize (w5.setCell ⟨b, 11, none⟩ (.int .i64 W.y.moved)).patch ⟨X0.blocks ++ (X1.blocks ++ X2.blocks), X2.drawn⟩ = w6 at *
  have H6 := Lib.hid ((H5.out.set A 11 (.int .i64 W.y.moved) { W.y with e := 0 } rfl).keep m6 (fun _ => False.elim) (fun _ => False.elim))
  have M6 := Lib.hid ((Mod.st (i := 11) (v := .int .i64 W.y.moved) M5.out H5.out.modY).trans (m6.mono (S := cyT t B) (fun _ => False.elim)))
  clear m6 a0 a1 a2 a3 a4 a5 a6 a7 a8 a9 a10 a11 a12 a13 af11 al H5 M5 HA5 HMV e0
  have H7 := Lib.hid (H6.out.set A 1 (.int .i64 2) { W.y with e := 0, at_ := 2 } rfl)
  obtain ⟨a0, a1, a2, a3, a4, a5, a6, a7, a8, a9, a10, a11, a12, a13, al⟩ := H6.out.y.blk.c14
  have af1 := H6.out.y.blk.live 1
  (try simp only [GW.to] at a0 a1 a2 a3 a4 a5 a6 a7 a8 a9 a10 a11 a12 a13 af1 al)
  go_wp2_with fail
  have HF := Lib.hid (show W.haulsNone = { W with h := some { HaulS.fresh W.K.c lf 0 W.y.sense with steps := 0 + 1, pc := 11 }, y := { W.y with e := 0, at_ := 2 } } from by unfold CyW.haulsNone CyW.hauled; rw [HLF.out]; rfl)
  exact bodyPost_end (results_none rfl _ _ _) rfl (Does.of ⟨own6, w6.setCell ⟨b, 1, none⟩ (.int .i64 2)⟩ rfl rfl (Mod.st M6.out H6.out.modY) (by rw [HF.out]; exact H7.out.at_))
theorem cy_hauls_post (A : CyApart t B) (hd : W.Bd) (h2 : W.y.at_ = 2) (H : CyWAt g t B b k W) : Calls Tryz.prog 102 #[.pointer (some ⟨b, 0, none⟩), .pointer (some ⟨k, 0, none⟩)] g.w (Does (.tuple #[]) g (cyT t B) (fun g' => CyWAt g' t B b k W.haulsPost)) := by
  obtain ⟨tp, hp, bm, bs, bt, bp, bsp, bh, cm, H⟩ := H
  have HH := Lib.hid H
  have HD := Lib.hid hd
  obtain ⟨a0, a1, a2, a3, a4, a5, a6, a7, a8, a9, a10, a11, a12, a13, al⟩ := H.y.blk.c14
  have af1 := H.y.blk.live 1
  (try simp only [GW.to] at a0 a1 a2 a3 a4 a5 a6 a7 a8 a9 a10 a11 a12 a13 af1 al)
  obtain ⟨c0, c1, c2, c3, c4, c5, c6, c7, c8, c9, c10, c11, c12, cl⟩ := H.c.blk.c13
  (try simp only [GW.to] at c0 c1 c2 c3 c4 c5 c6 c7 c8 c9 c10 c11 c12 cl)
  rw [h2] at a1
  clear H hd h2
  go_enter Tryz.func102, Tryz.ntmps102
  go_wp2_with fail
  refine (hand_post g (B + 63) bh 0 false W.K.hand HH.out.c.hand HD.out.hand).mono ?_
  rintro e w1 ⟨rfl, own1, m1, h1⟩
  have M1 := Lib.hid (m1.mono (S := cyT t B) (fun x hx => cyT_hand hx))
  have H1 := Lib.hid (show CyIn ⟨own1, w1⟩ t B b k (W.posts 0 false) tp hp bm bs bt bp bsp bh cm from HH.out.hand A m1 h1)
  clear a0 a1 a2 a3 a4 a5 a6 a7 a8 a9 a10 a11 a12 a13 af1 al c0 c1 c2 c3 c4 c5 c6 c7 c8 c9 c10 c11 c12 cl
  clear m1 h1
  go_wp2_with fail
  refine (cy_enters A 8 H1.out).mono ?_
  rintro e w2 ⟨rfl, own2, m2, h2⟩
  have M2 := Lib.hid (M1.out.trans m2)
  have H2 := Lib.hid h2
  clear m2 h2
  go_wp2_with fail
  exact bodyPost_end (results_none rfl _ _ _) rfl (Does.of ⟨own2, w2⟩ rfl rfl M2.out H2.out.at_)
end
end Go.Proofs.YtcpeoflomdhidaaGreat

