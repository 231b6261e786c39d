import Derived.Test.YtcpeoflomdhidaaGreatKW17
/-
  Packed: ActV, CyG, Duo, Alone, Chains, WaitsQ, Small.
-/
open Go.Ext renaming alloc → zA, patch → zP, drew → zD, drewN → zN, more → zM, refl → zR, setCell → zS
open Nat renaming le_refl → zL, le_add_right → zK
/-
  act.New.
-/
namespace Go.Proofs.YtcpeoflomdhidaaGreat
open Go Go.RowKit
set_option linter.unusedVariables false
set_option linter.unnecessarySimpa false
set_option linter.unusedSimpArgs false
set_option maxHeartbeats 2000000
set_option maxRecDepth 100000
def ActMade (tid : Int) (n : Nat) (l : List Opr) (t : Nat) (g : GW) (e : Ending) (w' : World) : Prop :=
  ∃ own' b p, e = .returned (.pointer (some ⟨b, 0, none⟩)) ∧ Mod (fun _ => False) g ⟨own', w'⟩ ∧ AcAt ⟨own', w'⟩ t b (AcS.fresh tid n l) p
theorem act_made (tid : Int) (n : Nat) (l : List Opr) (t : Nat) (ht : 100 ≤ t) (g gz : GW) (m : Mod (fun _ => False) g gz) (A' : Option Addr) (c' : Nat) (hc : l.length ≤ c' ∧ c' ≤ 9223372036854775807) (ro : Row gz 0 80 6 (.slice A' l.length c') l.length (l.flatMap Opr.cells))
    (q : Nat) (rl : Row gz (t + 1) 83 2 (.slice (some ⟨q, 0, none⟩) n n) n ((List.replicate n LVal.zero).flatMap LVal.cells)) (w' : World)
    (hw : w' = gz.w.alloc (.cells ((AcS.fresh tid n l).cells ⟨A', c', some ⟨q, 0, none⟩, n, none, 0, none, none, 0, none, 0⟩).toArray 155)) : ActMade tid n l t g (.returned (.pointer (some ⟨gz.w.heap.size, 0, none⟩))) w' := by
  subst hw
  have m2 : Mod (fun _ => False) gz (gz.to t (gz.w.alloc (.cells ((AcS.fresh tid n l).cells ⟨A', c', some ⟨q, 0, none⟩, n, none, 0, none, none, 0, none, 0⟩).toArray 155))) := Mod.ext (by (repeat (first | (with_reducible (first | assumption | exact zR _ | exact zM _ _ _ _)) | apply zA | refine zS ?_ (by first | exact zL _ | exact zK _ _ | assumption) _ | apply zP | apply zD | apply zN))) t
  refine ⟨_, gz.w.heap.size, ⟨A', c', some ⟨q, 0, none⟩, n, none, 0, none, none, 0, none, 0⟩, rfl, m.trans m2, ⟨Blk.new gz t 155 _, ⟨(ro.keep m2 id).seg, hc, ?_, Seg.nil _ _ _, ⟨Nat.le_refl _, Nat.zero_le _⟩, (fun _ => rfl), (fun S hS => by cases hS), Seg.nil _ _ _, ⟨Nat.le_refl _, Nat.zero_le _⟩, Seg.nil _ _ _, rfl, ⟨(by show 0 / 2 ≤ 0; decide), Nat.zero_le _⟩⟩⟩⟩
  have h := rl.keep m2 id
  show Row _ _ _ _ (.slice _ (List.replicate n LVal.zero).length _) (List.replicate n LVal.zero).length _
  rw [List.length_replicate]
  exact h
theorem new_vals (own1 : Nat → Nat) (w1 : World) (X : Extra) (t k : Nat) (hk : k ≤ 9223372036854775807) : ∃ own2, Mod (fun _ => False) ⟨own1, w1⟩ ⟨own2, (w1.patch X).alloc (.cells (madeCells #[.bool false, .complex .f64 0 0] (k * 2)) 83)⟩ ∧ Row ⟨own2, (w1.patch X).alloc (.cells (madeCells #[.bool false, .complex .f64 0 0] (k * 2)) 83)⟩ t 83 2 (.slice (some ⟨(w1.patch X).heap.size, 0, none⟩) k k) k ((List.replicate k LVal.zero).flatMap LVal.cells) := by
  have e : madeCells #[.bool false, .complex .f64 0 0] (k * 2) = ((List.replicate k LVal.zero).flatMap LVal.cells).toArray := by
    have h := lzero_cells k
    rw [← h]
    rfl
  rw [e]
  have m0 : Mod (fun _ => False) (⟨own1, w1⟩ : GW) ((⟨own1, w1⟩ : GW).pt X) := Mod.pt (Mod.refl _ _) _
  have R := Row.made (g := (⟨own1, w1⟩ : GW).pt X) (w' := (w1.patch X).alloc (.cells ((List.replicate k LVal.zero).flatMap LVal.cells).toArray 83)) (t := t) (r := (w1.patch X).heap.size) (size := 2) (n := k) (E := 83) (xs := (List.replicate k LVal.zero).flatMap LVal.cells) (World.row_alloc_new _) (Nat.le_refl _) (by rw [lflat_len, List.length_replicate]) hk
  have he : Ext (w1.patch X) ((w1.patch X).alloc (.cells ((List.replicate k LVal.zero).flatMap LVal.cells).toArray 83)) := by (repeat (first | (with_reducible (first | assumption | exact zR _ | exact zM _ _ _ _)) | apply zA | refine zS ?_ (by first | exact zL _ | exact zK _ _ | assumption) _ | apply zP | apply zD | apply zN))
  exact ⟨_, m0.trans (Mod.ext (g := (⟨own1, w1⟩ : GW).pt X) he t), R⟩
theorem act_new3 (tid : Int) (A : Option Addr) (cap : Nat) (l : List Opr) (t : Nat) (ht : 100 ≤ t) (g : GW) (hc : CellsAt g.w A (l.flatMap Opr.cells)) (hl : l.length ≤ 1000000) : Calls Tryz.prog 90 #[.int .i64 tid, .int .i64 3, .slice A l.length cap] g.w (ActMade tid 3 l t g) := by
  have HC := Lib.hid (fun (G : GW) (he : Ext g.w G.w) => clone_ops A cap l 0 G (hc.ext he) hl)
  obtain ⟨i0, hi, hz0, hz1, hz2⟩ := info_parts infoVal
  have hmk := fun w => run_made (P := Tryz.prog) 149 83 i0 (.agg #[.bool false, .complex .f64 0 0]) 2 24 Tryz.underlying149 hi hz0 hz1 hz2 3 (by decide) (by decide) w
  rw [show ((3 : Nat) : Int) = 3 from rfl] at hmk
  obtain ⟨nl, hnl⟩ : ∃ q, l.length = q := ⟨_, rfl⟩
  rw [hnl] at HC ⊢
  go_enter Tryz.func90, Tryz.ntmps90
  go_wp2_with fail
  refine wp_region_mixed [true, true, false, true, true, false, false, false, false] 5 6 (by kernel_rfl) (by kernel_rfl) (by kernel_rfl) ?_ (by decide) (by decide) (by decide) (by kernel_rfl) ?_
  · intro c a d v w h; cases d <;> exact h
  intro X00
  simp only [pickOps]
  repeat (go_big_quiet_step (fail))
  refine wpQuiet_nil (fun X0 => ?_)
  clear X00
  refine wpAnyM_two 2 5 _ _ (by kernel_rfl) rfl rfl rfl rfl (by decide) (by decide) (fun X1 K Q' hK => ?ordA) (fun X1 K Q' hK => ?ordB)
  case ordA =>
    go_simp
    refine (HC.out (g.pt _) ⟨_, rfl⟩).mono ?_
    rintro e w1 ⟨A', c', rfl, m1, r1, hE1, hf1, hc1⟩
    have hE1' : Ext g.w w1 := Ext.trans ⟨_, rfl⟩ hE1
    obtain ⟨own1, M1, R1⟩ : ∃ o, Mod (fun _ => False) g ⟨o, w1⟩ ∧ Row ⟨o, w1⟩ 0 80 6 (.slice A' nl c') nl (l.flatMap Opr.cells) := ⟨_, (Mod.pt (Mod.refl _ _) _).trans m1, r1⟩
    refine hK _ _ hE1' ?_
    clear hK K Q' m1 r1 hE1 HC
    refine wpAnyM_one 5 _ (by kernel_rfl) rfl rfl (by decide) (fun X3 K Q' hK => ?_)
    go_simp
    obtain ⟨own2, m2, R2⟩ := new_vals own1 w1 X3 (t + 1) 3 (by decide)
    have hE2 := Ext.trans hE1' m2.toExt
    refine hK _ _ hE2 ?_
    clear hK K Q'
    have M2 := M1.trans m2
    have O2 := R1.keep m2 id
    refine wpAnyM_tailL rfl (by kernel_rfl) (fun X2 => ?_)
    simp only [List.drop_succ_cons, List.drop_zero]
    go_wp2_with fail
    go_ret
    subst hnl
    have mz := fun (G : GW) => Mod.pt (Mod.refl (fun _ => False) G) X2
    exact act_made tid 3 l t ht g _ (M2.trans (mz _)) A' c' hc1 (O2.keep (mz _) id) _ (R2.keep (mz _) id) _ (by kernel_rfl)
  case ordB =>
    go_simp
    obtain ⟨own1, m1, R1⟩ := new_vals g.own g.w ⟨X0.blocks ++ X1.blocks, X1.drawn⟩ (t + 1) 3 (by decide)
    have hE1 : Ext g.w _ := m1.toExt
    refine hK _ _ hE1 ?_
    clear hK K Q'
    generalize (g.w.patch ⟨X0.blocks ++ X1.blocks, X1.drawn⟩).alloc (.cells (madeCells #[.bool false, .complex .f64 0 0] (3 * 2)) 83) = w1 at *
    refine wpAnyM_one 2 _ (by kernel_rfl) rfl rfl (by decide) (fun X3 K Q' hK => ?_)
    go_simp
    generalize (g.w.patch ⟨X0.blocks ++ X1.blocks, X1.drawn⟩).heap.size = q1 at *
    refine (HC.out ((⟨own1, w1⟩ : GW).pt X3) (Ext.trans hE1 ⟨_, rfl⟩)).mono ?_
    rintro e w2 ⟨A', c', rfl, m2, r2, hE2, hf2, hc2⟩
    have hE2' : Ext g.w w2 := Ext.trans hE1 (Ext.trans ⟨_, rfl⟩ hE2)
    refine hK _ _ hE2' ?_
    clear hK K Q'
    refine wpAnyM_tailL rfl (by kernel_rfl) (fun X2 => ?_)
    simp only [List.drop_succ_cons, List.drop_zero]
    go_wp2_with fail
    go_ret
    subst hnl
    have m2' := (Mod.pt (Mod.refl (fun _ => False) (⟨own1, w1⟩ : GW)) X3).trans m2
    have mz := Mod.pt (Mod.refl (fun _ => False) (((⟨own1, w1⟩ : GW).pt X3).to 0 w2)) X2
    exact act_made tid 3 l t ht g _ ((m1.trans m2').trans mz) A' c' hc2 (r2.keep mz id) q1 ((R1.keep m2' id).keep mz id) _ (by kernel_rfl)
end Go.Proofs.YtcpeoflomdhidaaGreat

/-
  spolaw24.first.
-/
namespace Go.Proofs.YtcpeoflomdhidaaGreat
open Go Go.RowKit
set_option linter.unusedVariables false
set_option linter.unnecessarySimpa false
set_option linter.unusedSimpArgs false
set_option maxHeartbeats 4000000
set_option maxRecDepth 100000
def cOne (A : Option Addr) : Cnf := ⟨4, 0, 0, 1, 1, 0, 1, 0, A, 1, [⟨false, none, 0, []⟩]⟩
theorem cOne_check (A : Option Addr) : (cOne A).check = 0 := by rfl
def oneW (A : Option Addr) : CyW := ⟨CyS.fresh, none, none, CoreS.fresh (cOne A)⟩
def oneW1 (A : Option Addr) : CyW := (oneW A).spc (CoreS.fresh (cOne A)).sp.tick
def oneW2 (A : Option Addr) : CyW := (oneW A).spc (forceS (CoreS.fresh (cOne A)).sp.tick)
def oneW3 (A : Option Addr) : CyW := CyW.ent ((oneW A).spc (forceS (CoreS.fresh (cOne A)).sp.tick).tick) 1
theorem one_step (A : Option Addr) : (oneW A).tick1.idles = oneW1 A := rfl
theorem two_step (A : Option Addr) : (oneW2 A).tick1.idles = oneW3 A := rfl
theorem zr : (0 : Int) ≤ 0 ∧ (0 : Int) ≤ 1099511627776 := by decide
theorem zr1 : (0 : Int) ≤ 0 + 1 ∧ (0 : Int) + 1 ≤ 1099511627776 := by decide
theorem zr2 : (0 : Int) ≤ 0 + 1 + 1 ∧ (0 : Int) + 1 + 1 ≤ 1099511627776 := by decide
theorem one_bd (A : Option Addr) : (oneW A).Bd := ⟨zr, zr, zr, zr, zr, zr, zr, zr, zr, zr⟩
theorem two_bd (A : Option Addr) : (oneW2 A).Bd := ⟨zr, zr, zr, zr, zr, zr, zr, zr2, zr, zr⟩
theorem apart1 : CyApart 500 100 := ⟨by decide, by decide, by decide⟩
theorem CyIn.force {g : GW} {t B b k : Nat} {W : CyW} {tp hp : Option Addr} {bm bs bt bp bsp bh : Nat} {cm : Cnf} (H : CyIn g t B b k W tp hp bm bs bt bp bsp bh cm) (A : CyApart t B) (hc : 0 ≤ W.K.sp.count ∧ W.K.sp.count ≤ 1099511627776) : Calls Tryz.prog 34 #[.pointer (some ⟨bsp, 0, none⟩)] g.w (Does (.tuple #[]) g (cyT t B) (fun g' => CyIn g' t B b k (W.spc (forceS W.K.sp)) tp hp bm bs bt bp bsp bh cm)) := by
  refine (space_force g B bsp bt W.K.sp H.c.sp A.hb hc).mono ?_
  rintro e w1 ⟨rfl, own1, m1, h1⟩
  exact ⟨rfl, own1, m1.mono (fun x hx => cyT_inst hx), H.spc A m1 h1⟩
theorem first24_any (w : World) : Calls Tryz.prog 30 #[] w (Gives (.bool true) w) := by
  have q1 := World.row_alloc_new w (o := .cells #[.bool false, .slice none 0 0] 98)
  have hok : (cOne (some ⟨w.heap.size, 0, none⟩)).Ok (w.alloc (.cells #[.bool false, .slice none 0 0] 98)) :=
    ⟨CellsAt.mk (Array.getElem?_eq_some_iff.1 q1).1 (fun i v hi => by rw [Nat.zero_add]; exact row_cell (l := [.bool false, .slice none 0 0]) q1 hi), fun s hs => by rw [List.mem_singleton.1 hs]; exact ⟨CellsAt.nil _ _, by simp, by simp⟩, Nat.le_refl _, (show 1 ≤ 140737488355328 by decide)⟩
  have HE := Lib.hid (show Ext w (w.alloc (.cells #[.bool false, .slice none 0 0] 98)) by (repeat (first | (with_reducible (first | assumption | exact zR _ | exact zM _ _ _ _)) | apply zA | refine zS ?_ (by first | exact zL _ | exact zK _ _ | assumption) _ | apply zP | apply zD | apply zN)))
  have HM := Lib.hid (core_new (cOne (some ⟨w.heap.size, 0, none⟩)) 100 ⟨fun _ => 0, _⟩ hok (by omega) (fun k _ => Or.inl (show 0 < 100 by omega)))
  clear q1 hok
  go_enter Tryz.func30, Tryz.ntmps30
  go_wp2_with fail
  refine HM.out.mono ?_
  rintro e w1 hh
  unfold CoreMade at hh
  rw [if_pos (cOne_check _)] at hh
  obtain ⟨own1, k, rfl, m1, h1⟩ := hh
  generalize (some ⟨w.heap.size, 0, none⟩ : Option Addr) = A at *
  have M1 := Lib.hid m1
  obtain ⟨bm, bs, bt, bp, bsp, bh, cm, h1⟩ := h1
  have H1 := Lib.hid h1
  clear m1 h1 HM
  go_wp2_with fail
  refine (cy_new ⟨own1, w1⟩ 500).mono ?_
  rintro e w2 ⟨own2, b, rfl, m2, h2⟩
  have M2 := Lib.hid (M1.out.trans m2)
  have H2 := Lib.hid (show CyIn ⟨own2, w2⟩ 500 100 b k (oneW A) none none bm bs bt bp bsp bh cm from ⟨h2, H1.out.keep m2 (fun _ => False.elim)⟩)
  clear m2 h2 H1 M1
  go_wp2_with fail
  refine (cy_step_idle apart1 (one_bd A) rfl rfl H2.out.at_).mono ?_
  rintro e w3 ⟨rfl, own3, m3, h3⟩
  rw [one_step] at h3
  obtain ⟨tp, hp, bm', bs', bt', bp', bsp', bh', cm', h3⟩ := h3
  have M3 := Lib.hid ((M2.out.mono (S := cyT 500 100) (fun _ => False.elim)).trans m3)
  have H3 := Lib.hid h3
  clear m3 h3 H2 M2
  go_wp2_with fail
  refine (show Calls Tryz.prog 39 #[.pointer (some ⟨b, 0, none⟩)] w3 (fun e w' => e = .returned (.int .i64 0) ∧ w3 = w') from cy_stage ⟨own3, w3⟩ 500 b _ _ _ _ _ H3.out.y).mono ?_
  rintro e w' ⟨rfl, rfl⟩
  obtain ⟨c0, c1, c2, c3, c4, c5, c6, c7, c8, c9, c10, c11, c12, cl⟩ := H3.out.c.blk.c13
  (try simp only [GW.to] at c0 c1 c2 c3 c4 c5 c6 c7 c8 c9 c10 c11 c12 cl)
  go_wp2_with fail
  refine (H3.out.force apart1 zr1).mono ?_
  rintro e w4 ⟨rfl, own4, m4, h4⟩
  have M4 := Lib.hid (M3.out.trans m4)
  have H4 := Lib.hid (show CyIn ⟨own4, w4⟩ 500 100 b k (oneW2 A) tp hp bm' bs' bt' bp' bsp' bh' cm' from h4)
  clear m4 h4 H3 M3 c0 c1 c2 c3 c4 c5 c6 c7 c8 c9 c10 c11 c12 cl
  go_wp2_with fail
  refine (cy_step_idle apart1 (two_bd A) rfl rfl H4.out.at_).mono ?_
  rintro e w5 ⟨rfl, own5, m5, h5⟩
  rw [two_step] at h5
  obtain ⟨tp, hp, bm', bs', bt', bp', bsp', bh', cm', h5⟩ := h5
  have M5 := Lib.hid (M4.out.trans m5)
  have H5 := Lib.hid h5
  clear m5 h5 H4 M4
  go_wp2_with fail
  refine (show Calls Tryz.prog 39 #[.pointer (some ⟨b, 0, none⟩)] w5 (fun e w' => e = .returned (.int .i64 1) ∧ w5 = w') from cy_stage ⟨own5, w5⟩ 500 b _ _ _ _ _ H5.out.y).mono ?_
  rintro e w' ⟨rfl, rfl⟩
  go_wp2_with fail
  refine (show Calls Tryz.prog 88 #[.pointer (some ⟨b, 0, none⟩)] w5 (fun e w' => e = .returned (.int .i64 0) ∧ w5 = w') from cy_started ⟨own5, w5⟩ 500 b _ _ _ _ _ H5.out.y).mono ?_
  rintro e w' ⟨rfl, rfl⟩
  go_wp2_with fail
  refine (show Calls Tryz.prog 89 #[.pointer (some ⟨b, 0, none⟩)] w5 (fun e w' => e = .returned (.int .i64 0) ∧ w5 = w') from cy_steps ⟨own5, w5⟩ 500 b _ _ _ _ _ H5.out.y).mono ?_
  rintro e w' ⟨rfl, rfl⟩
  go_wp2_with fail
  go_ret
  exact Gives.bool rfl (HE.out.trans (M5.out.nothing (fun j _ hj => by simp only [cyT] at hj; omega)).toExt)
end Go.Proofs.YtcpeoflomdhidaaGreat

/-
  A collector and a thread over one core, in memory.
-/
namespace Go.Proofs.YtcpeoflomdhidaaGreat
open Go Go.RowKit
set_option linter.unusedVariables false
set_option linter.unnecessarySimpa false
set_option linter.unusedSimpArgs false
set_option maxHeartbeats 4000000
set_option maxRecDepth 100000
def duT (x : Nat) : Prop := acT 500 100 x ∨ cyT 600 100 x
structure DuAt (g : GW) (b c k : Nat) (D : DuW) : Prop where
  ex : ∃ p tp hp bm bs bt bp bsp bh cm, AcAt g 500 b D.a p ∧ CoreIn g 100 k D.K bm bs bt bp bsp bh cm ∧ CyAt g 600 c D.y D.tr D.h tp hp
structure DuIs (w0 : World) (g : GW) (b c k : Nat) (D : DuW) : Prop where
  m : Mod duT ⟨fun _ => 0, w0⟩ g
  h : DuAt g b c k D
section
variable {w0 : World} {g g' : GW} {b c k : Nat} {D : DuW}
theorem apart6 : CyApart 600 100 := ⟨by decide, by decide, by decide⟩
theorem apart7 : AcApart 500 100 := ⟨by decide, by decide, by decide⟩
theorem DuIs.keep (h : DuIs w0 g b c k D) (m : Mod (fun _ => False) g g') : DuIs w0 g' b c k D := by
  obtain ⟨p, tp, hp, bm, bs, bt, bp, bsp, bh, cm, h1, h2, h3⟩ := h.h.ex
  exact ⟨h.m.trans (m.mono (fun _ => False.elim)), ⟨⟨p, tp, hp, bm, bs, bt, bp, bsp, bh, cm, h1.keep m id (fun _ => False.elim), h2.keep m (fun _ => False.elim), h3.keep m (fun _ => False.elim)⟩⟩⟩
theorem DuIs.fin (h : DuIs w0 g b c k D) : Ext w0 g.w := (h.m.nothing (fun j _ (hj : acT 500 100 0 ∨ cyT 600 100 0) => by simp only [acT, cyT] at hj; omega)).toExt
theorem duo_stepA (h : DuIs w0 g b c k D) (x : AcR) (hx : D.ac.stepZ = some x) : Calls Tryz.prog 33 #[.pointer (some ⟨b, 0, none⟩), .pointer (some ⟨k, 0, none⟩)] g.w (Does (resV x.1) g duT (fun g' => DuIs w0 g' b c k (D.putA x.2))) := by
  obtain ⟨p, tp, hp, bm, bs, bt, bp, bsp, bh, cm, h1, h2, h3⟩ := h.h.ex
  letI : TbId := ⟨⟨bt⟩⟩
  refine (act_step_z apart7 (AcIn.at_ (show AcIn g 500 100 b k D.ac p bm bs bt bp bsp bh cm from ⟨h1, h2, rfl⟩)) x hx).mono ?_
  rintro e w' ⟨rfl, own', m', h'⟩
  have h4 := h3.keep m' (fun x hx => by unfold acT at hx; omega)
  obtain ⟨p', bm', bs', bt', bp', bsp', bh', cm', h'⟩ := h'
  exact ⟨rfl, own', m'.mono (fun x hx => Or.inl hx), ⟨h.m.trans (m'.mono (fun x hx => Or.inl hx)), ⟨⟨p', tp, hp, bm', bs', bt', bp', bsp', bh', cm', h'.a, h'.c, h4⟩⟩⟩⟩
theorem duo_stepC (h : DuIs w0 g b c k D) (V : CyW) (hV : D.cy.stepO = some V) : Calls Tryz.prog 36 #[.pointer (some ⟨c, 0, none⟩), .pointer (some ⟨k, 0, none⟩)] g.w (Does (.tuple #[]) g duT (fun g' => DuIs w0 g' b c k (D.putC V))) := by
  obtain ⟨p, tp, hp, bm, bs, bt, bp, bsp, bh, cm, h1, h2, h3⟩ := h.h.ex
  refine (cy_step_o apart6 V hV (show CyWAt g 600 100 c k D.cy from ⟨tp, hp, bm, bs, bt, bp, bsp, bh, cm, ⟨h3, h2⟩⟩)).mono ?_
  rintro e w' ⟨rfl, own', m', h'⟩
  have h4 := h1.keep m' (by unfold cyT; omega) (fun x hx => by unfold cyT at hx; omega)
  obtain ⟨tp', hp', bm', bs', bt', bp', bsp', bh', cm', h'⟩ := h'
  exact ⟨rfl, own', m'.mono (fun x hx => Or.inr hx), ⟨h.m.trans (m'.mono (fun x hx => Or.inr hx)), ⟨⟨p, tp', hp', bm', bs', bt', bp', bsp', bh', cm', h4, h'.c, h'.y⟩⟩⟩⟩
theorem duo_status (h : DuIs w0 g b c k D) : Calls Tryz.prog 37 #[.pointer (some ⟨b, 0, none⟩)] g.w (fun e w' => e = .returned (.int .i64 D.a.status) ∧ g.w = w') := by
  obtain ⟨p, tp, hp, bm, bs, bt, bp, bsp, bh, cm, h1, h2, h3⟩ := h.h.ex
  exact act_status g 500 b D.a p h1
theorem duo_posted (h : DuIs w0 g b c k D) (hc : D.handOk = true) : Calls Tryz.prog 38 #[.pointer (some ⟨k, 0, none⟩)] g.w (Does (.int .i64 D.K.hand.status) g duT (fun g' => DuIs w0 g' b c k D.tick)) := by
  have HM := Lib.hid h.m
  obtain ⟨p, tp, hp, bm, bs, bt, bp, bsp, bh, cm, h1, h2, h3⟩ := h.h.ex
  have HK := Lib.hid (hand_look g (100 + 63) bh D.K.hand h2.hand (of_decide_eq_true hc))
  have H1 := Lib.hid h1
  have H2 := Lib.hid h2
  have H3 := Lib.hid h3
  obtain ⟨c0, c1, c2, c3, c4, c5, c6, c7, c8, c9, c10, c11, c12, cl⟩ := h2.blk.c13
  (try simp only [GW.to] at c0 c1 c2 c3 c4 c5 c6 c7 c8 c9 c10 c11 c12 cl)
  clear h h1 h2 h3 hc
  go_enter Tryz.func38, Tryz.ntmps38
  go_wp2_with fail
  refine HK.out.mono ?_
  rintro e w1 ⟨rfl, own1, m1, k1⟩
  go_wp2_with fail
  go_ret
  have m2 : Mod duT g ⟨own1, w1⟩ := m1.mono (fun x (hx : x = 163) => Or.inl (Or.inr (by omega)))
  exact ⟨rfl, own1, m2, ⟨HM.out.trans m2, ⟨⟨p, tp, hp, bm, bs, bt, bp, bsp, bh, cm, H1.out.keep m1 (by omega) (fun x (hx : x = 163) => by omega), H2.out.putHand m1 k1, H3.out.keep m1 (fun x (hx : x = 163) => by omega)⟩⟩⟩⟩
theorem duo_finished (h : DuIs w0 g b c k D) : Calls Tryz.prog 35 #[.pointer (some ⟨c, 0, none⟩)] g.w (fun e w' => e = .returned (.int .i64 D.y.finished) ∧ g.w = w') := by
  obtain ⟨p, tp, hp, bm, bs, bt, bp, bsp, bh, cm, h1, h2, h3⟩ := h.h.ex
  exact cy_finished g 600 c _ _ _ _ _ h3
theorem duo_stage (h : DuIs w0 g b c k D) : Calls Tryz.prog 39 #[.pointer (some ⟨c, 0, none⟩)] g.w (fun e w' => e = .returned (.int .i64 D.y.stage) ∧ g.w = w') := by
  obtain ⟨p, tp, hp, bm, bs, bt, bp, bsp, bh, cm, h1, h2, h3⟩ := h.h.ex
  exact cy_stage g 600 c _ _ _ _ _ h3
theorem duo_errno (h : DuIs w0 g b c k D) : Calls Tryz.prog 40 #[.pointer (some ⟨c, 0, none⟩)] g.w (fun e w' => e = .returned (.int .i64 D.y.e) ∧ g.w = w') := by
  obtain ⟨p, tp, hp, bm, bs, bt, bp, bsp, bh, cm, h1, h2, h3⟩ := h.h.ex
  exact cy_errno g 600 c _ _ _ _ _ h3
theorem duo_force (h : DuIs w0 g b c k D) (hc : 0 ≤ D.K.sp.count ∧ D.K.sp.count ≤ 1099511627776) : ∃ bsp, g.w.cell? ⟨k, 11, none⟩ = some (.pointer (some ⟨bsp, 0, none⟩)) ∧ k < g.w.heap.size ∧ Calls Tryz.prog 34 #[.pointer (some ⟨bsp, 0, none⟩)] g.w (Does (.tuple #[]) g duT (fun g' => DuIs w0 g' b c k D.force)) := by
  obtain ⟨p, tp, hp, bm, bs, bt, bp, bsp, bh, cm, h1, h2, h3⟩ := h.h.ex
  refine ⟨bsp, h2.blk.cell (i := 11) rfl, h2.blk.lt, ?_⟩
  refine ((show CyIn g 600 100 c k D.cy tp hp bm bs bt bp bsp bh cm from ⟨h3, h2⟩).force apart6 hc).mono ?_
  rintro e w' ⟨rfl, own', m', h'⟩
  have h4 := h1.keep m' (by unfold cyT; omega) (fun x hx => by unfold cyT at hx; omega)
  exact ⟨rfl, own', m'.mono (fun x hx => Or.inr hx), ⟨h.m.trans (m'.mono (fun x hx => Or.inr hx)), ⟨⟨p, tp, hp, bm, bs, bt, bp, bsp, bh, cm, h4, h'.c, h'.y⟩⟩⟩⟩
end
end Go.Proofs.YtcpeoflomdhidaaGreat

/-
  spolaw24: chains, alone.
-/
namespace Go.Proofs.YtcpeoflomdhidaaGreat
open Go Go.RowKit
set_option linter.unusedVariables false
set_option linter.unnecessarySimpa false
set_option linter.unusedSimpArgs false
set_option maxHeartbeats 4000000
set_option maxRecDepth 100000
def AloneMade (c : Cnf) (l : List Opr) (w : World) (e : Ending) (w' : World) : Prop :=
  ∃ w0 own' k y a, e = .returned (.tuple #[.pointer (some ⟨k, 0, none⟩), .pointer (some ⟨y, 0, none⟩), .pointer (some ⟨a, 0, none⟩)]) ∧ Ext w w0 ∧ DuIs w0 ⟨own', w'⟩ a y k (aloneD c l)
theorem alone_any (c : Cnf) (Al : Option Addr) (cap : Nat) (l : List Opr) (w : World) (n : Nat) (h3 : c.locals = 3) (hck : c.check = 0) (hc : c.Ok w) (hn : l.length = n) (hl : n ≤ 1000000) (hcl : CellsAt w Al (l.flatMap Opr.cells)) :
    Calls Tryz.prog 31 #[c.val, .slice Al n cap] w (AloneMade c l w) := by
  subst hn
  have HE0 := Lib.hid (show Ext w (w.alloc (.cells #[.int .i64 c.frags, .int .i64 c.spine, .int .i64 c.globals, .int .i64 c.threads, .int .i64 c.locals, .int .i64 c.cache, .int .i64 c.stack, .int .i64 c.low, .slice c.A c.shapes.length c.cap] 24)) by (repeat (first | (with_reducible (first | assumption | exact zR _ | exact zM _ _ _ _)) | apply zA | refine zS ?_ (by first | exact zL _ | exact zK _ _ | assumption) _ | apply zP | apply zD | apply zN)))
  have HB := Lib.hid (show Blk ⟨fun _ => 0, w.alloc (.cells #[.int .i64 c.frags, .int .i64 c.spine, .int .i64 c.globals, .int .i64 c.threads, .int .i64 c.locals, .int .i64 c.cache, .int .i64 c.stack, .int .i64 c.low, .slice c.A c.shapes.length c.cap] 24)⟩ 0 w.heap.size 24 [.int .i64 c.frags, .int .i64 c.spine, .int .i64 c.globals, .int .i64 c.threads, .int .i64 c.locals, .int .i64 c.cache, .int .i64 c.stack, .int .i64 c.low, .slice c.A c.shapes.length c.cap] from ⟨World.row_alloc_new _, rfl⟩)
  have HCL := Lib.hid (hcl.ext HE0.out)
  have HOK := Lib.hid (hc.ext HE0.out)
  have HL := Lib.hid hl
  have HCK := Lib.hid hck
  have HD := Lib.hid (show aloneD c l = ⟨CyS.fresh, none, none, AcS.fresh 0 3 l, CoreS.fresh c⟩ by unfold aloneD; rw [h3]; rfl)
  unfold Cnf.val
  rw [h3] at HE0 HB HCL HOK ⊢
  clear hc hcl hl hck
  go_enter Tryz.func31, Tryz.ntmps31
  go_upto_region 1 with fail
  generalize w.alloc (.cells #[.int .i64 c.frags, .int .i64 c.spine, .int .i64 c.globals, .int .i64 c.threads, .int .i64 3, .int .i64 c.cache, .int .i64 c.stack, .int .i64 c.low, .slice c.A c.shapes.length c.cap] 24) = w0 at *
  have HM := Lib.hid (show Calls Tryz.prog 86 #[c.val] w0 (CoreMade c 100 ⟨fun _ => 0, w0⟩) from core_new c 100 ⟨fun _ => 0, w0⟩ HOK.out (by omega) (fun k _ => Or.inl (show 0 < 100 by omega)))
  unfold Cnf.val at HM
  rw [h3] at HM
  generalize w.heap.size = hs0 at *
  obtain ⟨f0, f1, f2, f3, f4, f5, f6, f7, f8, fl⟩ := HB.out.c9
  (try simp only [GW.to] at f0 f1 f2 f3 f4 f5 f6 f7 f8 fl)
  go_wp2_with fail
  refine HM.out.mono ?_
  rintro e w1 hh
  unfold CoreMade at hh
  rw [if_pos HCK.out] at hh
  obtain ⟨own1, k, rfl, m1, h1⟩ := hh
  clear HOK HM f0 f1 f2 f3 f4 f5 f6 f7 f8 fl
  have M1 := Lib.hid m1
  obtain ⟨bm, bs, bt, bp, bsp, bh, cm, h1⟩ := h1
  have H1 := Lib.hid h1
  have B1 := Lib.hid (HB.out.keep m1 id)
  have C1 := Lib.hid (HCL.out.ext m1.toExt)
  clear m1 h1 HB HCL
  obtain ⟨f0, f1, f2, f3, f4, f5, f6, f7, f8, fl⟩ := B1.out.c9
  (try simp only [GW.to] at f0 f1 f2 f3 f4 f5 f6 f7 f8 fl)
  go_wp2_with fail
  go_cut [9, 10] (fun s9 s10 wx => ∃ own3 y a p, s9 = .pointer (some ⟨y, 0, none⟩) ∧ s10 = .pointer (some ⟨a, 0, none⟩) ∧ Hid (Mod (fun _ => False) ⟨own1, w1⟩ ⟨own3, wx⟩) ∧ Hid (CyAt ⟨own3, wx⟩ 600 y CyS.fresh none none none none) ∧ Hid (AcAt ⟨own3, wx⟩ 500 a (AcS.fresh 0 3 l) p))
  case first =>
    refine wp_region_mixed [false, true, true, true, false, false, false] 4 5 (by kernel_rfl) (by kernel_rfl) (by kernel_rfl) ?_ (by decide) (by decide) (by decide) (by kernel_rfl) ?_
    · intro c a d v w h; cases d <;> exact h
    intro X00
    simp only [pickOps]
    repeat (go_big_quiet_step (fail))
    refine wpQuiet_nil (fun X0 => ?_)
    clear X00
    refine wpAnyM_one 0 _ (by kernel_rfl) rfl rfl (by decide) (fun X1 K Q' hK => ?_)
    go_simp
    refine (cy_new ((⟨own1, w1⟩ : GW).pt _) 600).mono ?_
    rintro e w2 ⟨own2, y, rfl, m2, h2⟩
    have M2 := Lib.hid ((Mod.pt (Mod.refl (fun _ => False) (⟨own1, w1⟩ : GW)) _).trans m2)
    have H2 := Lib.hid h2
    clear m2 h2
    have hE2 : Ext w1 w2 := M2.out.toExt
    refine hK _ _ hE2 ?_
    clear hK K Q'
    refine wpAnyM_one 4 _ (by kernel_rfl) rfl rfl (by decide) (fun X3 K Q' hK => ?_)
    go_simp
    refine (act_new3 0 Al cap l 500 (by omega) ((⟨own2, w2⟩ : GW).pt X3) (C1.out.ext (hE2.trans ⟨X3, rfl⟩)) HL.out).mono ?_
    rintro e w3 ⟨own3, a, p, rfl, m3, h3'⟩
    have P3 := (Mod.pt (Mod.refl (fun _ => False) (⟨own2, w2⟩ : GW)) X3).trans m3
    have M3 := Lib.hid (M2.out.trans P3)
    have Y3 := Lib.hid (H2.out.keep P3 (fun _ => False.elim))
    have A3 := Lib.hid h3'
    clear m3 h3' P3 H2 M2 hE2
    have hE3 : Ext w1 w3 := M3.out.toExt
    refine hK _ _ hE3 ?_
    clear hK K Q' hE3
    refine wpAnyM_tailL rfl (by kernel_rfl) (fun X2 => ?_)
    simp only [List.drop_succ_cons, List.drop_zero]
    go_wp2_with fail
    go_meet
    have mz := Mod.pt (Mod.refl (fun _ => False) (⟨own3, w3⟩ : GW)) X2
    exact ⟨_, y, a, p, rfl, rfl, Lib.hid (M3.out.trans mz), Lib.hid (Y3.out.keep mz (fun _ => False.elim)), Lib.hid (A3.out.keep mz id (fun _ => False.elim))⟩
  case rest =>
    obtain ⟨own3, y, a, p, rfl, rfl, N3, Y3, A3⟩ := hcut
    obtain ⟨w3, rfl⟩ : ∃ w3 : World, w3 = wc := ⟨_, rfl⟩
    have M3 := Lib.hid (M1.out.trans N3.out)
    have H3 := Lib.hid (H1.out.keep N3.out (fun _ => False.elim))
    clear N3 M1 H1 B1 C1 f0 f1 f2 f3 f4 f5 f6 f7 f8 fl
    obtain ⟨c0, c1, c2, c3, c4, c5, c6, c7, c8, c9, c10, c11, c12, cl⟩ := H3.out.blk.c13
    (try simp only [GW.to] at c0 c1 c2 c3 c4 c5 c6 c7 c8 c9 c10 c11 c12 cl)
    obtain ⟨s0, s1, s2, sl⟩ := H3.out.sh.c3
    (try simp only [GW.to] at s0 s1 s2 sl)
    have HT := Lib.hid (fun w => shade_table bt w)
    go_wp2_with fail
    refine (HT.out _).mono ?_
    rintro e w4 ⟨rfl, hE⟩
    obtain ⟨own4, m4⟩ : ∃ ownZ, Mod (fun _ => False) (⟨own3, w3⟩ : GW) ⟨ownZ, w4⟩ := by
      obtain ⟨X2, rfl⟩ := hE
      exact ⟨((⟨own3, w3⟩ : GW).pt X2).own, (show Mod (fun _ => False) (⟨own3, w3⟩ : GW) ((⟨own3, w3⟩ : GW).pt X2) from Mod.pt (Mod.refl _ _) _)⟩
    have M4 := Lib.hid (M3.out.trans m4)
    have H4 := Lib.hid (H3.out.keep m4 (fun _ => False.elim))
    have Y4 := Lib.hid (Y3.out.keep m4 (fun _ => False.elim))
    have A4 := Lib.hid (A3.out.keep m4 id (fun _ => False.elim))
    clear m4 hE M3 H3 Y3 A3 c0 c1 c2 c3 c4 c5 c6 c7 c8 c9 c10 c11 c12 cl s0 s1 s2 sl HT
    obtain ⟨c0, c1, c2, c3, c4, c5, c6, c7, c8, c9, c10, c11, c12, cl⟩ := H4.out.blk.c13
    (try simp only [GW.to] at c0 c1 c2 c3 c4 c5 c6 c7 c8 c9 c10 c11 c12 cl)
    go_wp2_with fail
    refine bodyPost_ret (v := .tuple #[.pointer (some ⟨k, 0, none⟩), .pointer (some ⟨y, 0, none⟩), .pointer (some ⟨a, 0, none⟩)]) (by simp [results, Tryz.results31, go_sem]) rfl ?_
    refine ⟨w0, own4, k, y, a, rfl, HE0.out, M4.out.mono (fun _ => False.elim), ⟨⟨p, none, none, bm, bs, bt, bp, bsp, bh, cm, ?_, ?_, ?_⟩⟩⟩
    · rw [HD.out]; exact A4.out
    · rw [HD.out]; exact H4.out
    · rw [HD.out]; exact Y4.out
end Go.Proofs.YtcpeoflomdhidaaGreat

/-
  spolaw24: chains.
-/
namespace Go
open Go.RowKit
theorem Blk.segs {g : GW} {t b : Nat} {T : TypeId} {vs : List Value} (h : Blk g t b T vs) : Seg g t (some ⟨b, 0, none⟩) vs :=
  ⟨CellsAt.mk h.lt (fun i v hi => by rw [Nat.zero_add]; exact h.cell hi), fun a ha _ => by injection ha with ha; rw [← ha]; exact h.own⟩
end Go
namespace Go.Proofs.YtcpeoflomdhidaaGreat
open Go Go.RowKit
set_option linter.unusedVariables false
set_option linter.unnecessarySimpa false
set_option linter.unusedSimpArgs false
set_option maxHeartbeats 4000000
set_option maxRecDepth 100000
def fat40 (k : Nat) : List Value := (List.replicate k true ++ List.replicate (40 - k) false).map Value.bool
theorem fat40_step {k : Nat} (h : k < 40) : (fat40 k).set k (.bool true) = fat40 (k + 1) := by
  unfold fat40
  rw [← fill_step h, List.map_set]
def conf0 : List Value := [.int .i64 0, .int .i64 0, .int .i64 0, .int .i64 0, .int .i64 0, .int .i64 0, .int .i64 0, .int .i64 0, .slice none 0 0]
def ChainsMade (frags stack : Int) (w : World) (e : Ending) (w' : World) : Prop := ∃ A A1 A2, e = .returned (cChain frags stack A A1 A2).val ∧ Ext w w' ∧ (cChain frags stack A A1 A2).Ok w'
theorem chains_any (frags stack : Int) (w : World) : Calls Tryz.prog 32 #[.int .i64 frags, .int .i64 stack] w (ChainsMade frags stack w) := by
  obtain ⟨i0, hi, hz0, hz1, hz2⟩ := info_parts infoBool
  have hmk := fun w => run_made (P := Tryz.prog) 96 4 i0 _ 1 1 Tryz.underlying96 hi hz0 hz1 hz2 40 (by decide) (by decide) w
  simp only [Value.cells, made_one] at hmk
  rw [show ((40 : Nat) : Int) = 40 from rfl] at hmk
  go_enter Tryz.func32, Tryz.ntmps32
  go_upto_region 1 with fail
  obtain ⟨own0, m0, B0⟩ : ∃ own0, Mod (fun _ => False) ⟨fun _ => 0, w⟩ ⟨own0, w.alloc (.cells #[.int .i64 0, .int .i64 0, .int .i64 0, .int .i64 0, .int .i64 0, .int .i64 0, .int .i64 0, .int .i64 0, .slice none 0 0] 24)⟩ ∧ Blk ⟨own0, w.alloc (.cells #[.int .i64 0, .int .i64 0, .int .i64 0, .int .i64 0, .int .i64 0, .int .i64 0, .int .i64 0, .int .i64 0, .slice none 0 0] 24)⟩ 8 w.heap.size 24 conf0 := ⟨_, Mod.ext (g := ⟨fun _ => 0, w⟩) (by (repeat (first | (with_reducible (first | assumption | exact zR _ | exact zM _ _ _ _)) | apply zA | refine zS ?_ (by first | exact zL _ | exact zK _ _ | assumption) _ | apply zP | apply zD | apply zN))) 8, Blk.new ⟨fun _ => 0, w⟩ 8 24 conf0⟩
  have M0 := Lib.hid m0
  have B0' := Lib.hid B0
  clear m0 B0
  generalize w.alloc (.cells #[.int .i64 0, .int .i64 0, .int .i64 0, .int .i64 0, .int .i64 0, .int .i64 0, .int .i64 0, .int .i64 0, .slice none 0 0] 24) = w0 at *
  go_upto_region 2 with fail
  obtain ⟨own1, m1, B1⟩ := start1 ⟨own0, w0⟩ 4 (List.replicate 40 (Value.bool false))
  have M1 := Lib.hid (M0.out.trans m1)
  have C1 := Lib.hid (B0'.out.keep m1 id)
  have F1 := Lib.hid (show Blk ⟨own1, w0.alloc (.cells (List.replicate 40 (Value.bool false)).toArray 4)⟩ 9 w0.heap.size 4 (fat40 0) from by
    have e : fat40 0 = List.replicate 40 (Value.bool false) := by unfold fat40; simp
    rw [e]
    exact B1)
  have HQ := Lib.hid (show w.heap.size ≤ w0.heap.size from M0.out.size)
  clear m1 B1 M0 B0'
  rw [show (List.replicate 40 (Value.bool false)).toArray = #[Value.bool false, Value.bool false, Value.bool false, Value.bool false, Value.bool false, Value.bool false, Value.bool false, Value.bool false, Value.bool false, Value.bool false, Value.bool false, Value.bool false, Value.bool false, Value.bool false, Value.bool false, Value.bool false, Value.bool false, Value.bool false, Value.bool false, Value.bool false, Value.bool false, Value.bool false, Value.bool false, Value.bool false, Value.bool false, Value.bool false, Value.bool false, Value.bool false, Value.bool false, Value.bool false, Value.bool false, Value.bool false, Value.bool false, Value.bool false, Value.bool false, Value.bool false, Value.bool false, Value.bool false, Value.bool false, Value.bool false] from rfl] at M1 C1 F1
  generalize w0.alloc (.cells #[.bool false, .bool false, .bool false, .bool false, .bool false, .bool false, .bool false, .bool false, .bool false, .bool false, .bool false, .bool false, .bool false, .bool false, .bool false, .bool false, .bool false, .bool false, .bool false, .bool false, .bool false, .bool false, .bool false, .bool false, .bool false, .bool false, .bool false, .bool false, .bool false, .bool false, .bool false, .bool false, .bool false, .bool false, .bool false, .bool false, .bool false, .bool false, .bool false, .bool false] 4) = w1 at *
  generalize w0.heap.size = q at *
  go_wp2_with fail
  go_loopw [6] (fun i wr => ∃ (k : Nat) (own : Nat → Nat), k ≤ 40 ∧ i = .int .i64 k ∧ Hid (Mod (fun _ => False) ⟨fun _ => 0, w⟩ ⟨own, wr⟩) ∧ Hid (Blk ⟨own, wr⟩ 8 w.heap.size 24 conf0) ∧ Hid (Blk ⟨own, wr⟩ 9 q 4 (fat40 k)) ∧ Hid (w.heap.size ≤ q)) (fun i _ => 40 - (intOf i).toNat)
  case atStart => exact ⟨0, own1, Nat.zero_le _, rfl, M1, C1, F1, HQ⟩
  case round =>
    obtain ⟨k, own2, hk, rfl, M2, C2, F2, Q2⟩ := hrel
    obtain ⟨w2, rfl⟩ : ∃ w2 : World, w2 = wr := ⟨_, rfl⟩
    clear M1 C1 F1
    by_cases hlt : k < 40
    · have hlt' : (k : Int) < 40 := by omega
      have f0 := F2.out.cell (i := k) (v := .bool false) (by unfold fat40; rw [List.getElem?_map, List.getElem?_append_right (by simp), List.length_replicate, Nat.sub_self, List.getElem?_replicate, if_pos (by omega)]; rfl)
      have ff := F2.out.live k
      have fl := F2.out.lt
      simp only at f0 ff fl
      go_wp2_with fail
      go_roundw
      case rel => exact ⟨k + 1, own2, by omega, by go_num, Lib.hid (Mod.stn M2.out Q2.out), Lib.hid (C2.out.setOther k _ (fun e => C2.out.ne F2.out (by decide) e.symm)), Lib.hid ((fat40_step hlt) ▸ F2.out.set k (.bool true)), Q2⟩
      case measure => simp [intOf]; omega
    · obtain rfl : k = 40 := by omega
      clear hlt hk
      obtain ⟨own3, m3, P3, S3⟩ := start2 ⟨own2, w2⟩ 4 98 [.bool true, .bool false] [.bool false, .slice (some ⟨w2.heap.size, 0, none⟩) 2 2, .bool false, .slice (some ⟨q, 0, none⟩) 40 40]
      have M3 := Lib.hid (M2.out.trans m3)
      have C3 := Lib.hid (C2.out.keep m3 id)
      have F3 := Lib.hid (F2.out.keep m3 id)
      have P3' := Lib.hid P3
      have S3' := Lib.hid S3
      clear m3 P3 S3 M2 C2 F2
      have HC := Lib.hid (show CnfAt ⟨own3, _⟩ 9 (cChain frags stack (some ⟨w2.heap.size + 1, 0, none⟩) (some ⟨w2.heap.size, 0, none⟩) (some ⟨q, 0, none⟩)) from ⟨S3'.out.segs, fun s hs => by
        simp only [cChain, List.mem_cons, List.not_mem_nil, or_false] at hs
        rcases hs with rfl | rfl
        · exact ⟨P3'.out.segs, by simp, by simp⟩
        · refine ⟨?_, by simp, by simp⟩
          have e : fat40 40 = (List.replicate 40 true).map Value.bool := by unfold fat40; simp
          simp only
          rw [← e]
          exact F3.out.segs, by simp [cChain], by simp [cChain]⟩)
      have HO := Lib.hid C3.out.own
      have d0 := C3.out.live 0
      have d1 := C3.out.live 1
      have d2 := C3.out.live 2
      have d3 := C3.out.live 3
      have d4 := C3.out.live 4
      have d5 := C3.out.live 5
      have d6 := C3.out.live 6
      have d7 := C3.out.live 7
      have d8 := C3.out.live 8
      have dl := C3.out.lt
      (try simp only at d0 d1 d2 d3 d4 d5 d6 d7 d8 dl)
      unfold conf0 at C3
      obtain ⟨z0, z1, z2, z3, z4, z5, z6, z7, z8, zl⟩ := C3.out.c9
      (try simp only [GW.to] at z0 z1 z2 z3 z4 z5 z6 z7 z8 zl)
      (try simp only at z0 z1 z2 z3 z4 z5 z6 z7 z8)
      go_wp2_with fail
      refine bodyPost_ret (v := (cChain frags stack (some ⟨w2.heap.size + 1, 0, none⟩) (some ⟨w2.heap.size, 0, none⟩) (some ⟨q, 0, none⟩)).val) (by unfold Cnf.val cChain; simp [results, Tryz.results32, go_sem, z0, z1, z2, z3, z4, z5, z6, z7, z8]) rfl ?_
      refine ⟨_, _, _, rfl, ?_, ?_⟩
      · exact (show Mod (fun _ => False) ⟨fun _ => 0, w⟩ ⟨own3, _⟩ from Mod.stn (Mod.stn (Mod.stn (Mod.stn (Mod.stn (Mod.stn (Mod.stn (Mod.stn (Mod.stn M3.out (Nat.le_refl _)) (Nat.le_refl _)) (Nat.le_refl _)) (Nat.le_refl _)) (Nat.le_refl _)) (Nat.le_refl _)) (Nat.le_refl _)) (Nat.le_refl _)) (Nat.le_refl _)).toExt
      · refine (HC.out.keep (S := fun x => x = 8) (g' := ⟨own3, _⟩) ?_ (by omega)).ok
        exact Mod.st (Mod.st (Mod.st (Mod.st (Mod.st (Mod.st (Mod.st (Mod.st (Mod.st Mod.self HO.out) HO.out) HO.out) HO.out) HO.out) HO.out) HO.out) HO.out) HO.out
end Go.Proofs.YtcpeoflomdhidaaGreat

/-
  CycleWaits: the run, reckoned. No program here.
-/
namespace Go.Proofs.YtcpeoflomdhidaaGreat
open Go Go.RowKit
set_option linter.unusedVariables false
set_option maxRecDepth 1000000
theorem waits_all0 : (fun A A1 A2 => (List.range 5).all fun (s : Nat) => waitsAll A A1 A2 s) = fun _ _ _ => true := by kernel_rfl
theorem waits_all (A A1 A2 : Option Addr) (s : Nat) (h : s < 5) : waitsAll A A1 A2 s = true := List.all_eq_true.1 (congrFun (congrFun (congrFun waits_all0 A) A1) A2) s (List.mem_range.2 h)
theorem cChain_check (A A1 A2 : Option Addr) : (cChain 20 9 A A1 A2).check = 0 := by kernel_rfl
end Go.Proofs.YtcpeoflomdhidaaGreat

/-
  tale.Small: a small configuration.
-/
namespace Go
theorem cellsAt_new (w : World) (cs : List Value) (t : TypeId) (n : Nat) (h : n = w.heap.size) : CellsAt (w.alloc (.cells cs.toArray t)) (some ⟨n, 0, none⟩) cs := by
  subst h
  refine CellsAt.mk (by simp) (fun i v hi => ?_)
  rw [Nat.zero_add, World.cell?_alloc_new]
  simpa using hi
def partOf (n by_ : Int) : Int := if n < 0 then 0 else n % by_
def nineTo (k : Nat) : List Bool := (List.range 9).map fun j => decide (j < k) && decide (j % 3 ≠ 2)
def Cnf.sig (c : Cnf) : List Int × List (Bool × List Bool) := ([c.frags, c.spine, c.globals, c.threads, c.locals, c.cache, c.stack, c.low], c.shapes.map fun s => (s.arr, s.refs))
def smallSig (n : Int) : List Int × List (Bool × List Bool) := ([16 + partOf n 32, 24 + partOf n 40, 2, 3, 3, partOf n 3, 1 + partOf n 4, partOf n 4],
  [(false, [true, true, false]), (false, [true, true, false, true, true, false, true, true, false]), (true, [true]), (true, [false]), (false, [])])
def SmallGot (n : Int) (w : World) (e : Ending) (w' : World) : Prop := ∃ c : Cnf, e = .returned c.val ∧ c.sig = smallSig n ∧ c.Ok w' ∧ Ext w w'
end Go
namespace Go.Proofs.YtcpeoflomdhidaaGreat
open Go Go.RowKit
set_option linter.unusedVariables false

def nineC (k : Nat) : Obj := .cells ((nineTo k).map Value.bool).toArray 4

end Go.Proofs.YtcpeoflomdhidaaGreat

