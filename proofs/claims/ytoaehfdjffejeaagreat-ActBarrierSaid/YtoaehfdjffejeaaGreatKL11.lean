import Derived.Test.YtoaehfdjffejeaaGreatKL10
import Derived.Deep.DeepCutAuto
import Derived.Deep.RegionLaw
import Derived.Laws.IdiomCopy
import Derived.Deep.MidRow
import Derived.Deep.RegionWith
/-
  Packed: PileP, CoreW, HandM, LineM, SpaceM, CoilD, Made, Eval, Ints, First21, SpaceN, Drain.
-/
open Go.Ext renaming alloc → zA, patch → zP, drew → zD, drewN → zN, more → zM, refl → zR, setCell → zS
open Nat renaming le_refl → zL, le_add_right → zK
/-
  Merged: XTintM, XPileP.
-/
/-
  tint.Mark.
-/
namespace Go.Proofs.YtoaehfdjffejeaaGreat
open Go Go.RowKit
set_option linter.unusedVariables false
set_option linter.unnecessarySimpa false
set_option linter.unusedSimpArgs false
set_option maxHeartbeats 2000000
theorem TabS.mark_yes {T : TabS} {k : Nat} {o : One} {s : Bool} (ho : T.l[k]? = some o) (h2 : T.state k = 2) (hb : T.black k s = false) : T.mark k s = ⟨T.l.set k ⟨o.state, o.head, s⟩⟩ := by
  obtain ⟨hk, hx⟩ := List.getElem?_eq_some_iff.1 ho
  unfold TabS.mark
  rw [h2, hb, if_pos (by decide), Int.toNat_natCast]
  congr 1
  apply List.ext_getElem?
  intro i
  rw [List.getElem?_modify, List.getElem?_set]
  by_cases hi : k = i
  · subst hi
    simp [ho, hk, hx]
  · simp [hi]
theorem TabS.mark_no {T : TabS} {i : Int} {s : Bool} (h : (T.state i == 2 && !T.black i s) = false) : T.mark i s = T := by
  unfold TabS.mark
  rw [h]
  rfl
theorem TabAt.marked {g : GW} {t b r c k : Nat} {T : TabS} {o : One} {s : Bool} (h : TabAt g t b T) (hk : k < T.l.length) (ho : T.l[k]? = some o)
    (hb : Blk g t b 91 [.slice (some ⟨r, 0, none⟩) T.l.length c, .int .i64 (T.cnt 0), .int .i64 (T.cnt 1), .int .i64 (T.cnt 2)])
    (hr : Row g t 95 3 (.slice (some ⟨r, 0, none⟩) T.l.length c) T.l.length (T.l.flatMap One.cells)) (hne : r ≠ b) :
    TabAt ⟨g.own, g.w.setCell ⟨r, k * 3 + 2, none⟩ (.bool s)⟩ t b ⟨T.l.set k ⟨o.state, o.head, s⟩⟩ := by
  refine ⟨⟨some ⟨r, 0, none⟩, c, ?_, ?_⟩, by simpa using h.len, fun u hu => ?_⟩
  · simp only [List.length_set]
    rw [TabS.cnt_set ho, TabS.cnt_set ho, TabS.cnt_set ho]
    have := hb.setOther (k * 3 + 2) (.bool s) hne
    simpa using this
  · simp only [List.length_set]
    have := hr.store (k * 3 + 2) (.bool s)
    rw [flat_set3 _ _ hk]
    obtain ⟨st, hd, se⟩ := o
    have e0 : (T.l.flatMap One.cells)[k * 3]? = some (.int .i64 st) := flat_at One.cells_len T.l k 0 _ ho (by omega)
    have e1 : (T.l.flatMap One.cells)[k * 3 + 1]? = some (.bool hd) := flat_at One.cells_len T.l k 1 _ ho (by omega)
    rw [show ((T.l.flatMap One.cells).set (k * 3) (.int .i64 st)).set (k * 3 + 1) (.bool hd) = T.l.flatMap One.cells from ?_]
    · exact this
    · apply List.ext_getElem?
      intro i
      rw [List.getElem?_set, List.getElem?_set]
      by_cases h1 : k * 3 + 1 = i
      · subst h1
        rw [if_pos rfl, e1]
        simp
        have := (List.getElem?_eq_some_iff.1 e1).1
        simpa using this
      · rw [if_neg h1]
        by_cases h2 : k * 3 = i
        · subst h2
          rw [if_pos rfl, e0]
          have := (List.getElem?_eq_some_iff.1 e0).1
          rw [if_pos this]
        · rw [if_neg h2]
  · rcases List.mem_or_eq_of_mem_set hu with hu | rfl
    · exact h.st u hu
    · exact h.st o (List.mem_of_getElem? ho)
theorem tab_mark (g : GW) (t b : Nat) (i : Int) (s : Bool) (T : TabS) (h : TabAt g t b T) :
    Calls Tryz.prog 121 #[.pointer (some ⟨b, 0, none⟩), .int .i64 i, .bool s] g.w (Does (.bool (T.state i == 2 && !T.black i s)) g (fun x => x = t) (fun g' => TabAt g' t b (T.mark i s))) := by
  have HS := Lib.hid (tab_state g t b i T h)
  have HB := Lib.hid (tab_black g t b i s T h)
  cases hst : T.state i == 2
  · have hz : ((T.state i : Int) != 2) = true := by
      have h1 : T.state i ≠ 2 := by simpa using hst
      exact bne_iff_ne.2 (by omega)
    have HM := Lib.hid (show T.mark i s = T from TabS.mark_no (by rw [hst]; rfl))
    have H := Lib.hid h
    generalize T.state i = x at *
    clear hst h
    go_enter Tryz.func121, Tryz.ntmps121
    go_wp2_with fail
    refine (HS.out).mono ?_
    rintro e w1 ⟨rfl, rfl⟩
    go_wp2_with fail
    go_ret
    exact Does.of g rfl rfl (Mod.refl _ _) (by rw [HM.out]; exact H.out)
  · have hz : ((T.state i : Int) != 2) = false := by
      have h1 : T.state i = 2 := by simpa using hst
      rw [h1]; rfl
    cases hbl : T.black i s
    · cases hin : inB i T.l.length
      · rw [show T.state i = 0 by unfold TabS.state; rw [TabS.at_out hin]; rfl] at hst
        cases hst
      obtain ⟨k, rfl, hk⟩ := inB_true hin
      obtain ⟨r, c, o, ho, h2, hb, hr, hrl, -, -, k2, kf, hne⟩ := h.one hk
      have e2 : T.state k = 2 := by simpa using hst
      have HM := Lib.hid (TabS.mark_yes ho e2 hbl)
      have HOR := Lib.hid (hr.own r rfl)
      have H := Lib.hid (h.marked (s := s) hk ho hb hr (fun e => hne e.symm))
      rw [hbl] at HB
      rw [e2] at HS
      have c0 := hb.cell (i := 0) rfl
      have hlen := h.len
      have f2 := kf (k * 3 + 2)
      generalize T.l.length = n at *
      clear hb hr h ho hst hz e2 hbl kf
      go_enter Tryz.func121, Tryz.ntmps121
      go_wp2_with fail
      refine (HS.out).mono ?_
      rintro e w1 ⟨rfl, rfl⟩
      go_wp2_with fail
      refine (HB.out).mono ?_
      rintro e w1 ⟨rfl, rfl⟩
      go_wp2_with fail
      go_ret
      exact Does.of ⟨g.own, _⟩ rfl rfl (Mod.st Mod.self HOR.out) (by rw [HM.out]; exact H.out)
    · have HM := Lib.hid (show T.mark i s = T from TabS.mark_no (by rw [hst, hbl]; rfl))
      have H := Lib.hid h
      rw [hbl] at HB
      generalize T.state i = x at *
      clear hst h hbl
      go_enter Tryz.func121, Tryz.ntmps121
      go_wp2_with fail
      refine (HS.out).mono ?_
      rintro e w1 ⟨rfl, rfl⟩
      go_wp2_with fail
      refine (HB.out).mono ?_
      rintro e w1 ⟨rfl, rfl⟩
      go_wp2_with fail
      go_ret
      exact Does.of g rfl rfl (Mod.refl _ _) (by rw [HM.out]; exact H.out)
end Go.Proofs.YtoaehfdjffejeaaGreat
/-
  pile.Push; shade.Grey, Part.
-/
namespace Go.Proofs.YtoaehfdjffejeaaGreat
open Go Go.RowKit
set_option linter.unusedVariables false
set_option linter.unnecessarySimpa false
set_option linter.unusedSimpArgs false
set_option maxHeartbeats 2000000
set_option maxRecDepth 100000
theorem pile_push (g : GW) (t b : Nat) (i : Int) (p : PileS) (h : PileAt g t b p) :
    Calls Tryz.prog 122 #[.pointer (some ⟨b, 0, none⟩), .int .i64 i] g.w (Does (.bool (!((p.l.length : Int) == p.most))) g (fun x => x = t) (fun g' => PileAt g' t b (p.push i))) := by
  obtain ⟨i0, hi, hz0, hz1, hz2⟩ := info_parts infoInt
  obtain ⟨A, c, hb, hr⟩ := h.ex
  have c0 := hb.cell (i := 0) rfl
  have c1 := hb.cell (i := 1) rfl
  have c2 := hb.cell (i := 2) rfl
  have f0 := hb.live 0
  have f2 := hb.live 2
  have hl := hb.lt
  have HO := Lib.hid hb.own
  have HB := Lib.hid hb
  have HR := Lib.hid hr
  have HM := Lib.hid h.most
  have HL := Lib.hid h.len
  have hll : p.l.length ≤ 256 := by have := h.len; have := h.most; omega
  by_cases hf : (p.l.length : Int) = p.most
  · have hz : ((p.l.length : Int) == p.most) = true := beq_iff_eq.2 hf
    have HP := Lib.hid (show p.push i = { p with lost := true } by unfold PileS.push; rw [if_pos hf])
    clear hf hb hr h
    go_enter Tryz.func122, Tryz.ntmps122
    go_wp2_with fail
    refine wp_region_mixed [true, true, true, true, true, true, true, true, true, true] 0 10 (by kernel_rfl) (by kernel_rfl) (by kernel_rfl) ?_ (by decide) (by decide) (by decide) (by kernel_rfl) ?_
    · intro c a d v w h; cases d <;> exact h
    intro X00
    simp only [pickOps]
    repeat (go_big_quiet_step (fail))
    refine wpQuiet_nil (fun X0 => ?_)
    clear X00
    refine wpAnyM_done (by kernel_rfl) (fun X0' => ?_) _
    go_wp2_with fail
    go_ret
    refine Does.ext ⟨g.own, g.w.setCell ⟨b, 2, none⟩ (.bool true)⟩ (by (repeat (first | (with_reducible (first | assumption | exact zR _ | exact zM _ _ _ _)) | apply zA | refine zS ?_ (by first | exact zL _ | exact zK _ _ | assumption) _ | apply zP | apply zD | apply zN))) (by rw [hz]; rfl) (Mod.st Mod.self HO.out) (fun g2 m => ?_)
    rw [HP.out]
    exact PileAt.keep ⟨⟨A, c, HB.out.set 2 (.bool true), HR.out.setOther 2 _ (fun x hx => HR.out.ne_type HB.out (by decide) hx)⟩, HM.out, HL.out⟩ m id
  · have hz : ((p.l.length : Int) == p.most) = false := beq_eq_false_iff_ne.2 hf
    have HP := Lib.hid (show p.push i = { p with l := p.l ++ [i] } by unfold PileS.push; rw [if_neg hf])
    have HLT := Lib.hid (show ((p.l ++ [i]).length : Int) ≤ p.most from by have := h.len; simp; omega)
    clear hf hb hr h
    go_enter Tryz.func122, Tryz.ntmps122
    go_wp2_with fail
    refine wp_region_mixed [true, true, true, true, true, true, true, true, true, true] 0 10 (by kernel_rfl) (by kernel_rfl) (by kernel_rfl) ?_ (by decide) (by decide) (by decide) (by kernel_rfl) ?_
    · intro c a d v w h; cases d <;> exact h
    intro X00
    simp only [pickOps]
    repeat (go_big_quiet_step (fail))
    refine wpQuiet_nil (fun X0 => ?_)
    clear X00
    refine wpAnyM_done (by kernel_rfl) (fun X0' => ?_) _
    obtain ⟨X1, hX⟩ := (show Ext g.w ((g.w.patch X0).patch X0') from Ext.trans ⟨X0, rfl⟩ ⟨X0', rfl⟩)
    rw [hX]
    clear hX
    have R1 := Lib.hid (HR.out.ptx X1)
    have B1 := Lib.hid (HB.out.pt X1)
    have hbl : b < (g.w.patch X1).heap.size := B1.out.lt
    have HEX := Lib.hid (fun o => show Ext (g.pt X1).w ((g.w.patch X1).alloc o) from Ext.alloc (Ext.refl _) o)
    go_wp2_with (at_builtin; refine wpList_append_own_at _ rfl (.tmp 22) (.tmp 24) 62 rfl 0 3 i0 (.int .i64 0) 1 8 Tryz.underlying62 hi hz0 hz1 hz2 rfl (by decide) _ _ _ rfl (R1.out.row.alloc _) ⟨(g.w.patch X1).heap.size, 0, none⟩ 1 1 [.int .i64 i] rfl rfl (cell_one_new _ _ _) (by intro u hu; simp at hu; subst hu; rfl) (by unfold maxLen; omega) (by omega) (Nat.zero_le _) ?_; intro v2 w2 hown hgrow hnil hat; obtain ⟨A2, cp2, rfl⟩ := own_form hown; have R2 := Lib.hid ((R1.out.ext (HEX.out (.cells #[.int .i64 i] 3)) 0).grown hown hat); have B2 := Lib.hid ((B1.out.ext (HEX.out (.cells #[.int .i64 i] 3)) 0).grown (t' := t) hgrow (fun x hx => R1.out.ne_type B1.out (by decide) hx)); have M2 := Lib.hid (((Mod.pt (Mod.refl (fun x => x = t) g) X1).trans (Mod.ext (T := fun x => x = t) (HEX.out (.cells #[.int .i64 i] 3)) 0)).trans (Mod.grown hgrow t (fun k hk hl => (R1.out.ext (HEX.out (.cells #[.int .i64 i] 3)) 0).own k hk))); have d0 := B2.out.cell (i := 0) rfl; have e0 := B2.out.live 0; have hbl2 := B2.out.lt; simp only [GW.to] at d0 e0 hbl2; clear hown hgrow hnil hat c0 f0 hbl hl)
    go_ret
    refine ⟨by rw [hz]; rfl, _, M2.out.trans (Mod.st Mod.self B2.out.own), ?_⟩
    rw [HP.out]
    exact ⟨⟨A2, cp2, (by simp only [List.length_append, List.length_cons, List.length_nil]; exact B2.out.set 0 _), (by simp only [List.length_append, List.length_cons, List.length_nil, List.map_append, List.map_cons, List.map_nil]; exact R2.out.setOther 0 _ (fun x hx => R2.out.ne_type B2.out (by decide) hx))⟩, HM.out, HLT.out⟩
theorem white_any (g : GW) (tt bt : Nat) (T : TabS) (i : Int) (s : Bool) (h : TabAt g tt bt T) : Calls Tryz.prog 120 #[.agg #[.pointer (some ⟨bt, 0, none⟩)], .int .i64 i, .bool s] g.w (Gives (.bool (T.white i s)) g.w) := by
  have HH := Lib.hid (fun w' (he : Ext g.w w') => tab_head (g.to 0 w') tt bt i T (h.keep (Mod.ext (T := fun _ => False) he 0) id))
  have HB := Lib.hid (fun w' (he : Ext g.w w') => tab_black (g.to 0 w') tt bt i s T (h.keep (Mod.ext (T := fun _ => False) he 0) id))
  have HV := Lib.hid (show T.white i s = (T.head i && !T.black i s) from rfl)
  rw [HV.out]
  generalize T.head i = a at *
  generalize T.black i s = b at *
  clear h HV
  cases a
  · go_enter Tryz.func120, Tryz.ntmps120
    go_wp2_with fail
    refine (HH.out _ (by (repeat (first | (with_reducible (first | assumption | exact zR _ | exact zM _ _ _ _)) | apply zA | refine zS ?_ (by first | exact zL _ | exact zK _ _ | assumption) _ | apply zP | apply zD | apply zN)))).mono ?_
    rintro e w1 ⟨rfl, rfl⟩
    go_wp2_with fail
    go_ret
    exact Gives.mk rfl (by (try simp only [GW.to]); (repeat (first | (with_reducible (first | assumption | exact zR _ | exact zM _ _ _ _)) | apply zA | refine zS ?_ (by first | exact zL _ | exact zK _ _ | assumption) _ | apply zP | apply zD | apply zN)))
  · go_enter Tryz.func120, Tryz.ntmps120
    go_wp2_with fail
    refine (HH.out _ (by (repeat (first | (with_reducible (first | assumption | exact zR _ | exact zM _ _ _ _)) | apply zA | refine zS ?_ (by first | exact zL _ | exact zK _ _ | assumption) _ | apply zP | apply zD | apply zN)))).mono ?_
    rintro e w1 ⟨rfl, rfl⟩
    simp only [GW.to]
    go_wp2_with fail
    refine (HB.out _ (by (repeat (first | (with_reducible (first | assumption | exact zR _ | exact zM _ _ _ _)) | apply zA | refine zS ?_ (by first | exact zL _ | exact zK _ _ | assumption) _ | apply zP | apply zD | apply zN)))).mono ?_
    rintro e w1 ⟨rfl, rfl⟩
    simp only [GW.to]
    go_wp2_with fail
    go_ret
    exact Gives.mk (by simp) (by (try simp only [GW.to]); (repeat (first | (with_reducible (first | assumption | exact zR _ | exact zM _ _ _ _)) | apply zA | refine zS ?_ (by first | exact zL _ | exact zK _ _ | assumption) _ | apply zP | apply zD | apply zN)))
structure ShdAt (g : GW) (t b bt tt bp tp : Nat) (T : TabS) (p : PileS) (n : Int) : Prop where
  blk : Blk g t b 58 [.pointer (some ⟨bt, 0, none⟩), .pointer (some ⟨bp, 0, none⟩), .int .i64 n]
  tab : TabAt g tt bt T
  pile : PileAt g tp bp p
theorem ShdAt.keep {S : Nat → Prop} {g g' : GW} {t b bt tt bp tp : Nat} {T : TabS} {p : PileS} {n : Int} (h : ShdAt g t b bt tt bp tp T p n) (m : Mod S g g') (h1 : ¬ S t) (h2 : ¬ S tt) (h3 : ¬ S tp) : ShdAt g' t b bt tt bp tp T p n := ⟨h.blk.keep m h1, h.tab.keep m h2, h.pile.keep m h3⟩
theorem ShdAt.tick {g : GW} {t b bt tt bp tp : Nat} {T : TabS} {p : PileS} {n : Int} (h : ShdAt g t b bt tt bp tp T p n) (h1 : t ≠ tt) (h2 : t ≠ tp) : ShdAt ⟨g.own, g.w.setCell ⟨b, 2, none⟩ (.int .i64 (n + 1))⟩ t b bt tt bp tp T p (n + 1) := by
  have m : Mod (fun x => x = t) g ⟨g.own, g.w.setCell ⟨b, 2, none⟩ (.int .i64 (n + 1))⟩ := Mod.st Mod.self h.blk.own
  exact ⟨h.blk.set 2 (.int .i64 (n + 1)), h.tab.keep m (fun e => h1 e.symm), h.pile.keep m (fun e => h2 e.symm)⟩
theorem shade_grey (g : GW) (t b bt tt bp tp : Nat) (T : TabS) (p : PileS) (n i : Int) (s : Bool) (h : ShdAt g t b bt tt bp tp T p n) (hn : 0 ≤ n ∧ n ≤ 1099511627776) (h1 : t ≠ tt) (h2 : t ≠ tp) (h3 : tt ≠ tp) :
    Calls Tryz.prog 83 #[.pointer (some ⟨b, 0, none⟩), .int .i64 i, .bool s] g.w (Does (.bool (T.white i s)) g (fun x => x = t ∨ x = tt ∨ x = tp) (fun g' => ShdAt g' t b bt tt bp tp (T.grey i s) (p.grey T i s) (n + 1))) := by
  have c0 := h.blk.cell (i := 0) rfl
  have c2 := h.blk.cell (i := 2) rfl
  have f2 := h.blk.live 2
  have hl := h.blk.lt
  have HO := Lib.hid h.blk.own
  have HN := Lib.hid (And.intro h1 (And.intro h2 h3))
  have H1 := Lib.hid (h.tick h1 h2)
  have M1 := Lib.hid (show Mod (fun x => x = t) g ⟨g.own, g.w.setCell ⟨b, 2, none⟩ (.int .i64 (n + 1))⟩ from Mod.st Mod.self HO.out)
  have HW := Lib.hid (white_any ⟨g.own, g.w.setCell ⟨b, 2, none⟩ (.int .i64 (n + 1))⟩ tt bt T i s H1.out.tab)
  obtain ⟨hn0, hn1⟩ := hn
  clear h h1 h2 h3
  cases hw : T.white i s
  · have HG := Lib.hid (And.intro (show T.grey i s = T by unfold TabS.grey; rw [hw]; rfl) (show p.grey T i s = p by unfold PileS.grey; rw [hw]; rfl))
    rw [hw] at HW
    clear hw
    go_enter Tryz.func83, Tryz.ntmps83
    go_wp2_with fail
    refine HW.out.mono ?_
    rintro e w1 ⟨rfl, hE⟩
    have M2 := Lib.hid (Mod.ext (T := fun _ => False) (g := ⟨g.own, g.w.setCell ⟨b, 2, none⟩ (.int .i64 (n + 1))⟩) (show Ext (g.w.setCell ⟨b, 2, none⟩ (.int .i64 (n + 1))) w1 from hE) 0)
    clear hE
    go_wp2_with fail
    go_ret
    exact ⟨rfl, _, (M1.out.mono (fun x hx => Or.inl hx)).trans (M2.out.mono (fun _ => False.elim)), by rw [HG.out.1, HG.out.2]; exact H1.out.keep M2.out id id id⟩
  · have HG := Lib.hid (And.intro (show T.grey i s = T.mark i s by unfold TabS.grey; rw [hw]; rfl) (show p.grey T i s = p.push i by unfold PileS.grey; rw [hw]; rfl))
    rw [hw] at HW
    clear hw
    go_enter Tryz.func83, Tryz.ntmps83
    go_wp2_with fail
    refine HW.out.mono ?_
    rintro e w1 ⟨rfl, hE⟩
    have M2 := Lib.hid (Mod.ext (T := fun _ => False) (g := ⟨g.own, g.w.setCell ⟨b, 2, none⟩ (.int .i64 (n + 1))⟩) (show Ext (g.w.setCell ⟨b, 2, none⟩ (.int .i64 (n + 1))) w1 from hE) 0)
    have H2 := Lib.hid (H1.out.keep M2.out id id id)
    clear hE c0 c2 f2 hl
    have c0 := H2.out.blk.cell (i := 0) rfl
    have hl := H2.out.blk.lt
    simp only [GW.to] at c0 hl
    go_wp2_with fail
    refine (tab_mark (GW.to ⟨g.own, g.w.setCell ⟨b, 2, none⟩ (.int .i64 (n + 1))⟩ 0 w1) tt bt i s T H2.out.tab).mono ?_
    rintro e w2 ⟨rfl, own2, m2, r2⟩
    have M3 := Lib.hid m2
    have B3 := Lib.hid (H2.out.blk.keep m2 HN.out.1)
    have P3 := Lib.hid (H2.out.pile.keep m2 (fun e => HN.out.2.2 e.symm))
    have T3 := Lib.hid r2
    clear m2 r2 c0 hl
    have c1 := B3.out.cell (i := 1) rfl
    have hl := B3.out.lt
    simp only at c1 hl
    go_wp2_with fail
    refine (pile_push ⟨own2, w2⟩ tp bp i p P3.out).mono ?_
    rintro e w3 ⟨rfl, own3, m3, r3⟩
    have M4 := Lib.hid m3
    have R4 := Lib.hid (show ShdAt ⟨own3, w3⟩ t b bt tt bp tp (T.mark i s) (p.push i) (n + 1) from ⟨B3.out.keep m3 HN.out.2.1, T3.out.keep m3 HN.out.2.2, r3⟩)
    clear m3 r3 c1 hl
    go_wp2_with fail
    go_ret
    exact ⟨rfl, own3, (M1.out.mono (fun x hx => Or.inl hx)).trans ((M2.out.mono (fun _ => False.elim)).trans ((M3.out.mono (fun x hx => Or.inr (Or.inl hx))).trans (M4.out.mono (fun x hx => Or.inr (Or.inr hx))))), by rw [HG.out.1, HG.out.2]; exact R4.out⟩
end Go.Proofs.YtoaehfdjffejeaaGreat

/-
  core: one part turned, the others kept.
-/
namespace Go.Proofs.YtoaehfdjffejeaaGreat
open Go Go.RowKit
set_option linter.unusedVariables false
section
variable {g g' : GW} {B b bm bs bt bp bsp bh : Nat} {K : CoreS} {cm : Cnf}
theorem CoreIn.putMem (h : CoreIn g B b K bm bs bt bp bsp bh cm) {M : MemS} (m : Mod (fun x => x = B + 62) g g') (hm : MemAt g' (B + 62) bm M) : CoreIn g' B b { K with mem := M } bm bs bt bp bsp bh cm :=
  ⟨h.blk.keep m (by omega), hm, h.sh.keep m (by omega), h.pile.keep m (by omega), h.sp.keep m (fun x hx => by omega), h.hand.keep m (by omega), h.cnf.keep m (by omega), h.same⟩
theorem CoreIn.putHand (h : CoreIn g B b K bm bs bt bp bsp bh cm) {H : HandS} (m : Mod (fun x => x = B + 63) g g') (hm : HandAt g' (B + 63) bh H) : CoreIn g' B b { K with hand := H } bm bs bt bp bsp bh cm :=
  ⟨h.blk.keep m (by omega), h.mem.keep m (by omega), h.sh.keep m (by omega), h.pile.keep m (by omega), h.sp.keep m (fun x hx => by omega), hm, h.cnf.keep m (by omega), h.same⟩
theorem CoreIn.putSp (h : CoreIn g B b K bm bs bt bp bsp bh cm) {S : SpaceS} (m : Mod (inst B) g g') (hm : SpaceAt g' B bsp bt S) : CoreIn g' B b { K with sp := S } bm bs bt bp bsp bh cm :=
  ⟨h.blk.keep m (fun hx => by have := hx.2; omega), h.mem.keep m (fun hx => by have := hx.2; omega), h.sh.keep m (fun hx => by have := hx.2; omega), h.pile.keep m (fun hx => by have := hx.2; omega), hm, h.hand.keep m (fun hx => by have := hx.2; omega), h.cnf.keep m (fun hx => by have := hx.2; omega), h.same⟩
theorem SpaceAt.putTab {S : SpaceS} (h : SpaceAt g B b bt S) {T : TabS} (m : Mod (fun x => x = B + 60 ∨ x = B + 50 ∨ x = B + 61) g g') (ht : TabAt g' (B + 50) bt T) : SpaceAt g' B b bt { S with tab := T } := by
  obtain ⟨bp, bk, bl, A, cs, cm, bs, h⟩ := h
  exact ⟨bp, bk, bl, A, cs, cm, bs, ⟨h.blk.keep m (by omega), h.row.keep m (by omega), ht, h.pool.keep m (by omega), h.coil.keep m (by omega), h.line.keep m (by omega) (by omega), h.cnf.keep m (by omega), h.same, h.blen, fun j x s hx hs => (h.stock j x s hx hs).keep m (by have h1 : j < S.stocks.length := (List.getElem?_eq_some_iff.1 hs).1; have := h.few; omega), h.check, h.few⟩⟩
theorem SpaceAt.tab {S : SpaceS} (h : SpaceAt g B b bt S) : TabAt g (B + 50) bt S.tab := by
  obtain ⟨bp, bk, bl, A, cs, cm, bs, h⟩ := h
  exact h.tab
theorem CoreIn.shd (h : CoreIn g B b K bm bs bt bp bsp bh cm) : ShdAt g (B + 60) bs bt (B + 50) bp (B + 61) K.sp.tab K.pile K.n := ⟨h.sh, h.sp.tab, h.pile⟩
theorem CoreIn.putShd (h : CoreIn g B b K bm bs bt bp bsp bh cm) {T : TabS} {p : PileS} {n : Int} (m : Mod (fun x => x = B + 60 ∨ x = B + 50 ∨ x = B + 61) g g') (hs : ShdAt g' (B + 60) bs bt (B + 50) bp (B + 61) T p n) : CoreIn g' B b { K with sp := { K.sp with tab := T }, pile := p, n := n } bm bs bt bp bsp bh cm :=
  ⟨h.blk.keep m (by omega), h.mem.keep m (by omega), hs.blk, hs.pile, h.sp.putTab m hs.tab, h.hand.keep m (by omega), h.cnf.keep m (by omega), h.same⟩
end
end Go.Proofs.YtoaehfdjffejeaaGreat

/-
  hand: Post, Poll, Answer, Join, Leave; shade.Next, Lost; pile.Pop, Lost, Found.
-/
namespace Go
open Go.RowKit
namespace HandS
def polled (h : HandS) (i : Int) : Bool := h.own i == -1 || h.own i == h.status
def knownB (s : Int) : Bool := decide (0 ≤ s) && decide (s ≤ 4)
def post (h : HandS) (s : Int) (flip : Bool) : HandS := if knownB s then { h.tick with status := s, sense := h.sense != flip } else h.tick
def mayAnswer (h : HandS) (i s : Int) : Bool := !(h.own i == -1) && knownB s
def answer (h : HandS) (i s : Int) : HandS := if h.mayAnswer i s then { h.tick with l := h.l.set i.toNat s } else h.tick
def mayJoin (h : HandS) (i : Int) : Bool := inB i h.l.length && (h.l.getD i.toNat 0 == -1)
def join (h : HandS) (i : Int) : HandS := if h.mayJoin i then { h.tick with l := h.l.set i.toNat h.status } else h.tick
def joined (h : HandS) (i : Int) : Value := if h.mayJoin i then .tuple #[.int .i64 h.status, .bool h.sense, .bool true] else .tuple #[.int .i64 0, .bool false, .bool false]
def mayLeave (h : HandS) (i : Int) : Bool := !(h.own i == -1)
def leave (h : HandS) (i : Int) : HandS := if h.mayLeave i then { h.tick with l := h.l.set i.toNat (-1) } else h.tick
theorem own_in {h : HandS} {i : Int} (hi : (h.own i == -1) = false) : ∃ k : Nat, i = k ∧ k < h.l.length := by
  unfold own at hi
  cases hb : inB i h.l.length
  · rw [hb] at hi; simp at hi
  · exact inB_true hb
end HandS
end Go
namespace Go.Proofs.YtoaehfdjffejeaaGreat
open Go Go.RowKit
set_option linter.unusedVariables false
set_option linter.unnecessarySimpa false
set_option linter.unusedSimpArgs false
set_option maxHeartbeats 2000000
theorem known_any (s : Int) (w : World) : Calls Tryz.prog 32 #[.int .i64 s] w (Gives (.bool (HandS.knownB s)) w) := by
  by_cases h0 : 0 ≤ s
  · have d0 : decide (0 ≤ s) = true := decide_eq_true h0
    have HV := Lib.hid (show HandS.knownB s = decide (s ≤ 4) by unfold HandS.knownB; rw [d0, Bool.true_and])
    go_enter Tryz.func32, Tryz.ntmps32
    go_wp2_with fail
    go_ret
    exact Gives.bool (by rw [HV.out]) (by (repeat (first | (with_reducible (first | assumption | exact zR _ | exact zM _ _ _ _)) | apply zA | refine zS ?_ (by first | exact zL _ | exact zK _ _ | assumption) _ | apply zP | apply zD | apply zN)))
  · have d0 : decide (0 ≤ s) = false := decide_eq_false h0
    have HV := Lib.hid (show HandS.knownB s = false by unfold HandS.knownB; rw [d0, Bool.false_and])
    go_enter Tryz.func32, Tryz.ntmps32
    go_wp2_with fail
    go_ret
    exact Gives.bool (by rw [HV.out]) (by (repeat (first | (with_reducible (first | assumption | exact zR _ | exact zM _ _ _ _)) | apply zA | refine zS ?_ (by first | exact zL _ | exact zK _ _ | assumption) _ | apply zP | apply zD | apply zN)))
theorem HandAt.tick {g : GW} {t b : Nat} {h : HandS} (H : HandAt g t b h) : HandAt ⟨g.own, g.w.setCell ⟨b, 3, none⟩ (.int .i64 (h.count + 1))⟩ t b h.tick := by
  obtain ⟨A, c, hb, hr⟩ := H.ex
  exact ⟨⟨A, c, hb.set 3 _, hr.setOther 3 _ (fun x hx => hr.ne_type hb (by decide) hx)⟩, H.len⟩
theorem HandAt.put {g : GW} {t b r c k : Nat} {h : HandS} (s : Int) (H : HandAt g t b h) (hk : k < h.l.length) (hb : Blk g t b 93 [.int .i64 h.status, .bool h.sense, .slice (some ⟨r, 0, none⟩) h.l.length c, .int .i64 h.count]) :
    HandAt ⟨g.own, g.w.setCell ⟨r, k, none⟩ (.int .i64 s)⟩ t b { h with l := h.l.set k s } ∧ g.own r = t := by
  obtain ⟨A, c', hb', hr⟩ := H.ex
  have he := hb.same hb'
  simp only [List.cons.injEq, Value.slice.injEq, and_true, true_and] at he
  obtain ⟨rfl, rfl⟩ := he
  obtain ⟨r', hA, hrl, ho, hcell, hfr⟩ := hr.block (by omega)
  injection hA with hA
  injection hA with hA
  subst hA
  refine ⟨⟨⟨some ⟨r, 0, none⟩, c, ?_, ?_⟩, by show (h.l.set k s).length ≤ 16; rw [List.length_set]; exact H.len⟩, ho⟩
  · have hne : r ≠ b := fun e => (hr.ne_type hb (by decide) (x := r) rfl) e.symm
    show Blk _ t b _ [.int .i64 h.status, .bool h.sense, .slice (some ⟨r, 0, none⟩) (h.l.set k s).length c, .int .i64 h.count]
    rw [List.length_set]
    exact hb.setOther k _ hne
  · show Row _ t 3 1 (.slice (some ⟨r, 0, none⟩) (h.l.set k s).length c) (h.l.set k s).length ((h.l.set k s).map (Value.int .i64))
    rw [List.length_set, List.map_set]
    exact hr.store k (.int .i64 s)
theorem hand_post (g : GW) (t b : Nat) (s : Int) (flip : Bool) (h : HandS) (H : HandAt g t b h) (hc : 0 ≤ h.count ∧ h.count ≤ 1099511627776) :
    Calls Tryz.prog 17 #[.pointer (some ⟨b, 0, none⟩), .int .i64 s, .bool flip] g.w (Does (.bool (HandS.knownB s)) g (fun x => x = t) (fun g' => HandAt g' t b (h.post s flip))) := by
  have HT := Lib.hid H.tick
  obtain ⟨A, c, hb, hr⟩ := H.ex
  obtain ⟨hc0, hc1⟩ := hc
  have HK := Lib.hid (fun w' => known_any s w')
  have M0 := Lib.hid (show Mod (fun x => x = t) g ⟨g.own, g.w.setCell ⟨b, 3, none⟩ (.int .i64 (h.count + 1))⟩ from Mod.set hb.own)
  obtain ⟨a0, a1, a2, a3, al⟩ := hb.c4
  have af0 := hb.live 0
  have af1 := hb.live 1
  have af3 := hb.live 3
  (try simp only [GW.to] at a0 a1 a2 a3 af0 af1 af3 al)
  have HB := Lib.hid hb
  have HR := Lib.hid hr
  have HL := Lib.hid H.len
  clear hb hr H
  cases hk : HandS.knownB s
  · rw [hk] at HK
    have HV := Lib.hid (show h.post s flip = h.tick by unfold HandS.post; rw [hk]; rfl)
    clear hk
    go_enter Tryz.func17, Tryz.ntmps17
    go_wp2_with fail
    refine (HK.out _).mono ?_
    rintro e w1 ⟨rfl, hE⟩
    obtain ⟨own1, m1⟩ : ∃ own1, Mod (fun _ => False) ⟨g.own, g.w.setCell ⟨b, 3, none⟩ (.int .i64 (h.count + 1))⟩ ⟨own1, w1⟩ := ⟨_, Mod.ext (g := ⟨g.own, g.w.setCell ⟨b, 3, none⟩ (.int .i64 (h.count + 1))⟩) (show Ext _ w1 from hE) 0⟩
    have M1 := Lib.hid (M0.out.trans (m1.mono (S := fun x => x = t) (fun _ => False.elim)))
    have H1 := Lib.hid (HT.out.keep m1 id)
    clear m1 hE
    go_wp2_with fail
    go_ret
    exact Does.of ⟨own1, w1⟩ rfl rfl M1.out (by rw [HV.out]; exact H1.out)
  · rw [hk] at HK
    have HV := Lib.hid (show h.post s flip = { h.tick with status := s, sense := h.sense != flip } by unfold HandS.post; rw [hk]; rfl)
    clear hk
    go_enter Tryz.func17, Tryz.ntmps17
    go_wp2_with fail
    refine (HK.out _).mono ?_
    rintro e w1 ⟨rfl, hE⟩
    obtain ⟨own1, m1⟩ : ∃ own1, Mod (fun _ => False) ⟨g.own, g.w.setCell ⟨b, 3, none⟩ (.int .i64 (h.count + 1))⟩ ⟨own1, w1⟩ := ⟨_, Mod.ext (g := ⟨g.own, g.w.setCell ⟨b, 3, none⟩ (.int .i64 (h.count + 1))⟩) (show Ext _ w1 from hE) 0⟩
    have M1 := Lib.hid (M0.out.trans (m1.mono (S := fun x => x = t) (fun _ => False.elim)))
    have B1 := Lib.hid ((HB.out.set 3 (.int .i64 (h.count + 1))).keep m1 id)
    have R1 := Lib.hid ((HR.out.setOther 3 (.int .i64 (h.count + 1)) (fun x hx => HR.out.ne_type HB.out (by decide) hx)).keep m1 id)
    clear m1 hE a0 a1 a2 a3 af0 af1 af3 al
    obtain ⟨a0, a1, a2, a3, al⟩ := B1.out.c4
    have af0 := B1.out.live 0
    have af1 := B1.out.live 1
    (try simp only [GW.to] at a0 a1 a2 a3 af0 af1 al)
    go_wp2_with fail
    go_ret
    refine Does.of ⟨own1, (w1.setCell ⟨b, 0, none⟩ (.int .i64 s)).setCell ⟨b, 1, none⟩ (.bool (h.sense != flip))⟩ rfl rfl (Mod.st (Mod.st M1.out B1.out.own) B1.out.own) ?_
    rw [HV.out]
    exact ⟨⟨A, c, (B1.out.set 0 (.int .i64 s)).set 1 (.bool (h.sense != flip)), (R1.out.setOther 0 _ (fun x hx => HR.out.ne_type HB.out (by decide) hx)).setOther 1 _ (fun x hx => HR.out.ne_type HB.out (by decide) hx)⟩, HL.out⟩
theorem hand_answer (g : GW) (t b : Nat) (i s : Int) (h : HandS) (H : HandAt g t b h) (hc : 0 ≤ h.count ∧ h.count ≤ 1099511627776) :
    Calls Tryz.prog 84 #[.pointer (some ⟨b, 0, none⟩), .int .i64 i, .int .i64 s] g.w (Does (.bool (h.mayAnswer i s)) g (fun x => x = t) (fun g' => HandAt g' t b (h.answer i s))) := by
  have HST := Lib.hid (hand_status _ t b i h.tick H.tick)
  have HT := Lib.hid H.tick
  obtain ⟨A, c, hb, hr⟩ := H.ex
  obtain ⟨hc0, hc1⟩ := hc
  have HK := Lib.hid (fun w' => known_any s w')
  have M0 := Lib.hid (show Mod (fun x => x = t) g ⟨g.own, g.w.setCell ⟨b, 3, none⟩ (.int .i64 (h.count + 1))⟩ from Mod.set hb.own)
  rw [show h.tick.own i = h.own i from rfl] at HST
  obtain ⟨a0, a1, a2, a3, al⟩ := hb.c4
  have af3 := hb.live 3
  (try simp only [GW.to] at a0 a1 a2 a3 af3 al)
  have HB := Lib.hid hb
  have HR := Lib.hid hr
  clear hb hr
  cases hx : (h.own i == -1)
  case true =>
    have HV := Lib.hid (show h.mayAnswer i s = false by unfold HandS.mayAnswer; rw [hx]; rfl)
    have HW := Lib.hid (show h.answer i s = h.tick by unfold HandS.answer; rw [HV.out]; rfl)
    go_enter Tryz.func84, Tryz.ntmps84
    go_wp2_with fail
    refine HST.out.mono ?_
    rintro e w1 ⟨rfl, rfl⟩
    go_wp2_with fail
    go_ret
    exact Does.of ⟨g.own, _⟩ rfl (by rw [HV.out]; try rfl) M0.out (by rw [HW.out]; exact HT.out)
  obtain ⟨k, rfl, hk⟩ := HandS.own_in hx
  cases hkn : HandS.knownB s
  · rw [hkn] at HK
    have HV := Lib.hid (show h.mayAnswer k s = false by unfold HandS.mayAnswer; rw [hx, hkn]; rfl)
    have HW := Lib.hid (show h.answer k s = h.tick by unfold HandS.answer; rw [HV.out]; rfl)
    clear hkn
    go_enter Tryz.func84, Tryz.ntmps84
    go_wp2_with fail
    refine HST.out.mono ?_
    rintro e w1 ⟨rfl, rfl⟩
    go_wp2_with fail
    refine (HK.out _).mono ?_
    rintro e w1 ⟨rfl, hE⟩
    obtain ⟨own1, m1⟩ : ∃ own1, Mod (fun _ => False) ⟨g.own, g.w.setCell ⟨b, 3, none⟩ (.int .i64 (h.count + 1))⟩ ⟨own1, w1⟩ := ⟨_, Mod.ext (g := ⟨g.own, g.w.setCell ⟨b, 3, none⟩ (.int .i64 (h.count + 1))⟩) (show Ext _ w1 from hE) 0⟩
    have M1 := Lib.hid (M0.out.trans (m1.mono (S := fun x => x = t) (fun _ => False.elim)))
    have H1 := Lib.hid (HT.out.keep m1 id)
    clear m1 hE
    go_wp2_with fail
    go_ret
    exact Does.of ⟨own1, w1⟩ rfl (by rw [HV.out]; try rfl) M1.out (by rw [HW.out]; exact H1.out)
  · rw [hkn] at HK
    have HV := Lib.hid (show h.mayAnswer k s = true by unfold HandS.mayAnswer; rw [hx, hkn]; rfl)
    have HW := Lib.hid (show h.answer k s = { h.tick with l := h.tick.l.set k s } by unfold HandS.answer; rw [HV.out, if_pos rfl, Int.toNat_natCast]; rfl)
    clear hkn
    go_enter Tryz.func84, Tryz.ntmps84
    go_wp2_with fail
    refine HST.out.mono ?_
    rintro e w1 ⟨rfl, rfl⟩
    go_wp2_with fail
    refine (HK.out _).mono ?_
    rintro e w1 ⟨rfl, hE⟩
    obtain ⟨own1, m1⟩ : ∃ own1, Mod (fun _ => False) ⟨g.own, g.w.setCell ⟨b, 3, none⟩ (.int .i64 (h.count + 1))⟩ ⟨own1, w1⟩ := ⟨_, Mod.ext (g := ⟨g.own, g.w.setCell ⟨b, 3, none⟩ (.int .i64 (h.count + 1))⟩) (show Ext _ w1 from hE) 0⟩
    have M1 := Lib.hid (M0.out.trans (m1.mono (S := fun x => x = t) (fun _ => False.elim)))
    have H1 := Lib.hid (HT.out.keep m1 id)
    have B1 := Lib.hid ((HB.out.set 3 (.int .i64 (h.count + 1))).keep m1 id)
    have R1 := Lib.hid ((HR.out.setOther 3 (.int .i64 (h.count + 1)) (fun x hx => HR.out.ne_type HB.out (by decide) hx)).keep m1 id)
    have hlen := H.len
    clear m1 hE a0 a1 a2 a3 af3 al
    obtain ⟨a0, a1, a2, a3, al⟩ := B1.out.c4
    (try simp only [GW.to] at a0 a1 a2 a3 al)
    obtain ⟨r, rfl, hrl, ho, hcell, hfr⟩ := R1.out.block (by omega)
    have k0 := hcell k (.int .i64 (h.l.getD k 0)) (by simp [List.getD_eq_getElem?_getD, hk])
    have kf := hfr k
    have HP := Lib.hid (HandAt.put s H1.out (show k < h.tick.l.length from hk) B1.out)
    (try simp only at k0 kf hrl)
    clear hcell hfr H
    generalize h.l.getD k 0 = x at *
    go_wp2_with fail
    go_ret
    exact Does.of ⟨own1, w1.setCell ⟨r, k, none⟩ (.int .i64 s)⟩ rfl (by rw [HV.out]; try rfl) (Mod.st M1.out HP.out.2) (by rw [HW.out]; exact HP.out.1)
theorem hand_leave (g : GW) (t b : Nat) (i : Int) (h : HandS) (H : HandAt g t b h) (hc : 0 ≤ h.count ∧ h.count ≤ 1099511627776) :
    Calls Tryz.prog 88 #[.pointer (some ⟨b, 0, none⟩), .int .i64 i] g.w (Does (.bool (h.mayLeave i)) g (fun x => x = t) (fun g' => HandAt g' t b (h.leave i))) := by
  have HST := Lib.hid (hand_status _ t b i h.tick H.tick)
  have HT := Lib.hid H.tick
  obtain ⟨A, c, hb, hr⟩ := H.ex
  obtain ⟨hc0, hc1⟩ := hc
  have M0 := Lib.hid (show Mod (fun x => x = t) g ⟨g.own, g.w.setCell ⟨b, 3, none⟩ (.int .i64 (h.count + 1))⟩ from Mod.set hb.own)
  rw [show h.tick.own i = h.own i from rfl] at HST
  obtain ⟨a0, a1, a2, a3, al⟩ := hb.c4
  have af3 := hb.live 3
  (try simp only [GW.to] at a0 a1 a2 a3 af3 al)
  have HB := Lib.hid hb
  have HR := Lib.hid hr
  clear hb hr
  cases hx : (h.own i == -1)
  case true =>
    have HV := Lib.hid (show h.mayLeave i = false by unfold HandS.mayLeave; rw [hx]; rfl)
    have HW := Lib.hid (show h.leave i = h.tick by unfold HandS.leave; rw [HV.out]; rfl)
    go_enter Tryz.func88, Tryz.ntmps88
    go_wp2_with fail
    refine HST.out.mono ?_
    rintro e w1 ⟨rfl, rfl⟩
    go_wp2_with fail
    go_ret
    exact Does.of ⟨g.own, _⟩ rfl (by rw [HV.out]; try rfl) M0.out (by rw [HW.out]; exact HT.out)
  obtain ⟨k, rfl, hk⟩ := HandS.own_in hx
  have HV := Lib.hid (show h.mayLeave k = true by unfold HandS.mayLeave; rw [hx]; rfl)
  have HW := Lib.hid (show h.leave k = { h.tick with l := h.tick.l.set k (-1) } by unfold HandS.leave; rw [HV.out, if_pos rfl, Int.toNat_natCast]; rfl)
  have B1 := Lib.hid (HB.out.set 3 (.int .i64 (h.count + 1)))
  have R1 := Lib.hid (HR.out.setOther 3 (.int .i64 (h.count + 1)) (fun x hx => HR.out.ne_type HB.out (by decide) hx))
  have hlen := H.len
  obtain ⟨r, rfl, hrl, ho, hcell, hfr⟩ := HR.out.block (by omega)
  have hrb : b ≠ r := HR.out.ne_type HB.out (by decide) rfl
  have hrb2 : r ≠ b := fun e => hrb e.symm
  have k0 := hcell k (.int .i64 (h.l.getD k 0)) (by simp [List.getD_eq_getElem?_getD, hk])
  have kf := hfr k
  have HP := Lib.hid (HandAt.put (-1) HT.out (show k < h.tick.l.length from hk) B1.out)
  (try simp only at k0 kf hrl)
  clear hcell hfr H
  generalize h.l.getD k 0 = x at *
  go_enter Tryz.func88, Tryz.ntmps88
  go_wp2_with fail
  refine HST.out.mono ?_
  rintro e w1 ⟨rfl, rfl⟩
  go_wp2_with fail
  go_ret
  exact Does.of ⟨g.own, (g.w.setCell ⟨b, 3, none⟩ (.int .i64 (h.count + 1))).setCell ⟨r, k, none⟩ (.int .i64 (-1))⟩ rfl (by rw [HV.out]; try rfl) (Mod.st M0.out HP.out.2) (by rw [HW.out]; exact HP.out.1)
theorem hand_join (g : GW) (t b : Nat) (i : Int) (h : HandS) (H : HandAt g t b h) (hc : 0 ≤ h.count ∧ h.count ≤ 1099511627776) :
    Calls Tryz.prog 26 #[.pointer (some ⟨b, 0, none⟩), .int .i64 i] g.w (Does (h.joined i) g (fun x => x = t) (fun g' => HandAt g' t b (h.join i))) := by
  have HT := Lib.hid H.tick
  obtain ⟨A, c, hb, hr⟩ := H.ex
  obtain ⟨hc0, hc1⟩ := hc
  have M0 := Lib.hid (show Mod (fun x => x = t) g ⟨g.own, g.w.setCell ⟨b, 3, none⟩ (.int .i64 (h.count + 1))⟩ from Mod.set hb.own)
  have HB := Lib.hid hb
  have HR := Lib.hid hr
  have hlen := H.len
  obtain ⟨a0, a1, a2, a3, al⟩ := hb.c4
  have af3 := hb.live 3
  (try simp only [GW.to] at a0 a1 a2 a3 af3 al)
  clear hb hr
  cases hin : inB i h.l.length
  · have hm : h.mayJoin i = false := by unfold HandS.mayJoin; rw [hin]; rfl
    have HV := Lib.hid (show h.joined i = .tuple #[.int .i64 0, .bool false, .bool false] by unfold HandS.joined; rw [hm]; rfl)
    have HW := Lib.hid (show h.join i = h.tick by unfold HandS.join; rw [hm]; rfl)
    have hq := inB_false hin
    clear hm hin H
    by_cases h0 : i < 0
    · have d0 : decide (i < 0) = true := decide_eq_true h0
      clear hq
      go_enter Tryz.func26, Tryz.ntmps26
      go_wp2_with fail
      go_ret3
      exact Does.of ⟨g.own, _⟩ rfl (by rw [HV.out]; try rfl) M0.out (by rw [HW.out]; exact HT.out)
    · have d0 : decide (i < 0) = false := decide_eq_false h0
      have d1 : decide ((h.l.length : Int) ≤ i) = true := decide_eq_true (by omega)
      clear hq
      go_enter Tryz.func26, Tryz.ntmps26
      go_wp2_with fail
      go_ret3
      exact Does.of ⟨g.own, _⟩ rfl (by rw [HV.out]; try rfl) M0.out (by rw [HW.out]; exact HT.out)
  obtain ⟨k, rfl, hk⟩ := inB_true hin
  have d0 : decide ((k : Int) < 0) = false := decide_eq_false (by omega)
  have d1 : decide ((h.l.length : Int) ≤ k) = false := decide_eq_false (by omega)
  obtain ⟨r, rfl, hrl, ho, hcell, hfr⟩ := HR.out.block (by omega)
  have hrb : b ≠ r := HR.out.ne_type HB.out (by decide) rfl
  have hrb2 : r ≠ b := fun e => hrb e.symm
  have k0 := hcell k (.int .i64 (h.l.getD k 0)) (by simp [List.getD_eq_getElem?_getD, hk])
  have kf := hfr k
  have B1 := Lib.hid (HB.out.set 3 (.int .i64 (h.count + 1)))
  have HP := Lib.hid (HandAt.put h.status HT.out (show k < h.tick.l.length from hk) B1.out)
  have HJ := Lib.hid (show h.mayJoin k = (h.l.getD k 0 == -1) by unfold HandS.mayJoin; rw [hin, Int.toNat_natCast]; rfl)
  (try simp only at k0 kf hrl)
  clear hcell hfr H hin
  generalize h.l.getD k 0 = x at *
  cases hx : (x == -1)
  · have hxx : (x != -1) = true := by unfold bne; rw [hx]; rfl
    have HV := Lib.hid (show h.joined k = .tuple #[.int .i64 0, .bool false, .bool false] by unfold HandS.joined; rw [HJ.out, hx]; rfl)
    have HW := Lib.hid (show h.join k = h.tick by unfold HandS.join; rw [HJ.out, hx]; rfl)
    clear hx
    go_enter Tryz.func26, Tryz.ntmps26
    go_wp2_with fail
    go_ret3
    exact Does.of ⟨g.own, _⟩ rfl (by rw [HV.out]; try rfl) M0.out (by rw [HW.out]; exact HT.out)
  · have hxx : (x != -1) = false := by unfold bne; rw [hx]; rfl
    have HV := Lib.hid (show h.joined k = .tuple #[.int .i64 h.status, .bool h.sense, .bool true] by unfold HandS.joined; rw [HJ.out, hx]; rfl)
    have HW := Lib.hid (show h.join k = { h.tick with l := h.tick.l.set k h.status } by unfold HandS.join; rw [HJ.out, hx, if_pos rfl, Int.toNat_natCast]; rfl)
    clear hx
    have R1 := Lib.hid (HR.out.setOther 3 (.int .i64 (h.count + 1)) (fun x hx => HR.out.ne_type HB.out (by decide) hx))
    go_enter Tryz.func26, Tryz.ntmps26
    go_upto_region 4 with fail
    generalize g.w.setCell ⟨b, 3, none⟩ (.int .i64 (h.count + 1)) = w0 at *
    clear a0 a1 a2 a3 af3 al k0 kf
    obtain ⟨a0, a1, a2, a3, al⟩ := B1.out.c4
    (try simp only [GW.to] at a0 a1 a2 a3 al)
    obtain ⟨r', hA, hrl', ho', hcell, hfr⟩ := R1.out.block (by omega)
    injection hA with hA
    injection hA with hA
    subst hA
    obtain ⟨vk, hvk⟩ : ∃ v, (h.l.map (Value.int .i64))[k]? = some v := ⟨_, List.getElem?_eq_getElem (by simp; omega)⟩
    have k0 := hcell k vk hvk
    have kf := hfr k
    simp only at k0 kf hrl'
    clear hcell hfr hvk
    refine wp_region_mixed [true, true, true, true, true, true, true, true, true, true, false] 1 10 (by kernel_rfl) (by kernel_rfl) (by kernel_rfl) ?_ (by decide) (by decide) (by decide) (by kernel_rfl) ?_
    · intro c a d v w h; cases d <;> exact h
    intro X00
    simp only [pickOps]
    repeat (go_big_quiet_step (fail))
    refine wpQuiet_nil (fun X0 => ?_)
    clear X00
    refine wpAnyM_last 10 _ (by kernel_rfl) (by kernel_rfl) rfl rfl (fun X1 K Q' hK => ?_)
    go_simp
    refine hK _ _ (fun X2 => ?_)
    clear hK K Q'
    (try go_simp)
    obtain ⟨own2, m2⟩ : ∃ own2, Mod (fun _ => False) ⟨g.own, w0.setCell ⟨r, k, none⟩ (.int .i64 h.status)⟩ ⟨own2, (w0.setCell ⟨r, k, none⟩ (.int .i64 h.status)).patch ⟨X0.blocks ++ (X1.blocks ++ X2.blocks), X2.drawn⟩⟩ := ⟨_, Mod.pt (Mod.refl _ _) _⟩
    generalize (w0.setCell ⟨r, k, none⟩ (.int .i64 h.status)).patch ⟨X0.blocks ++ (X1.blocks ++ X2.blocks), X2.drawn⟩ = w2 at *
    have H2 := Lib.hid (HP.out.1.keep m2 id)
    have M2 := Lib.hid ((Mod.st (i := k) (v := .int .i64 h.status) M0.out HP.out.2).trans (m2.mono (S := fun x => x = t) (fun _ => False.elim)))
    clear a0 a1 a2 a3 al k0 kf m2
    obtain ⟨A2, c2, hb2, hr2⟩ := H2.out.ex
    obtain ⟨a0, a1, a2, a3, al⟩ := hb2.c4
    (try simp only [GW.to] at a0 a1 a2 a3 al)
    clear hb2 hr2
    (try simp only at a0 a1 a2 a3)
    go_wp2_with fail
    refine wp_region_mixed [true, true, true, true, true, true, true, true, true, true, true] 0 11 (by kernel_rfl) (by kernel_rfl) (by kernel_rfl) ?_ (by decide) (by decide) (by decide) (by kernel_rfl) ?_
    · intro c a d v w h; cases d <;> exact h
    intro X00
    simp only [pickOps]
    repeat (go_big_quiet_step (fail))
    refine wpQuiet_nil (fun X0 => ?_)
    clear X00
    refine wpAnyM_done (by kernel_rfl) (fun X0' => ?_) _
    (try go_simp)
    go_wp2_with fail
    go_ret3
    exact Does.ext ⟨own2, w2⟩ (by (repeat (first | (with_reducible (first | assumption | exact zR _ | exact zM _ _ _ _)) | apply zA | refine zS ?_ (by first | exact zL _ | exact zK _ _ | assumption) _ | apply zP | apply zD | apply zN))) (by rw [HV.out]; try rfl) M2.out (fun g2 m => by rw [HW.out]; exact H2.out.keep m id)
end Go.Proofs.YtoaehfdjffejeaaGreat

/-
  Merged: XLineT, XLineU, XLineD.
-/
/-
  line: the first that waits (first, First), Fail, Begin, End.
-/
namespace Go
def upto {α : Type} (f : α → α) (l : List α) (k : Nat) : List α := (l.take k).map f ++ l.drop k
end Go
namespace Go.Proofs.YtoaehfdjffejeaaGreat
open Go Go.RowKit
set_option linter.unusedVariables false
set_option linter.unnecessarySimpa false
set_option linter.unusedSimpArgs false
set_option maxHeartbeats 2000000
end Go.Proofs.YtoaehfdjffejeaaGreat
/-
  line: Fail, Grant, Begin, End.
-/
namespace Go
def failL (L : List Ent) : List Ent := if placeOf waitB L < 0 then L else L.modify (placeOf waitB L).toNat fun e => { e with state := 2 }
def grantL (L : List Ent) (got : List Int) (a : Int) : List Ent := if placeOf waitB L < 0 then L else L.modify (placeOf waitB L).toNat fun e => { e with state := 1, got := got, at_ := a }
def noteE (e : Ent) : Ent := { e with noted := waitB e }
def endE (e : Ent) : Ent := { e with cycles := if e.noted && waitB e then e.cycles + 1 else e.cycles, noted := false }
def EntM.failed (m : EntM) : EntM := ⟨{ m.e with state := 2 }, m.A, m.cap⟩
def EntM.gr1 (m : EntM) : EntM := ⟨{ m.e with state := 1 }, m.A, m.cap⟩
def EntM.gr2 (m : EntM) (got : List Int) (A : Option Addr) (c : Nat) : EntM := ⟨{ m.e with state := 1, got := got }, A, c⟩
def EntM.gr3 (m : EntM) (got : List Int) (a : Int) (A : Option Addr) (c : Nat) : EntM := ⟨{ m.e with state := 1, got := got, at_ := a }, A, c⟩
def EntM.noted' (m : EntM) : EntM := ⟨noteE m.e, m.A, m.cap⟩
def EntM.ended (m : EntM) : EntM := ⟨endE m.e, m.A, m.cap⟩
def EntM.cyc (m : EntM) (v : Int) : EntM := ⟨{ m.e with cycles := v }, m.A, m.cap⟩
def EntM.unn (m : EntM) : EntM := ⟨{ m.e with noted := false }, m.A, m.cap⟩
end Go
namespace Go.Proofs.YtoaehfdjffejeaaGreat
open Go Go.RowKit
set_option linter.unusedVariables false
set_option linter.unnecessarySimpa false
set_option linter.unusedSimpArgs false
set_option maxHeartbeats 2000000
structure LineIn (g : GW) (t b : Nat) (A : Option Addr) (c : Nat) (ms : List EntM) : Prop where
  blk : Blk g t b 191 [.slice A ms.length c]
  row : Row g t 218 8 (.slice A ms.length c) ms.length (ms.flatMap EntM.cells)
  at_ : ∀ m ∈ ms, m.At g (t + 1)
end Go.Proofs.YtoaehfdjffejeaaGreat
/-
  line: slices.Delete at its entries; Drop.
-/
namespace Go
open Go.RowKit
def setL : List Value → Nat → List Value → List Value
  | xs, _, [] => xs
  | xs, i, v :: vs => setL (xs.set i v) (i + 1) vs
variable {P : Program}
end Go
namespace Go.Proofs.YtoaehfdjffejeaaGreat
open Go Go.RowKit
set_option linter.unusedVariables false
set_option linter.unnecessarySimpa false
set_option linter.unusedSimpArgs false
set_option maxHeartbeats 4000000
def zeroEnt : Value := .agg #[.int .i64 0, .int .i64 0, .int .i64 0, .int .i64 0, .int .i64 0, .int .i64 0, .slice none 0 0, .bool false]
def zeroCs : List Value := [.int .i64 0, .int .i64 0, .int .i64 0, .int .i64 0, .int .i64 0, .int .i64 0, .slice none 0 0, .bool false]
def dropL (th : Int) (L : List Ent) : List Ent := if placeOf (ofB th) L < 0 then L else L.eraseIdx (placeOf (ofB th) L).toNat
end Go.Proofs.YtoaehfdjffejeaaGreat

/-
  Merged: XSpaceE, XSpaceF.
-/
/-
  space: Begin, End, Look.
-/
namespace Go
open Go.RowKit
def ent0 : Ent := ⟨0, 0, 0, 0, 0, 0, [], false⟩
end Go
namespace Go.Proofs.YtoaehfdjffejeaaGreat
open Go Go.RowKit
set_option linter.unusedVariables false
set_option linter.unnecessarySimpa false
set_option linter.unusedSimpArgs false
set_option maxHeartbeats 4000000
def beginS (S : SpaceS) : SpaceS := { S.tick with forced := false, line := S.line.map noteE }
def endS (S : SpaceS) : SpaceS := { S.tick with line := S.line.map endE }
def look (S : SpaceS) (t : Int) : AskR :=
  if placeOf (ofB t) S.line < 0 then ((3, [], -1), S.tick)
  else if (S.line.getD (placeOf (ofB t) S.line).toNat ent0).state = 0 then ((0, [], -1), S.tick)
  else if (S.line.getD (placeOf (ofB t) S.line).toNat ent0).state = 2 then ((2, [], -1), { S.tick with line := dropL t S.line })
  else ((1, (S.line.getD (placeOf (ofB t) S.line).toNat ent0).got, (S.line.getD (placeOf (ofB t) S.line).toNat ent0).at_), { S.tick with line := dropL t S.line })
end Go.Proofs.YtoaehfdjffejeaaGreat
/-
  space: Serve.
-/
namespace Go
def Ent.fair2 (e : Ent) : Prop := 1 ≤ e.frags ∧ 0 ≤ e.spine
def Ent.fair (e : Ent) : Prop := 1 ≤ e.frags ∧ e.frags ≤ 1099511627776 ∧ 0 ≤ e.spine ∧ e.spine ≤ 1099511627776
end Go
namespace Go.Proofs.YtoaehfdjffejeaaGreat
open Go Go.RowKit
set_option linter.unusedVariables false
set_option linter.unnecessarySimpa false
set_option linter.unusedSimpArgs false
set_option maxHeartbeats 4000000
def serveE (S : SpaceS) : Ent := S.line.getD (placeOf waitB S.line).toNat ent0
def serveYes (S : SpaceS) (got : List Int) (sp : Int) (sense : Bool) : SpaceS := { takesS S got sp with tab := S.tab.setAll got 2 sense, line := grantL S.line got (takesAt S got sp) }
def serve (S : SpaceS) (sense : Bool) : Bool × SpaceS :=
  if placeOf waitB S.line < 0 then (false, S.tick)
  else if S.fits (serveE S).frags (serveE S).spine then (true, serveYes S.tick (askGot S (serveE S).frags) (serveE S).spine sense)
  else if 2 ≤ (serveE S).cycles then (true, { S.tick with line := failL S.line })
  else (false, S.tick)
end Go.Proofs.YtoaehfdjffejeaaGreat

/-
  coil: Left, Done.
-/
namespace Go.Proofs.YtoaehfdjffejeaaGreat
open Go Go.RowKit
set_option linter.unusedVariables false
set_option linter.unnecessarySimpa false
set_option linter.unusedSimpArgs false
set_option maxHeartbeats 2000000
end Go.Proofs.YtoaehfdjffejeaaGreat

/-
  spolaw21: made.
-/
namespace Go.Proofs.YtoaehfdjffejeaaGreat
open Go Go.RowKit
set_option linter.unusedVariables false
set_option linter.unnecessarySimpa false
set_option linter.unusedSimpArgs false
set_option maxHeartbeats 4000000
end Go.Proofs.YtoaehfdjffejeaaGreat

/-
  space: what asking comes to at small states. No walk here.
-/
namespace Go.Proofs.YtoaehfdjffejeaaGreat
open Go Go.RowKit
set_option linter.unusedVariables false
def c4 (A : Option Addr) : Cnf := ⟨4, 0, 0, 1, 1, 0, 1, 0, A, 1, [⟨false, none, 0, []⟩]⟩
def s4 (A : Option Addr) : SpaceS := SpaceS.fresh (c4 A) (TabS.fresh 4)
def cS (frags spine cache : Int) (A : Option Addr) : Cnf := ⟨frags, spine, 0, 3, 1, cache, 1, 0, A, 1, [⟨false, none, 0, []⟩]⟩
def sR (room : Int) (A : Option Addr) : SpaceS := SpaceS.fresh (cS 20 room 0 A) (TabS.fresh 20)
def sR1 (room sp : Int) (A : Option Addr) : SpaceS := (ask (sR room A) 0 6 sp true).2
def sRn (room sp : Int) (A : Option Addr) : Nat → SpaceS
  | 0 => sR1 room sp A
  | n + 1 => (ask (sRn room sp A n) 1 1 0 true).2
end Go.Proofs.YtoaehfdjffejeaaGreat

/-
  sporef.Ints.
-/
namespace Go
end Go
namespace Go.Proofs.YtoaehfdjffejeaaGreat
open Go Go.RowKit
set_option linter.unusedVariables false

end Go.Proofs.YtoaehfdjffejeaaGreat

/-
  space: Sweep; spolaw21.first.
-/
namespace Go
end Go
namespace Go.Proofs.YtoaehfdjffejeaaGreat
open Go Go.RowKit
set_option linter.unusedVariables false
set_option linter.unnecessarySimpa false
set_option linter.unusedSimpArgs false
set_option maxHeartbeats 4000000
def sweeps (S : SpaceS) (i : Int) (sense : Bool) : Bool := S.tab.state i == 2 && !S.tab.black i sense
def sweepS (S : SpaceS) (i : Int) (sense : Bool) : SpaceS := if sweeps S i sense then { S.tick with tab := S.tab.set i 0 false false, pool := S.pool.give i } else S.tick
end Go.Proofs.YtoaehfdjffejeaaGreat

/-
  space: Force, Turn, Done, Wants of any state.
-/
namespace Go.Proofs.YtoaehfdjffejeaaGreat
open Go Go.RowKit
set_option linter.unusedVariables false
set_option linter.unnecessarySimpa false
set_option linter.unusedSimpArgs false
set_option maxHeartbeats 4000000
def forceS (S : SpaceS) : SpaceS := { S.tick with forced := true }
def turnS (S : SpaceS) : SpaceS := { S.tick with coil := S.coil.turn }
def doneS (S : SpaceS) : SpaceS := { S.tick with coil := S.coil.done }
def wantsS (S : SpaceS) : Bool := decide (0 < Ent.wait S.line) || (decide ((S.pool.free : Int) < S.c.low) || S.forced)
end Go.Proofs.YtoaehfdjffejeaaGreat

/-
  space: Drain.
-/
namespace Go
open Go.RowKit
def SpaceS.freed (S : SpaceS) (l : List Int) : SpaceS := l.foldl (fun S i => { S with tab := S.tab.set i 0 false false, pool := S.pool.give i }) S
end Go
namespace Go.Proofs.YtoaehfdjffejeaaGreat
open Go Go.RowKit
set_option linter.unusedVariables false
set_option linter.unnecessarySimpa false
set_option linter.unusedSimpArgs false
set_option maxHeartbeats 4000000
def drainN (S : SpaceS) (t : Int) : Int := if inB t S.stocks.length then ((stockOf S t).l.length : Int) else 0
def drainS (S : SpaceS) (t : Int) : SpaceS := if inB t S.stocks.length then ({ S.tick with stocks := S.stocks.set t.toNat ⟨[], (stockOf S t).most⟩ }).freed (stockOf S t).l else S.tick
theorem space_drain (t : Int) (g : GW) (B b bt : Nat) (S : SpaceS) (h : SpaceAt g B b bt S) (hB : 100 ≤ B) (hc : 0 ≤ S.count ∧ S.count ≤ 1099511627776) :
    Calls Tryz.prog 52 #[.pointer (some ⟨b, 0, none⟩), .int .i64 t] g.w (Does (.int .i64 (drainN S t)) g (inst B) (fun g' => SpaceAt g' B b bt (drainS S t))) := by
  obtain ⟨bp, bk, bl, A, cs, cm, bs, h⟩ := h
  obtain ⟨hc0, hc1⟩ := hc
  have M0 := Lib.hid (show Mod (inst B) g ⟨g.own, g.w.setCell ⟨b, 3, none⟩ (.int .i64 (S.count + 1))⟩ from Mod.set (by rw [h.blk.own]; exact ⟨by omega, by omega⟩))
  have H0 := Lib.hid (show SpaceIn ⟨g.own, g.w.setCell ⟨b, 3, none⟩ (.int .i64 (S.count + 1))⟩ B b bt S.tick bp bk bl A cs cm bs from h.tick)
  have HST := Lib.hid (space_stock t h.tick)
  obtain ⟨a0, a1, a2, a3, a4, a5, a6, a7, a8, a9, a10, a11, a12, a13, a14, a15, al⟩ := h.blk.c16
  have af3 := h.blk.live 3
  (try simp only [GW.to] at a0 a1 a2 a3 a4 a5 a6 a7 a8 a9 a10 a11 a12 a13 a14 a15 af3 al)
  clear h
  cases hin : inB t S.stocks.length
  · have HV := Lib.hid (show drainN S t = 0 by unfold drainN; rw [hin]; rfl)
    have HW := Lib.hid (show drainS S t = S.tick by unfold drainS; rw [hin]; rfl)
    simp only [hin, Bool.false_eq_true, if_false] at HST
    clear hin
    go_enter Tryz.func52, Tryz.ntmps52
    go_wp2_with fail
    refine HST.out.mono ?_
    rintro e w1 ⟨rfl, rfl⟩
    go_wp2_with fail
    go_ret
    exact Does.of ⟨g.own, _⟩ rfl (by rw [HV.out]; try rfl) M0.out (by rw [HW.out]; exact ⟨_, _, _, _, _, _, _, H0.out⟩)
  · obtain ⟨k, rfl, hk⟩ := inB_true hin
    obtain ⟨s, hs⟩ : ∃ s, S.stocks[k]? = some s := ⟨S.stocks[k], List.getElem?_eq_getElem hk⟩
    obtain ⟨x, hx⟩ : ∃ x, bs[k]? = some x := ⟨bs[k]'(by have := H0.out.blen; rw [this]; exact hk), List.getElem?_eq_getElem _⟩
    have HSO := Lib.hid (show stockOf S k = s by unfold stockOf; rw [Int.toNat_natCast, List.getD_eq_getElem?_getD, hs]; rfl)
    have HV := Lib.hid (show drainN S k = (s.l.length : Int) by unfold drainN; rw [hin, HSO.out]; rfl)
    have HW := Lib.hid (show drainS S k = ({ S.tick with stocks := S.stocks.set k ⟨[], s.most⟩ }).freed s.l by unfold drainS; rw [hin, HSO.out, Int.toNat_natCast]; rfl)
    have hbx : bs.getD k 0 = x := by rw [List.getD_eq_getElem?_getD, hx]; rfl
    simp only [hin, if_true, Int.toNat_natCast, hbx] at HST
    have HSA := Lib.hid (H0.out.stock k x s hx hs)
    have HX := Lib.hid hx
    have HKL := Lib.hid hk
    have HD := Lib.hid (stock_drain _ _ _ _ HSA.out)
    have hsl : s.l.length ≤ 8 := by have h1 := HSA.out.most; have h2 := HSA.out.len; omega
    clear hin hbx hs hx hk
    go_enter Tryz.func52, Tryz.ntmps52
    go_wp2_with fail
    refine HST.out.mono ?_
    rintro e w1 ⟨rfl, rfl⟩
    go_wp2_with fail
    refine HD.out.mono ?_
    rintro e w2 ⟨v, own2, rfl, m2, s2, r2⟩
    obtain ⟨A2, c2, rfl⟩ := own_form r2.row
    have M2 := Lib.hid (M0.out.trans (m2.mono (fun y (hy : y = B + 10 + k) => (⟨by have := HKL.out; omega, by have := HKL.out; have := H0.out.few; simp only [SpaceS.tick] at this; omega⟩ : inst B y))))
    have H2 := Lib.hid (H0.out.withStock HKL.out HX.out m2 s2)
    have R2 := Lib.hid r2
    clear m2 s2 r2 a0 a1 a2 a3 a4 a5 a6 a7 a8 a9 a10 a11 a12 a13 a14 a15 al HST HD
    go_wp2_with fail
    go_loopw [25] (fun i wr => ∃ (j : Nat) (own : Nat → Nat), j ≤ s.l.length ∧ i = .int .i64 j ∧ Hid (Mod (inst B) g ⟨own, wr⟩) ∧ Hid (SpaceIn ⟨own, wr⟩ B b bt (({ S.tick with stocks := S.stocks.set k ⟨[], s.most⟩ }).freed (s.l.take j)) bp bk bl A cs cm bs) ∧ Hid (Row ⟨own, wr⟩ (B + 10 + k) 3 1 (.slice A2 s.l.length c2) s.l.length (s.l.map (Value.int .i64)))) (fun i _ => s.l.length - (intOf i).toNat)
    case atStart => exact ⟨0, own2, Nat.zero_le _, rfl, M2, H2, R2⟩
    case round =>
      obtain ⟨j, own3, hj, rfl, M3, H3, R3⟩ := hrel
      clear M2 H2 R2
      by_cases hlt : j < s.l.length
      · obtain ⟨q, o, hA, hq, hcell⟩ := words_at R3.out.cells hlt
        have k0 := hcell j hlt
        simp only at k0 hq
        have HS := Lib.hid (show ({ S.tick with stocks := S.stocks.set k ⟨[], s.most⟩ }).freed (s.l.take (j + 1)) = { ({ S.tick with stocks := S.stocks.set k ⟨[], s.most⟩ }).freed (s.l.take j) with tab := (({ S.tick with stocks := S.stocks.set k ⟨[], s.most⟩ }).freed (s.l.take j)).tab.set (s.l.getD j 0) 0 false false, pool := (({ S.tick with stocks := S.stocks.set k ⟨[], s.most⟩ }).freed (s.l.take j)).pool.give (s.l.getD j 0) } by
          unfold SpaceS.freed
          rw [List.take_add_one, List.getElem?_eq_getElem hlt, List.getD_eq_getElem?_getD, List.getElem?_eq_getElem hlt, List.foldl_append]
          rfl)
        generalize s.l.getD j 0 = y at *
        subst hA
        clear hcell
        go_wp2_with fail
        refine (space_frees y H3.out hB).mono ?_
        rintro e w4 ⟨rfl, own4, m4, h4⟩
        have M4 := Lib.hid (M3.out.trans (m4.mono (fun z (hz : z = B + 50 ∨ z = B + 1) => (⟨by omega, by omega⟩ : inst B z))))
        have H4 := Lib.hid h4
        have R4 := Lib.hid (R3.out.keep m4 (by have := HKL.out; have := H0.out.few; simp only [SpaceS.tick] at this; omega))
        clear m4 h4
        go_wp2_with fail
        go_roundw
        case rel => exact ⟨j + 1, own4, by omega, by go_num, M4, by rw [HS.out]; exact H4, R4⟩
        case measure => simp [intOf]; omega
      · obtain rfl : j = s.l.length := by omega
        have HS := Lib.hid (show s.l.take s.l.length = s.l from List.take_of_length_le (Nat.le_refl _))
        go_wp2_with fail
        go_ret
        rw [HS.out] at H3
        exact Does.of ⟨own3, _⟩ rfl (by rw [HV.out]; try rfl) M3.out (by rw [HW.out]; exact ⟨_, _, _, _, _, _, _, H3.out⟩)
end Go.Proofs.YtoaehfdjffejeaaGreat

